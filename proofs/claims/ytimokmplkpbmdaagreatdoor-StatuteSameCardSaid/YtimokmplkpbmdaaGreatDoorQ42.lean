/- A part of the proof: Ux Z8 Uz. -/
import Derived.Test.YtimokmplkpbmdaaGreatDoorQ41
set_option linter.all false
set_option maxRecDepth 100000
set_option maxHeartbeats 0
namespace Go.Proofs.YtimokmplkpbmdaaGreatDoor
open Go.RowKit
theorem Ir (s:ByteArray) (aX:List Ln) (w:World) (hL:cZ w) (hok:je s aX) (hF:nV (dD aX)) (hT:bg (dD aX)=0->AL (dD aX)/\dh (dD aX)≠[]/\(dh (dD aX)).length<=1000000000000):
  Calls Tryz.prog 12 #[.string s] w (afL (kN s aX) w):=(callsIn_wide (n:=6)).1 (Yx s aX w hL hok hF hT)
instance (t:Ty):Decidable (zI t):=by unfold zI;infer_instance
theorem KJ:AL tK:=⟨by decide,by decide,by decide,by decide⟩
theorem yA:nV tK:=qy _ _ _ (by decide) (fun s h=>List.mem_singleton.1 h) (by decide) (fun p h=>by simp at h;rcases h with rfl|rfl<;>simp) (by decide)
theorem FN {s:ByteArray} {aX:List Ln} {n c:Int} {w:World} (hL:cZ w) (hok:je s aX) (hF:nV (dD aX)) (hc:bg (dD aX)≠0) (hp:kN s aX=(⟨[],[],[]⟩,n,c)):
  Calls Tryz.prog 12 #[.string s] w fun e w'=>∃f sc p:Hd,e=.returned (.tuple #[.agg #[.slice f.a f.n f.c,.slice sc.a sc.n sc.c,.slice p.a p.n p.c],.int .i64 n,.int .i64 c])/\Below w.heap.size w w':=by
 refine (Ir s aX w hL hok hF (fun h=>absurd h hc)).mono ?_;rintro e w' ⟨f,sc,p,ss,ps,rfl,_,hb⟩;rw[hp];exact⟨f,sc,p,rfl,hb⟩
theorem adg {α β:Type} {l:List (α × β)} {a:α} (h:l.map Prod.fst=[a]):∃x,l=[(a,x)]:=by
 match l,h with
 |[⟨y,x⟩],h=>exact⟨x,by have:=(List.cons.inj h).1;rw[<-this]⟩
theorem adh {α β:Type} {l:List (α × β)} {a b:α} (h:l.map Prod.fst=[a,b]):∃x y,l=[(a,x),(b,y)]:=by
 match l,h with
 |[⟨y,x⟩,⟨y',x'⟩],h=>exact⟨x,x',by have h1:=(List.cons.inj h).1;have h2:=(List.cons.inj (List.cons.inj h).2).1;rw[<-h1,<-h2]⟩
theorem YG (w:World) (hL:cZ w):Calls Tryz.prog 12 #[.string Jc] w fun e w'=>∃(fa sa pa:Option Addr) (fc sc pc:Nat) (x y1 y2:Hd),e=.returned (.tuple #[.agg #[.slice fa 2 fc,.slice sa 1 sc,.slice pa 2 pc],.int .i64 0,.int .i64 0])/\
  dV w' tK [(kS,x)] [(iI,y1),(gG,y2)] ⟨fa,2,fc⟩ ⟨sa,1,sc⟩ ⟨pa,2,pc⟩/\Below w.heap.size w w':=by
 refine (Ir Jc OB w hL Vg (by rw[Jd];exact yA) (fun _=>by rw[Jd];exact⟨KJ,OE⟩)).mono ?_;rintro e w' ⟨f,sc,p,ss,ps,rfl,hl,hb⟩;rw[aaS] at hl⊢;obtain⟨fa,fn,fc⟩:=f;obtain⟨sa,sn,sc⟩:=sc;obtain⟨pa,pn,pc⟩:=p;obtain⟨x,rfl⟩:=adg hl.sl;obtain⟨y1,y2,rfl⟩:=adh hl.pl;obtain rfl:fn=2:=hl.f.len;obtain rfl:sn=1:=hl.s.len;obtain rfl:pn=2:=hl.p.len;exact⟨fa,sa,pa,fc,sc,pc,x,y1,y2,rfl,hl,hb⟩
theorem OM {w:World} {A:Option Addr} {cs:List Value} (h:Rd w A cs) (h0:0<cs.length):∃b o,A=some ⟨b,o,none⟩/\b<w.heap.size/\∀i v,cs[i]?=some v->w.cell? ⟨b,o+i,none⟩=some v:=by
 obtain⟨b,o,hA,hb,hc⟩:=h.at_ h0;exact⟨b,o,hA,hb,fun i v hv=>by obtain⟨hi,e⟩:=List.getElem?_eq_some_iff.1 hv;rw[<-e];exact hc i hi⟩
theorem Jg {t:Ty} (h:mD t=true):zI t:=by
 have hs:∀m∈seven,(-1000<=m/\m<=1000)/\jH (aS m):=by decide+kernel
 rcases rQ h with rfl|⟨_,h2,h3⟩
 ·have k:=hs 0 (by decide);exact⟨k.1,k.1,k.2,k.2⟩
 ·exact⟨(hs _ h2).1,(hs _ h3).1,(hs _ h2).2,(hs _ h3).2⟩
theorem aa6 {l:Lw} (h:bg l=0):AL l:=by
 obtain⟨_,hg⟩:=qO h;have hf:∀d∈l.facts,vH (.f d):=fun d hd=>hg _ (List.mem_append_left _ (List.mem_map_of_mem hd))
 have hs:∀x∈l.aU,vH (.s x):=fun x hx=>hg _ (List.mem_append_right _ (List.mem_append_left _ (List.mem_map_of_mem hx)))
 have hp:∀x∈l.aH,vH (.p x):=fun x hx=>hg _ (List.mem_append_right _ (List.mem_append_right _ (List.mem_map_of_mem hx)))
 exact⟨fun d hd=>Jg (hf d hd).2,fun x hx=>Jg (hs x hx).2.1,fun x hx=>Jg (hp x hx).2.1,fun x hx=>Nat.le_trans (hs x hx).2.2.2.1 (by omega)⟩
theorem FU {l:Lw} (h0:l.facts≠[]∨l.aH≠[]) (h:bg l=0):AL l/\dh l≠[]/\(dh l).length<=1000000000000:=by
 refine⟨aa6 h,fun e=>?_,?_⟩
 ·unfold dh at e;simp only[List.append_eq_nil_iff,List.flatMap_eq_nil_iff] at e;rcases h0 with h0|h0
  ·obtain⟨d,hd⟩:=List.exists_mem_of_ne_nil _ h0;have:=e.1.1 d hd;simp[uw,U6,bF,Ib] at this
  ·obtain⟨d,hd⟩:=List.exists_mem_of_ne_nil _ h0;have:=e.2 d hd;simp[rZ,pvW,bF,Og] at this
 ·have h1:=OT h;have h2:=Nat.mul_le_mul_right 50001 (qO h).1;omega
theorem RF {α:Type} {W:World} {g:Nat} {t:TypeId} {cs:List Value} (hb:aj W g t cs) (enc:α->List Value) (xs:List α) (hx:xs.flatMap enc=cs) (n:Nat) (hn:n=xs.length) (hm:n<=maxLen):aJ W enc xs ⟨some ⟨g,0,none⟩,n,n⟩:=
 ⟨hn,Nat.le_refl _,hm,.inr ⟨g,0,rfl,hb.lt,fun i h=>by rw[Nat.zero_add,hb.cells i,<-hx];exact List.getElem?_eq_getElem h⟩⟩
theorem agm {w W:World} {x y1 y2:Hd} {f s p:Hd} (h:dV w tK [(kS,x)] [(iI,y1),(gG,y2)] f s p) (hb:Below w.heap.size w W) (fs:List Dc) (f':Hd) (hr:aJ W Dc.cells fs f'):dV W ⟨fs,[kS],[iI,gG]⟩ [(kS,x)] [(iI,y1),(gG,y2)] f' s p:=by
 have k:=h.below hb;exact⟨hr,k.s,k.p,rfl,rfl,k.sb,k.pb⟩
theorem D5 {W:World} {l:Lw} {ss:List (Sc × Hd)} {ps:List (Pv × Hd)} {f s p:Hd} (h:dV W l ss ps f s p) (hL:cZ W) (hf:nV l) {c:Int} (hc:bg l=c):Calls Tryz.prog 10 #[.agg #[.slice f.a f.n f.c,.slice s.a s.n s.c,.slice p.a p.n p.c]] W fun e w'=>e=.returned (.int .i64 c)/\Below W.heap.size W w':=by
 have k:=Au l ss ps f s p W hL h hf;rw[hc] at k;exact k
def aa7 (y1 y2:Hd) (z:Pv × Hd):Prop:=(z.2=y1/\(z.1=iI∨z.1=Io∨z.1=Ip))∨(z.2=y2/\(z.1=gG∨z.1=Iq))
section
variable {w W:World} {x y1 y2:Hd} {f s p p':Hd}
theorem YJ (h:dV w tK [(kS,x)] [(iI,y1),(gG,y2)] f s p) (hb:Below w.heap.size w W) (hL:cZ W) (ps:List (Pv × Hd)) (hz:∀z∈ps,aa7 y1 y2 z) (hr:aJ W aA ps p') (hl:ps.length<=1000) {c:Int} (hc:bg ⟨[iM,iO],[kS],ps.map Prod.fst⟩=c):
  Calls Tryz.prog 10 #[.agg #[.slice f.a f.n f.c,.slice s.a s.n s.c,.slice p'.a p'.n p'.c]] W fun e w'=>e=.returned (.int .i64 c)/\Below W.heap.size W w':=by
 have k:=h.below hb;refine D5 (l:=⟨[iM,iO],[kS],ps.map Prod.fst⟩) ⟨k.f,k.s,hr,rfl,rfl,k.sb,fun z hz'=>?_⟩ hL (qy _ _ _ (by decide) (fun s h=>List.mem_singleton.1 h) (by decide) (fun q hq=>?_) (by rw[List.length_map];exact hl)) hc
 ·rcases hz z hz' with⟨e,e1⟩|⟨e,e1⟩
  ·have j:=k.pb (iI,y1) (by simp);rw[e];rcases e1 with e1|e1|e1<;>(rw[e1];exact j)
  ·have j:=k.pb (gG,y2) (by simp);rw[e];rcases e1 with e1|e1<;>(rw[e1];exact j)
 ·obtain⟨z,hz',rfl⟩:=List.mem_map.1 hq;rcases hz z hz' with⟨_,e1|e1|e1⟩|⟨_,e1|e1⟩<;>simp[e1]
theorem D6 (h:dV w tK [(kS,x)] [(iI,y1),(gG,y2)] f s p) (hb:Below w.heap.size w W) (hL:cZ W) {g:Nat} (z1 z2:Pv × Hd) (h1:aa7 y1 y2 z1) (h2:aa7 y1 y2 z2) (hk:aj W g 45 (aA z1++aA z2)) {c:Int} (hc:bg ⟨[iM,iO],[kS],[z1.1,z2.1]⟩=c):
  Calls Tryz.prog 10 #[.agg #[.slice f.a f.n f.c,.slice s.a s.n s.c,.slice (some ⟨g,0,none⟩) 2 2]] W fun e w'=>e=.returned (.int .i64 c)/\Below W.heap.size W w':=
 YJ (p':=⟨some ⟨g,0,none⟩,2,2⟩) h hb hL [z1,z2] (fun z hz=>by rcases List.mem_cons.1 hz with rfl|hz;exact h1;obtain rfl:=List.mem_singleton.1 hz;exact h2) (RF hk aA [z1,z2] (by simp[List.flatMap]) 2 rfl (by decide)) (by show (2:Nat)<=1000;decide) hc
end
structure QX (W X:World) (L:List (Nat × TypeId × List Value)):Prop where
 b:Below W.heap.size W X
 l:∀q∈L,W.heap.size<=q.1/\aj X q.1 q.2.1 q.2.2
section
variable {W X X':World} {L:List (Nat × TypeId × List Value)} {T:Nat} {t:TypeId} {cs:List Value}
theorem QX.step (h:QX W X L) (hb:Below X.heap.size X X'):QX W X' L:=⟨ah h.b hb,fun q hq=>⟨(h.l q hq).1,(h.l q hq).2.below hb (h.l q hq).2.lt⟩⟩
theorem QX.new (h:QX W X L) (hX:X.alloc (.cells cs.toArray t)=X'):QX W X' ((X.heap.size,t,cs)::L):=by
 obtain⟨k,hb⟩:=zA hX;have j:=h.step hb;refine⟨j.b,fun q hq=>?_⟩;rcases List.mem_cons.1 hq with rfl|hq
 ·exact⟨h.b.size,k⟩
 ·exact j.l q hq
theorem QX.two (h:QX W X L) (o:List Value) (u:TypeId):QX W ((X.alloc (.cells o.toArray u)).alloc (.cells cs.toArray t)) ((X.heap.size+1,t,cs)::(X.heap.size,u,o)::L):=by
 have k:=(h.new (cs:=o) (t:=u) rfl).new (cs:=cs) (t:=t) rfl;rw[World.size_alloc] at k;exact k
theorem QX.sw {a b:Nat × TypeId × List Value} (h:QX W X (a::b::L)):QX W X (b::a::L):=⟨h.b,fun q hq=>h.l q (by simp only[List.mem_cons] at hq⊢;rcases hq with h|h|h<;>simp[h])⟩
theorem QX.ne (h:QX W X L):∀q∈L,q.1≠X.heap.size:=fun q hq=>Nat.ne_of_lt (h.l q hq).2.lt
theorem QX.set (h:QX W X ((T,t,cs)::L)) (i:Nat) (v:Value) (hn:∀q∈L,q.1≠T):QX W (X.setCell ⟨T,i,none⟩ v) ((T,t,cs.set i v)::L):=by
 have k:=h.l (T,t,cs) (by simp);refine⟨h.b.setCell (p:=⟨T,i,none⟩) k.1 _,fun q hq=>?_⟩;rcases List.mem_cons.1 hq with rfl|hq
 ·exact⟨k.1,k.2.set i v⟩
 ·have j:=h.l q (by simp[hq]);exact⟨j.1,j.2.other (p:=⟨T,i,none⟩) (hn q hq) v⟩
theorem QX.hd (h:QX W X ((T,t,cs)::L)):aj X T t cs:=(h.l (T,t,cs) (by simp)).2
theorem QX.ix (h:QX W X L) (i:Nat) (hi:i<L.length):aj X L[i].1 L[i].2.1 L[i].2.2:=(h.l _ (List.getElem_mem hi)).2
end
theorem Vo (w:World) (hL:cZ w):Calls Tryz.prog 6 #[] w fun e w'=>e=.returned (.bool true)/\Below w.heap.size w w':=by
 have jU:Hid (∀W,Below w.heap.size w W->cZ W):=fun W hb=>hL.below hb
 have HP1:=zH (YG w hL);clear hL;go_enter Tryz.func6,Tryz.ntmps6;go_wp2_with fail;refine HP1.out.mono ?_;rintro e w1 ⟨fa,sa,pa,fc,sc,pc,x,y1,y2,rfl,vC,hb1⟩
 go_upto_region 2 with fail
 generalize hX:w1.alloc _=W1;obtain⟨hT,hA⟩:=zA hX;have HB1:=zH (ah hb1 hA);replace vC:=vC.below hA;generalize w1.heap.size=T1 at hT⊢;clear hX hA hb1 HP1;obtain⟨bf,qf,rfl,hbf,hcf⟩:=OM vC.f.rd (by decide);obtain⟨bp,qp,rfl,hbp,hcp⟩:=OM vC.p.rd (Nat.zero_lt_succ 23);have hc:=fun (X:World) (h:Below W1.heap.size W1 X)=>have a:=fun i v e=>(h.cell (p:=⟨bf,qf+i,none⟩) hbf).trans (hcf i v e);have b:=fun i v e=>(h.cell (p:=⟨bp,qp+i,none⟩) hbp).trans (hcp i v e);have c:=(hT.below h hT.lt).cells;And.intro (c) <| And.intro (a 1 _ rfl) <| And.intro (a 2 _ rfl) <| And.intro (a 3 _ rfl) <| And.intro (a 4 _ rfl) <| And.intro (a 5 _ rfl) <| And.intro (a 6 _ rfl) <| And.intro (a 7 _ rfl) <| And.intro (show X.cell? ⟨bp,qp,none⟩=some _ from b 0 _ rfl) <| And.intro (b 1 _ rfl) <| And.intro (b 2 _ rfl) <| And.intro (b 3 _ rfl) <| And.intro (b 4 _ rfl) <| And.intro (b 5 _ rfl) <| And.intro (b 6 _ rfl) <| And.intro (b 7 _ rfl) <| And.intro (b 8 _ rfl) <| And.intro (b 9 _ rfl) <| And.intro (b 10 _ rfl) <| And.intro (b 11 _ rfl) <| And.intro (b 12 _ rfl) <| And.intro (b 13 _ rfl) <| And.intro (b 14 _ rfl) <| And.intro (b 15 _ rfl) <| And.intro (b 16 _ rfl) <| And.intro (b 17 _ rfl) <| And.intro (b 18 _ rfl) <| And.intro (b 19 _ rfl) <| And.intro (b 20 _ rfl) <| And.intro (b 21 _ rfl) <| And.intro (b 22 _ rfl) <| b 23 _ rfl
 have eG:=zH vC;have oH:=uZ _ _ _ _ _ _ W1 (jU.out _ HB1.out) vC yA (fun _=>⟨KJ,OE⟩);unfold zJ dR at oH;rw[Je,if_pos rfl,Rw] at oH;replace oH:=zH oH;have hpc:2<=pc:=vC.p.cap;have ak6:¬pc=1:=by omega
 clear vC hcf hcp hT;have hl:=hc _ (Below.refl _ _);go_wp2_with fail;refine oH.out.mono ?_;rintro e w2 ⟨rfl,hb⟩;clear hl oH;have hl:=hc _ hb
 go_upto_region 3 with fail
 have hst:Jc.toList=[102,97,99,116,32,105,110,99,111,109,101,32,109,49,100,48,10,102,97,99,116,32,115,105,110,103,108,101,32,116,114,117,116,104,10,115,99,104,101,100,117,108,101,32,115,99,97,108,101,32,109,49,100,48,58,32,48,32,49,47,49,48,44,32,49,48,48,48,32,49,47,53,10,112,114,111,118,105,115,105,111,110,32,97,105,100,32,109,49,100,48,32,115,116,101,112,32,49,48,32,99,97,112,32,53,48,48,58,32,105,102,40,102,97,99,116,46,115,105,110,103,108,101,44,32,36,49,48,48,44,32,100,105,118,40,111,119,110,46,116,97,120,44,32,52,41,41,10,112,114,111,118,105,115,105,111,110,32,116,97,120,32,109,49,100,48,32,99,104,97,114,103,101,58,32,114,97,116,101,46,115,99,97,108,101,40,115,117,98,40,102,97,99,116,46,105,110,99,111,109,101,44,32,111,119,110,46,97,105,100,41,41,10]:=by rw[ByteArray.toList_eq];rfl
 go_wp2_with fail;refine (J7 _ _ _ _ _ _ w2 (eG.out.below hb) yA).mono ?_;rintro e w3 ⟨⟨a9,n9,c9⟩,rfl,Om,hb3⟩;obtain rfl:n9=9:=Om.len.trans aa0;have h:QX W1 w3 []:=⟨ah hb hb3,fun q hq=>by cases hq⟩
 clear hl hst Om hb hb3
 go_upto_region 5 with fail
 go_cut [6] from 76 to 91 (fun v X=>∃T g,v=.pointer (some ⟨T,0,none⟩)/\QX W1 X [(T,28,[.slice (some ⟨g,0,none⟩) 2 2,.slice sa 1 sc,.slice (some ⟨bp,qp,none⟩) 2 pc]),(g,36,Dc.cells ⟨⟨#[97,105,100]⟩,iM.ty⟩++Dc.cells iO)])
 case first=>
  refine dN (Below W1.heap.size W1) 99 h.b.drew (fun v hv hS=>?_);replace h:=h.step hv
  iterate 10 refine aW ?_
  refine aG 11 ?_;refine aG 12 ?_;refine aG 13 ?_;refine aG 14 ?_;refine F8 10 16 (Jq (fun _=>hS.alloc hS.size _) (fun hS=>?_)) (Jq (fun _=>hS.alloc hS.size _) (fun hS=>?_))
  ·refine aG 15 ?_;refine iy 16 (fun _=>hS.alloc hS.size _) (fun hS=>?_);refine iL 17 (fun _=>(h.two _ _).b) (fun _=>?_);refine dH ?_;go_wp2
   go_meet
   case rel=>exact⟨_,_,rfl,h.two _ _⟩
  ·refine iy 10 (fun _=>hS.alloc hS.size _) (fun hS=>?_);refine aG 15 ?_;refine iL 17 (fun _=>(h.two _ _).b) (fun _=>?_);refine dH ?_;go_wp2
   go_meet
   case rel=>exact⟨_,_,rfl,(h.two _ _).sw⟩
 case rest=>
 clear h;obtain⟨T6,g6,rfl,h⟩:=hcut
 go_upto_region 6 with fail
 refine dN (Below W1.heap.size W1) 99 h.b.drew (fun v hv hS=>?_);replace h:=h.step hv
 iterate 8 refine aW ?_
 refine iy 8 (fun _=>hS.alloc hS.size _) (fun hS=>?_);refine iL 9 (fun _=>(h.new rfl).b) (fun _=>?_);refine dH ?_;clear hS hv
 go_upto_region 7 with fail
 generalize hX:World.alloc _ _=X;replace h:=h.new hX;generalize v.heap.size=T7 at h⊢;clear hX
 go_cut [8] from 100 to 113 (fun u X=>∃T g,u=.pointer (some ⟨T,0,none⟩)/\QX W1 X [(T,28,[.slice (some ⟨bf,qf,none⟩) 2 fc,.slice sa 1 sc,.slice (some ⟨g,0,none⟩) 2 2]),(g,45,aA (gG,y2)++aA (iI,y1)),(T7,28,[.slice (some ⟨bf,qf,none⟩) 2 fc,.slice sa 1 sc,.slice (some ⟨bp,qp+12,none⟩) 1 (pc-1)]),(T6,28,[.slice (some ⟨g6,0,none⟩) 2 2,.slice sa 1 sc,.slice (some ⟨bp,qp,none⟩) 2 pc]),(g6,36,Dc.cells ⟨⟨#[97,105,100]⟩,iM.ty⟩++Dc.cells iO)])
 case first=>
  refine dN (Below W1.heap.size W1) 99 h.b.drew (fun v hv hS=>?_);replace h:=h.step hv
  iterate 12 refine aW ?_
  refine F8 12 14 (Jq (fun _=>hS.alloc hS.size _) (fun hS=>?_)) (Jq (fun _=>hS.alloc hS.size _) (fun hS=>?_))
  ·refine aG 13 ?_;refine iy 14 (fun _=>hS.alloc hS.size _) (fun hS=>?_);refine iL 15 (fun _=>(h.two _ _).b) (fun _=>?_);refine dH ?_;go_wp2
   go_meet
   case rel=>exact⟨_,_,rfl,h.two _ _⟩
  ·refine iy 12 (fun _=>hS.alloc hS.size _) (fun hS=>?_);refine aG 13 ?_;refine iL 15 (fun _=>(h.two _ _).b) (fun _=>?_);refine dH ?_;go_wp2
   go_meet
   case rel=>exact⟨_,_,rfl,(h.two _ _).sw⟩
 case rest=>
 clear h;obtain⟨T8,g8,rfl,h⟩:=hcut
 have HO5:Hid (∀W,Calls Tryz.prog 17 #[.int .i64 505] W fun e w'=>e=.returned (.agg #[.bool false,.string ⟨#[1,249]⟩,.string ⟨#[1]⟩])/\Below W.heap.size W w'):=fun W=>by
  have k:=QZ 505 W (by decide) (by decide);rw[show aC (505:Int).toNat=⟨#[1,249]⟩ by decide+kernel,show aC 1=⟨#[1]⟩ by decide+kernel] at k;exact k
 have HO0:Hid (∀W,Calls Tryz.prog 17 #[.int .i64 0] W fun e w'=>e=.returned (.agg #[.bool false,.string ⟨#[]⟩,.string ⟨#[1]⟩])/\Below W.heap.size W w'):=fun W=>by
  have k:=QZ 0 W (by decide) (by decide);rw[show aC (0:Int).toNat=⟨#[]⟩ by decide+kernel,show aC 1=⟨#[1]⟩ by decide+kernel] at k;exact k
 have HKN:Hid (∀W,Calls Tryz.prog 18 #[.int .i64 0,.int .i64 0] W fun e w'=>e=.returned (.agg #[.bool false,.int .i64 0,.int .i64 0])/\Below W.heap.size W w'):=fun W=>XZ 0 0 W
 have hl:=hc _ h.b
 go_upto_region 9 with fail
 generalize hX:World.alloc _ _=X;have hn:=h.ne;replace h:=h.new hX;clear hX hl;go_wp2_with fail;refine (HO5.out X).mono ?_;rintro e Y ⟨rfl,hb⟩;replace h:=h.step hb;have cK:=h.hd.cells;have fK:=h.hd.aI
 go_upto_region 10 with fail
 replace h:=((h.set 9 (.bool false) hn).set 10 (.string ⟨#[1,249]⟩) hn).set 11 (.string ⟨#[1]⟩) hn;simp only[List.set] at h;generalize World.setCell (World.setCell (World.setCell Y _ _) _ _) _ _=Z at h⊢;clear hn cK fK hb;have hl:=hc _ h.b
 go_upto_region 11 with fail
 generalize hX:World.alloc _ _=X;have hn:=h.ne;replace h:=h.new hX;clear hX hl;go_wp2_with fail;refine (HO0.out X).mono ?_;rintro e Y ⟨rfl,hb⟩;replace h:=h.step hb;have cK:=h.hd.cells;have fK:=h.hd.aI
 go_upto_region 12 with fail
 replace h:=((h.set 6 (.bool false) hn).set 7 (.string ⟨#[]⟩) hn).set 8 (.string ⟨#[1]⟩) hn;simp only[List.set] at h;generalize World.setCell (World.setCell (World.setCell Y _ _) _ _) _ _=Z at h⊢;clear hn cK fK hb;have hl:=hc _ h.b
 go_upto_region 13 with fail
 generalize hX:World.alloc _ _=X;have hn:=h.ne;replace h:=h.new hX;clear hX hl;go_wp2_with fail;refine (HKN.out X).mono ?_;rintro e Y ⟨rfl,hb⟩;replace h:=h.step hb;have cK:=h.hd.cells;have fK:=h.hd.aI
 go_upto_region 14 with fail
 replace h:=((h.set 1 (.bool false) hn).set 2 (.int .i64 0) hn).set 3 (.int .i64 0) hn;simp only[List.set] at h;generalize World.setCell (World.setCell (World.setCell Y _ _) _ _) _ _=Z at h⊢;clear hn cK fK hb
 rename World=>W
 clear HO5 HO0 HKN;have hl:=fun (X:World) (k:Below W.heap.size W X)=>And.intro (hc X (ah h.b k)) ((h.step k).ix 2 (by simp)).cells
 simp only[List.getElem_cons_succ,List.getElem_cons_zero] at hl
 go_upto_region 14 with fail
 refine dN (Below W.heap.size W) 99 (ak _ _ 1) (fun v hv hS=>?_)
 iterate 9 refine aW ?_
 refine iy 9 (fun _=>hS.alloc hS.size _) (fun hS=>?_);refine aW ?_;refine cO 11 (D6 eG.out (ah h.b hS) (jU.out _ (ah HB1.out (ah h.b hS))) (Io,y1) (gG,y2) (.inl ⟨rfl,.inr (.inl rfl)⟩) (.inr ⟨rfl,.inl rfl⟩) (aj.new _ _ _) aaY) ?_;rintro e v2 ⟨rfl,hb⟩;refine⟨_,rfl,ah hS hb,fun hS=>?_⟩;refine aW ?_;refine dH ?_;replace h:=h.step hS;clear hl hv hb hS
 rename World=>W
 have hl:=fun (X:World) (k:Below W.heap.size W X)=>And.intro (hc X (ah h.b k)) ((h.step k).ix 1 (by simp)).cells
 simp only[List.getElem_cons_succ,List.getElem_cons_zero] at hl
 go_upto_region 15 with fail
 refine dN (Below W.heap.size W) 99 (ak _ _ 1) (fun v hv hS=>?_)
 iterate 9 refine aW ?_
 refine iy 9 (fun _=>hS.alloc hS.size _) (fun hS=>?_);refine aW ?_;refine cO 11 (D6 eG.out (ah h.b hS) (jU.out _ (ah HB1.out (ah h.b hS))) (Ip,y1) (gG,y2) (.inl ⟨rfl,.inr (.inr rfl)⟩) (.inr ⟨rfl,.inl rfl⟩) (aj.new _ _ _) aaZ) ?_;rintro e v2 ⟨rfl,hb⟩;refine⟨_,rfl,ah hS hb,fun hS=>?_⟩;refine aW ?_;refine dH ?_;replace h:=h.step hS;clear hl hv hb hS
 rename World=>W
 have hl:=fun (X:World) (k:Below W.heap.size W X)=>And.intro (hc X (ah h.b k)) ((h.step k).ix 0 (by simp)).cells
 simp only[List.getElem_cons_succ,List.getElem_cons_zero] at hl
 go_upto_region 16 with fail
 refine dN (Below W.heap.size W) 99 (ak _ _ 1) (fun v hv hS=>?_)
 iterate 9 refine aW ?_
 refine iy 9 (fun _=>hS.alloc hS.size _) (fun hS=>?_);refine aW ?_;refine cO 11 (D6 eG.out (ah h.b hS) (jU.out _ (ah HB1.out (ah h.b hS))) (iI,y1) (Iq,y2) (.inl ⟨rfl,.inl rfl⟩) (.inr ⟨rfl,.inr rfl⟩) (aj.new _ _ _) YD) ?_;rintro e v2 ⟨rfl,hb⟩;refine⟨_,rfl,ah hS hb,fun hS=>?_⟩;refine aW ?_;refine dH ?_;replace h:=h.step hS;clear hl hv hb hS;have heU:((⟨#[102,97,99,116,32,105,110,99,111,109,101,32,109,49,100,48,10,102,97,99,116,32,115,105,110,103,108,101,32,116,114,117,116,104,10,115,99,104,101,100,117,108,101,32,115,99,97,108,101,32,109,49,100,48,58,32,48,32,49,47,49,48,44,32,49,48,48,48,32,49,47,53,10,112,114,111,118,105,115,105,111,110,32,97,105,100,32,109,49,100,48,32,115,116,101,112,32,49,48,32,99,97,112,32,53,48,48,58,32,105,102,40,102,97,99,116,46,115,105,110,103,108,101,44,32,36,49,48,48,44,32,100,105,118,40,111,119,110,46,116,97,120,44,32,52,41,41,10,112,114,111,118,105,115,105,111,110,32,116,97,120,32,109,49,100,48,32,99,104,97,114,103,101,58,32,114,97,116,101,46,115,99,97,108,101,40,115,117,98,40,102,97,99,116,46,105,110,99,111,109,101,44,32,111,119,110,46,97,105,100,41,41,10]⟩:ByteArray).extract 0 212)=Vf:=by decide+kernel
 go_wp2_with fail;refine (FN (jU.out _ (ah HB1.out h.b)) Vh (qy [iM,iO] [kS] [iI] (by decide) (fun s h=>List.mem_singleton.1 h) (by decide) (fun p h=>by obtain rfl:=List.mem_singleton.1 h;simp) (by decide)) (by rw[aaU];decide) aaT).mono ?_;rintro e Y ⟨f7,s7,q7,rfl,hb⟩;replace h:=h.step hb;clear heU
 go_upto_region 18 with fail
 generalize hX:World.alloc _ _=X;replace h:=h.step (zA hX).2;clear hX hb;go_wp2_with fail;refine (FN (s:=aaQ) (jU.out _ (ah HB1.out h.b)) Vj (qy [] [] [gG] (by decide) (fun s h=>by cases h) (by decide) (fun p h=>by obtain rfl:=List.mem_singleton.1 h;simp) (by decide)) (by rw[OG];decide) aaV).mono ?_;rintro e Y ⟨f7,s7,q7,rfl,hb⟩;replace h:=h.step hb
 go_upto_region 19 with fail
 generalize hX:World.alloc _ _=X;replace h:=h.step (zA hX).2;clear hX hb;go_wp2_with fail;refine (FN (s:=aaR) (jU.out _ (ah HB1.out h.b)) Vk (qy [iO,iM] [] [] (by decide) (fun s h=>by cases h) (by decide) (fun p h=>by cases h) (by decide)) (by rw[OH];decide) aaW).mono ?_;rintro e Y ⟨f7,s7,q7,rfl,hb⟩;replace h:=h.step hb
 go_upto_region 20 with fail
 generalize hX:World.alloc _ _=X;replace h:=h.step (zA hX).2;clear hX hb
 letI:Inhabited (Pv × Hd):=⟨(iI,y1)⟩
 have hl:=hc _ h.b;go_wp2_with fail;refine (XK ⟨#[116,97,120]⟩ [(iI,y1),(gG,y2)] ⟨some ⟨bf,qf,none⟩,2,fc⟩ ⟨sa,1,sc⟩ ⟨some ⟨bp,qp,none⟩,2,pc⟩ _ (eG.out.below h.b).p (by show 0<2;decide) 1 rfl (by decide)).mono ?_;rintro e Y ⟨rfl,hb⟩;replace h:=h.step hb;clear hl hb;have hl:=(h.ix 6 (by simp)).cells;simp only[List.getElem_cons_succ,List.getElem_cons_zero] at hl;go_wp2_with fail;refine (D5 (agm eG.out h.b _ _ (RF (h.ix 7 (by simp)) Dc.cells [⟨⟨#[97,105,100]⟩,iM.ty⟩,iO] rfl 2 rfl (by decide))) (jU.out _ (ah HB1.out h.b)) (qy _ _ _ (by show (2:Nat)<=1000;decide) (fun s h=>List.mem_singleton.1 h) (by decide) (fun p h=>by rcases List.mem_cons.1 h with rfl|h;simp;obtain rfl:=List.mem_singleton.1 h;simp) (by show (2:Nat)<=1000;decide)) YC).mono ?_;rintro e Y ⟨rfl,hb⟩;replace h:=h.step hb;clear hl hb;have hl:=(h.ix 5 (by simp)).cells;simp only[List.getElem_cons_succ,List.getElem_cons_zero] at hl;go_wp2_with fail;refine (YJ (p':=⟨some ⟨bp,qp+12,none⟩,1,pc-1⟩) eG.out h.b (jU.out _ (ah HB1.out h.b)) [(gG,y2)] (fun z hz=>by obtain rfl:=List.mem_singleton.1 hz;exact .inr ⟨rfl,.inl rfl⟩) ?_ (by show (1:Nat)<=1000;decide) aaX).mono ?_
 ·have k:=(eG.out.below h.b).p;have h1:=k.cap;have h2:=k.max;obtain⟨b',q',e,hlt,hcp⟩:=OM k.rd (Nat.zero_lt_succ 23);injection e with e;injection e with e1 e2;subst e1 e2;refine⟨rfl,by show 1<=pc-1;omega,by show pc-1<=maxLen;exact Nat.le_trans (Nat.sub_le _ _) h2,.inr ⟨bp,qp+12,rfl,hlt,fun i h=>?_⟩⟩;rw[Nat.add_assoc];refine hcp (12+i) _ ?_;rw[Nat.add_comm 12 i];exact List.getElem?_eq_getElem h
 rintro e Y ⟨rfl,hb⟩;replace h:=h.step hb;clear hl hb;have hl:=(h.ix 3 (by simp)).cells;simp only[List.getElem_cons_succ,List.getElem_cons_zero] at hl;go_wp2_with fail;refine (D6 eG.out h.b (jU.out _ (ah HB1.out h.b)) (gG,y2) (iI,y1) (.inr ⟨rfl,.inl rfl⟩) (.inl ⟨rfl,.inl rfl⟩) (h.ix 4 (by simp)) Vl).mono ?_;rintro e Y ⟨rfl,hb⟩;replace h:=h.step hb;clear hl hb;go_wp2_with fail;refine (D5 (dV.empty _) (jU.out _ (ah HB1.out h.b)) (qy [] [] [] (by decide) (fun s h=>by cases h) (by decide) (fun p h=>by cases h) (by decide)) YE).mono ?_;rintro e Y ⟨rfl,hb⟩;replace h:=h.step hb;clear hb;have hl:=hc _ h.b;go_wp2_with fail;refine (D5 (eG.out.below h.b) (jU.out _ (ah HB1.out h.b)) yA Je).mono ?_;rintro e Y ⟨rfl,hb⟩;replace h:=h.step hb;clear hl hb;have k:=xX ⟨#[97,95,49]⟩ Y (jU.out _ (ah HB1.out h.b)).e;rw[afT] at k;go_wp2_with fail;refine k.mono ?_;rintro e Y ⟨rfl,hb⟩;replace h:=h.step hb;clear hb k;have k:=xX ⟨#[49,97]⟩ Y (jU.out _ (ah HB1.out h.b)).e;rw[afU] at k;go_wp2_with fail;refine k.mono ?_;rintro e Y ⟨rfl,hb⟩;replace h:=h.step hb;clear hb k;go_wp2;go_ret;exact⟨rfl,ah HB1.out h.b⟩
end Go.Proofs.YtimokmplkpbmdaaGreatDoor
