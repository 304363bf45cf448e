/- Part: K8 Ed Ee Ef Eg. -/
import Derived.Test.YtjpbmbgincdjaaaGreatDoorK24
set_option linter.all false
set_option maxRecDepth 100000
set_option maxHeartbeats 0
namespace Go.Proofs.YtjpbmbgincdjaaaGreatDoor
open Go.RowKit List World Tryz
def Keeps (lo:Nat) (w W:World):Prop:=w.heap.size<=W.heap.size/\∀b,lo<=b->b<w.heap.size->W.heap[b]?=w.heap[b]?
theorem Keeps.of {w W:World} (h:Below w.heap.size w W) (lo:Nat):Keeps lo w W:=⟨h.size,fun b _ hb=>h.block b hb⟩
theorem Keeps.trans {lo:Nat} {w W W':World} (h:Keeps lo w W) (h':Keeps lo W W'):Keeps lo w W':=
 ⟨Nat.le_trans h.1 h'.1,fun b h1 h2=>(h'.2 b h1 (Nat.lt_of_lt_of_le h2 h.1)).trans (h.2 b h1 h2)⟩
theorem Keeps.blk {lo b:Nat} {w W:World} {t:TypeId} {cs:List Value} (h:Keeps lo w W) (hb:aj w b t cs) (hl:lo<=b):aj W b t cs:=(h.2 b hl hb.lt).trans hb
theorem Keeps.cell {lo b:Nat} {w W:World} (h:Keeps lo w W) (hl:lo<=b) (hb:b<w.heap.size) (j:Nat):W.cell? ⟨b,j,none⟩=w.cell? ⟨b,j,none⟩:=cell?_of_block (h.2 b hl hb)
def jU (lo:Nat) (w:World) (k:Int) (f:Value):Prop:=∃g lb,f=.func (.func g) #[] lb/\(∀args w,(callFunc g args).run prog w=.ok (.enter g args) w)/\
 ∀(own:Ty) (l:List Ty) (A:Option Addr) (n c:Nat) (W:World),Keeps lo w W->bT W->n=l.length->n<=c->n<=maxLen->Rd W A (tys l)->(∀t∈l,aN t=true)->l.length=(aG k).ops->
  Calls prog g (#[own.v,.slice A n c]++lb) W fun e w'=>e=.returned (.tuple #[(eF k own l).1.v,.bool (eF k own l).2])/\Below W.heap.size W w'
theorem jU.keeps {lo:Nat} {w w':World} {k:Int} {f:Value} (h:jU lo w k f) (hb:Keeps lo w w'):jU lo w' k f:=by
 obtain⟨g,lb,rfl,hg,hc⟩:=h;exact⟨g,lb,rfl,hg,fun own l A n c W hW=>hc own l A n c W (hb.trans hW)⟩
def RV (lo:Nat) (k:Int) (v:Value) (w:World):Prop:=∃f,v=.agg #[.bool (iK k),f]/\jU lo w k f
theorem len1 {l:List Ty} (h:l.length=1):∃a,l=[a]:=length_eq_one_iff.1 h
theorem len2 {l:List Ty} (h:l.length=2):∃a b,l=[a,b]:=match l,h with|[a,b],_=>⟨a,b,rfl⟩
theorem alV {l:List Ty} (h:l.length=3):∃a b c,l=[a,b,c]:=match l,h with|[a,b,c],_=>⟨a,b,c,rfl⟩
theorem rv1 (lo:Nat) (w:World) (b:Nat) (h:aj w b 51 aV.cells) (hlo:lo<=b):jU lo w 1 (.func (.func 277) #[] #[.pointer (some ⟨b,0,none⟩)]):=by
 refine⟨277,_,rfl,enters_of func277 (by kernel_rfl) rfl,fun own l A n c W hW mJ hn hc hm hr hg hl=>?_⟩;exact qY aV own _ b W (hW.blk h hlo)
theorem rv2 (lo:Nat) (w:World) (b:Nat) (h:aj w b 51 jy.cells) (hlo:lo<=b):jU lo w 2 (.func (.func 277) #[] #[.pointer (some ⟨b,0,none⟩)]):=by
 refine⟨277,_,rfl,enters_of func277 (by kernel_rfl) rfl,fun own l A n c W hW mJ hn hc hm hr hg hl=>?_⟩;exact qY jy own _ b W (hW.blk h hlo)
theorem rv3 (lo:Nat) (w:World) (b:Nat) (h:aj w b 51 aJ.cells) (hlo:lo<=b):jU lo w 3 (.func (.func 277) #[] #[.pointer (some ⟨b,0,none⟩)]):=by
 refine⟨277,_,rfl,enters_of func277 (by kernel_rfl) rfl,fun own l A n c W hW mJ hn hc hm hr hg hl=>?_⟩;exact qY aJ own _ b W (hW.blk h hlo)
theorem rv4 (lo:Nat) (w:World) (b:Nat) (h:aj w b 51 aB.cells) (hlo:lo<=b):jU lo w 4 (.func (.func 277) #[] #[.pointer (some ⟨b,0,none⟩)]):=by
 refine⟨277,_,rfl,enters_of func277 (by kernel_rfl) rfl,fun own l A n c W hW mJ hn hc hm hr hg hl=>?_⟩;exact qY aB own _ b W (hW.blk h hlo)
theorem rv5 (lo:Nat) (w:World) (k:Int) (h:k=5∨k=6∨k=7∨k=8):jU lo w k (.func (.func 278) #[] #[]):=by
 refine⟨278,_,rfl,enters_of func278 (by kernel_rfl) rfl,fun own l A n c W hW mJ hn hc hm hr hg hl=>?_⟩;have e:eF k own l=(own,true):=by rcases h with rfl|rfl|rfl|rfl<;>rfl
 rw[e];exact Qz own _ W
theorem rv9 (lo:Nat) (w:World) (k:Int) (b:Nat) (h:k=9∨k=10∨k=13∨k=14) (hb:aj w b 272 [.func (.func 231) #[] #[]]) (hlo:lo<=b):jU lo w k (.func (.func 279) #[] #[.pointer (some ⟨b,0,none⟩)]):=by
 refine⟨279,_,rfl,enters_of func279 (by kernel_rfl) rfl,fun own l A n c W hW mJ hn hc hm hr hg hl=>?_⟩;obtain⟨x,y,rfl⟩:=len2 (hl.trans (by rcases h with rfl|rfl|rfl|rfl<;>rfl));have e:eF k own [x,y]=(x,decide (x=y)&& !x.truth):=by rcases h with rfl|rfl|rfl|rfl<;>rfl
 obtain rfl:n=2:=hn;rw[e];exact QB own x y A c b W hr hc (hW.blk hb hlo)
theorem alW (lo:Nat) (w:World) (b:Nat) (hb:aj w b 3 [.int .i64 1]) (hlo:lo<=b):jU lo w 11 (.func (.func 280) #[] #[.pointer (some ⟨b,0,none⟩)]):=by
 refine⟨280,_,rfl,enters_of func280 (by kernel_rfl) rfl,fun own l A n c W hW mJ hn hc hm hr hg hl=>?_⟩;obtain⟨x,y,rfl⟩:=len2 hl;obtain rfl:n=2:=hn
 have e:eF 11 own [x,y]=(oC 1 x y, !x.truth&&(!y.truth&&dU (oC 1 x y).aA (oC 1 x y).days)):=by
  show ((⟨false,x.aA+y.aA,x.days+y.days⟩:Ty),_)=_
  have e1:oC 1 x y=⟨false,x.aA+y.aA,x.days+y.days⟩:=by
   unfold oC;simp only[Ty.mk.injEq,true_and];constructor<;>omega
  rw[e1];rfl
 rw[e];exact J9 own x y 1 A c b W (by omega) (hg x (by simp)) (hg y (by simp)) hr hc (hW.blk hb hlo)
theorem alX (lo:Nat) (w:World) (b:Nat) (hb:aj w b 3 [.int .i64 (-1)]) (hlo:lo<=b):jU lo w 12 (.func (.func 280) #[] #[.pointer (some ⟨b,0,none⟩)]):=by
 refine⟨280,_,rfl,enters_of func280 (by kernel_rfl) rfl,fun own l A n c W hW mJ hn hc hm hr hg hl=>?_⟩;obtain⟨x,y,rfl⟩:=len2 hl;obtain rfl:n=2:=hn
 have e:eF 12 own [x,y]=(oC (-1) x y, !x.truth&&(!y.truth&&dU (oC (-1) x y).aA (oC (-1) x y).days)):=by
  show ((⟨false,x.aA-y.aA,x.days-y.days⟩:Ty),_)=_
  have e1:oC (-1) x y=⟨false,x.aA-y.aA,x.days-y.days⟩:=by
   unfold oC;simp only[Ty.mk.injEq,true_and];constructor<;>omega
  rw[e1];rfl
 rw[e];exact J9 own x y (-1) A c b W (by omega) (hg x (by simp)) (hg y (by simp)) hr hc (hW.blk hb hlo)
theorem alY (lo:Nat) (w:World):jU lo w 15 (.func (.func 233) #[] #[]):=by
 refine⟨233,_,rfl,enters_of func233 (by kernel_rfl) rfl,fun own l A n c W hW mJ hn hc hm hr hg hl=>?_⟩;obtain⟨x,y,z,rfl⟩:=alV hl;obtain rfl:n=3:=hn;exact aeb own x y z A c W mJ hr hc
theorem alZ (lo:Nat) (w:World) (b:Nat) (hb:aj w b 272 [.func (.func 234) #[] #[]]) (hlo:lo<=b):jU lo w 16 (.func (.func 279) #[] #[.pointer (some ⟨b,0,none⟩)]):=by
 refine⟨279,_,rfl,enters_of func279 (by kernel_rfl) rfl,fun own l A n c W hW mJ hn hc hm hr hg hl=>?_⟩;obtain⟨x,y,rfl⟩:=len2 hl;obtain rfl:n=2:=hn;exact QC own x y A c b W mJ hr hc (hW.blk hb hlo)
theorem al0 (lo:Nat) (w:World):jU lo w 17 (.func (.func 235) #[] #[]):=by
 refine⟨235,_,rfl,enters_of func235 (by kernel_rfl) rfl,fun own l A n c W hW mJ hn hc hm hr hg hl=>?_⟩;obtain⟨x,y,rfl⟩:=len2 hl;obtain rfl:n=2:=hn;exact Vs own x y A c W mJ hr hc
theorem aaW (lo:Nat) (w:World) (k:Int) (h:k=18∨k=19∨k=20):jU lo w k (.func (.func 281) #[] #[]):=by
 refine⟨281,_,rfl,enters_of func281 (by kernel_rfl) rfl,fun own l A n c W hW mJ hn hc hm hr hg hl=>?_⟩;have e:eF k own l=(aB,l.all fun t=>decide (t=aB)):=by rcases h with rfl|rfl|rfl<;>rfl
 rw[e];exact Ol own l A n c W mJ hn hm hr
theorem aaX (lo:Nat) (w:World) (k:Int) (h:k=21∨k=22∨k=23):jU lo w k (.func (.func 282) #[] #[]):=by
 refine⟨282,_,rfl,enters_of func282 (by kernel_rfl) rfl,fun own l A n c W hW mJ hn hc hm hr hg hl=>?_⟩;obtain⟨x,rfl⟩:=len1 (hl.trans (by rcases h with rfl|rfl|rfl<;>rfl));have e:eF k own [x]=(x, !x.truth):=by rcases h with rfl|rfl|rfl<;>rfl
 obtain rfl:n=1:=hn;rw[e];exact Lm own x A c W hr hc
theorem al1 (lo:Nat) (w:World):jU lo w 24 (.func (.func 238) #[] #[]):=by
 refine⟨238,_,rfl,enters_of func238 (by kernel_rfl) rfl,fun own l A n c W hW mJ hn hc hm hr hg hl=>?_⟩;obtain⟨x,rfl⟩:=len1 hl;obtain rfl:n=1:=hn;exact Vr own x A c W hr hc
section
variable {P:Program} {ops:Array Oper} {Q:Exit->Act->World->Prop} {i:Nat} {o:Oper} {a:Act} {w w':World} {R:Value->World->Prop}
theorem jA {fn:FuncId} {args:Array Value} {S:Ending->World->Prop} (c:Calls P fn args w S) (h:∀e w',S e w'->∃v,e=.returned v/\R v w'/\Below w.heap.size w w') (ho:ops[i]?=some o:=by rfl) (hw:Region.wanted o (yielded ops a.tmps)=true:=by kernel_rfl)
  (he:(execOp a.eval o).run P w=.ok (.enter fn args) w:=by (go_simp;all_goals first|with_reducible rfl|rfl)) (hd:o.dst=some (lG ops i):=by rfl):wpOp P ops Q i (fun a' w'=>∃v,a'=a.put (some (lG ops i)) v/\R v w'/\Below w.heap.size w w') a w:=by
 unfold wpOp;simp only[ho,hw,if_true,Oper.wp,he,Oper.upon]
 refine .inl (c.mono fun e w' hR=>?_);obtain⟨v,rfl,h1,h2⟩:=h e w' hR;exact⟨v,by rw[hd],h1,h2⟩
theorem xq {v:Value} (hb:Below w.heap.size w w') (h:R v w') (ho:ops[i]?=some o:=by rfl) (hw:Region.wanted o (yielded ops a.tmps)=true:=by kernel_rfl)
  (he:(execOp a.eval o).run P w=.ok (.value v) w':=by (go_simp;all_goals first|with_reducible rfl|rfl)) (hd:o.dst=some (lG ops i):=by rfl):wpOp P ops Q i (fun a' w'=>∃v,a'=a.put (some (lG ops i)) v/\R v w'/\Below w.heap.size w w') a w:=by
 unfold wpOp;simp only[ho,hw,if_true,Oper.wp,he,Oper.upon]
 exact .inl ⟨v,by rw[hd],h,hb⟩
end
def o9 (lo:Nat) (w:World) (b:Nat):Prop:=lo<=b/\b<w.heap.size/\∀k:Nat,1<=k->k<=24->∃f,w.cell? ⟨b,2*k,none⟩=some (.bool (iK k))/\w.cell? ⟨b,2*k+1,none⟩=some f/\jU lo w k f
theorem o9.keeps {lo:Nat} {w w':World} {b:Nat} (h:o9 lo w b) (hb:Keeps lo w w'):o9 lo w' b:=
 ⟨h.1,Nat.lt_of_lt_of_le h.2.1 hb.1,fun k h1 h2=>by
   obtain⟨f,c0,c1,hv⟩:=h.2.2 k h1 h2;exact⟨f,(hb.cell h.1 h.2.1 _).trans c0,(hb.cell h.1 h.2.1 _).trans c1,hv.keeps hb⟩⟩
def LG (lo i:Nat) (v:Value) (w:World):Prop:=match i with
 |0=>v=aV.v
 |1=>RV lo 1 v w
 |2=>v=jy.v
 |3=>RV lo 2 v w
 |4=>v=aJ.v
 |5=>RV lo 3 v w
 |6=>v=aB.v
 |7=>RV lo 4 v w
 |8=>RV lo 5 v w
 |9=>RV lo 6 v w
 |10=>RV lo 7 v w
 |11=>RV lo 8 v w
 |12=>RV lo 9 v w
 |13=>RV lo 10 v w
 |14=>RV lo 13 v w
 |15=>RV lo 14 v w
 |16=>RV lo 11 v w
 |17=>RV lo 12 v w
 |18=>RV lo 15 v w
 |19=>RV lo 16 v w
 |20=>RV lo 17 v w
 |21=>RV lo 18 v w
 |22=>RV lo 19 v w
 |23=>RV lo 20 v w
 |24=>RV lo 21 v w
 |25=>RV lo 22 v w
 |26=>RV lo 23 v w
 |27=>RV lo 24 v w
 |_=>∃b,v=.slice (some ⟨b,0,none⟩) 25 25/\o9 lo w b
theorem Vt (lo i:Nat) (v:Value) (w w':World) (h:LG lo i v w) (hb:Below w.heap.size w w'):LG lo i v w':=by
 have hV:∀k,RV lo k v w->RV lo k v w':=fun k ⟨f,e,hf⟩=>⟨f,e,hf.keeps (Keeps.of hb lo)⟩
 have hS:(∃b,v=.slice (some ⟨b,0,none⟩) 25 25/\o9 lo w b)->∃b,v=.slice (some ⟨b,0,none⟩) 25 25/\o9 lo w' b:=fun⟨b,e,hr⟩=>⟨b,e,hr.keeps (Keeps.of hb lo)⟩
 unfold LG at h⊢;split at h<;>first|exact h|exact hV _ h|exact hS h
theorem Vu (w:World) (hL:bT w):Calls prog 182 #[] w fun e w'=>(∃b,e=.returned (.slice (some ⟨b,0,none⟩) 25 25)/\o9 w.heap.size w' b)/\Below w.heap.size w w':=by
 have HL:=zH hL;clear hL;go_enter func182,ntmps182
 go_upto_region 1 with fail
 refine Qx (n:=30) (by kernel_rfl) (by kernel_rfl) rfl (LG w.heap.size) (Vt _) ?_ ?_
 ·intro i o ho a1 W hb iG;have kQ:=zH (HL.out.below hb);have Ah:Hid (w.heap.size<=W.heap.size):=hb.size;clear hb
  match i,ho with
  |0,ho=>
   injection ho with ho;subst ho;have g0:=kQ.out.cash 0 _ rfl;have g1:=kQ.out.cash 1 _ rfl;have g2:=kQ.out.cash 2 _ rfl;unfold aV at g0 g1 g2;simp only at g0 g1 g2;exact xq (Below.refl _ _) (v:=_) rfl
  |1,ho=>
   injection ho with ho;subst ho;have h:(a1.tmps[1]?).getD undef=aV.v:=iG ⟨0,.data⟩ (by simp) rfl;exact jA (sU aV W) fun e w' ⟨b,e1,hb,hlo,hbw⟩=>⟨_,e1,⟨_,rfl,rv1 _ _ b hb (Nat.le_trans Ah.out hlo)⟩,hbw⟩
  |2,ho=>
   injection ho with ho;subst ho;have g0:=kQ.out.days 0 _ rfl;have g1:=kQ.out.days 1 _ rfl;have g2:=kQ.out.days 2 _ rfl;unfold jy at g0 g1 g2;simp only at g0 g1 g2;exact xq (Below.refl _ _) (v:=_) rfl
  |3,ho=>
   injection ho with ho;subst ho;have h:(a1.tmps[3]?).getD undef=jy.v:=iG ⟨2,.data⟩ (by simp) rfl;exact jA (sU jy W) fun e w' ⟨b,e1,hb,hlo,hbw⟩=>⟨_,e1,⟨_,rfl,rv2 _ _ b hb (Nat.le_trans Ah.out hlo)⟩,hbw⟩
  |4,ho=>
   injection ho with ho;subst ho;have g0:=kQ.out.plain 0 _ rfl;have g1:=kQ.out.plain 1 _ rfl;have g2:=kQ.out.plain 2 _ rfl;unfold aJ at g0 g1 g2;simp only at g0 g1 g2;exact xq (Below.refl _ _) (v:=_) rfl
  |5,ho=>
   injection ho with ho;subst ho;have h:(a1.tmps[5]?).getD undef=aJ.v:=iG ⟨4,.data⟩ (by simp) rfl;exact jA (sU aJ W) fun e w' ⟨b,e1,hb,hlo,hbw⟩=>⟨_,e1,⟨_,rfl,rv3 _ _ b hb (Nat.le_trans Ah.out hlo)⟩,hbw⟩
  |6,ho=>
   injection ho with ho;subst ho;have g0:=kQ.out.truth 0 _ rfl;have g1:=kQ.out.truth 1 _ rfl;have g2:=kQ.out.truth 2 _ rfl;unfold aB at g0 g1 g2;simp only at g0 g1 g2;exact xq (Below.refl _ _) (v:=_) rfl
  |7,ho=>
   injection ho with ho;subst ho;have h:(a1.tmps[7]?).getD undef=aB.v:=iG ⟨6,.data⟩ (by simp) rfl;exact jA (sU aB W) fun e w' ⟨b,e1,hb,hlo,hbw⟩=>⟨_,e1,⟨_,rfl,rv4 _ _ b hb (Nat.le_trans Ah.out hlo)⟩,hbw⟩
  |8,_=>exact jA (vg W) fun e w' ⟨e1,hbw⟩=>⟨_,e1,⟨_,rfl,rv5 _ _ _ (by omega)⟩,hbw⟩
  |9,_=>exact jA (vg W) fun e w' ⟨e1,hbw⟩=>⟨_,e1,⟨_,rfl,rv5 _ _ _ (by omega)⟩,hbw⟩
  |10,_=>exact jA (vg W) fun e w' ⟨e1,hbw⟩=>⟨_,e1,⟨_,rfl,rv5 _ _ _ (by omega)⟩,hbw⟩
  |11,_=>exact jA (vg W) fun e w' ⟨e1,hbw⟩=>⟨_,e1,⟨_,rfl,rv5 _ _ _ (by omega)⟩,hbw⟩
  |12,_=>exact jA (qZ _ W) fun e w' ⟨b,e1,hb,hlo,hbw⟩=>⟨_,e1,⟨_,rfl,rv9 _ _ _ b (by omega) hb (Nat.le_trans Ah.out hlo)⟩,hbw⟩
  |13,_=>exact jA (qZ _ W) fun e w' ⟨b,e1,hb,hlo,hbw⟩=>⟨_,e1,⟨_,rfl,rv9 _ _ _ b (by omega) hb (Nat.le_trans Ah.out hlo)⟩,hbw⟩
  |14,_=>exact jA (qZ _ W) fun e w' ⟨b,e1,hb,hlo,hbw⟩=>⟨_,e1,⟨_,rfl,rv9 _ _ _ b (by omega) hb (Nat.le_trans Ah.out hlo)⟩,hbw⟩
  |15,_=>exact jA (qZ _ W) fun e w' ⟨b,e1,hb,hlo,hbw⟩=>⟨_,e1,⟨_,rfl,rv9 _ _ _ b (by omega) hb (Nat.le_trans Ah.out hlo)⟩,hbw⟩
  |16,_=>exact jA (BA _ W) fun e w' ⟨b,e1,hb,hlo,hbw⟩=>⟨_,e1,⟨_,rfl,alW _ _ b hb (Nat.le_trans Ah.out hlo)⟩,hbw⟩
  |17,_=>exact jA (BA _ W) fun e w' ⟨b,e1,hb,hlo,hbw⟩=>⟨_,e1,⟨_,rfl,alX _ _ b hb (Nat.le_trans Ah.out hlo)⟩,hbw⟩
  |18,_=>exact xq (Below.refl _ _) (v:=_) ⟨_,rfl,alY _ _⟩
  |19,_=>exact jA (qZ _ W) fun e w' ⟨b,e1,hb,hlo,hbw⟩=>⟨_,e1,⟨_,rfl,alZ _ _ b hb (Nat.le_trans Ah.out hlo)⟩,hbw⟩
  |20,_=>exact xq (Below.refl _ _) (v:=_) ⟨_,rfl,al0 _ _⟩
  |21,_=>exact jA (xP W) fun e w' ⟨e1,hbw⟩=>⟨_,e1,⟨_,rfl,aaW _ _ _ (by omega)⟩,hbw⟩
  |22,_=>exact jA (xP W) fun e w' ⟨e1,hbw⟩=>⟨_,e1,⟨_,rfl,aaW _ _ _ (by omega)⟩,hbw⟩
  |23,_=>exact jA (xP W) fun e w' ⟨e1,hbw⟩=>⟨_,e1,⟨_,rfl,aaW _ _ _ (by omega)⟩,hbw⟩
  |24,_=>exact jA (wB W) fun e w' ⟨e1,hbw⟩=>⟨_,e1,⟨_,rfl,aaX _ _ _ (by omega)⟩,hbw⟩
  |25,_=>exact jA (wB W) fun e w' ⟨e1,hbw⟩=>⟨_,e1,⟨_,rfl,aaX _ _ _ (by omega)⟩,hbw⟩
  |26,_=>exact jA (wB W) fun e w' ⟨e1,hbw⟩=>⟨_,e1,⟨_,rfl,aaX _ _ _ (by omega)⟩,hbw⟩
  |27,_=>exact xq (Below.refl _ _) (v:=_) ⟨_,rfl,al1 _ _⟩
  |28,ho=>
   injection ho with ho;subst ho;obtain⟨f1,h1,r1⟩:RV w.heap.size 1 ((a1.tmps[2]?).getD undef) W:=iG ⟨1,.data⟩ (by simp) rfl;obtain⟨f2,h2,r2⟩:RV w.heap.size 2 ((a1.tmps[4]?).getD undef) W:=iG ⟨3,.data⟩ (by simp) rfl;obtain⟨f3,h3,r3⟩:RV w.heap.size 3 ((a1.tmps[6]?).getD undef) W:=iG ⟨5,.data⟩ (by simp) rfl;obtain⟨f4,h4,r4⟩:RV w.heap.size 4 ((a1.tmps[8]?).getD undef) W:=iG ⟨7,.data⟩ (by simp) rfl;obtain⟨f5,h5,r5⟩:RV w.heap.size 5 ((a1.tmps[9]?).getD undef) W:=iG ⟨8,.data⟩ (by simp) rfl;obtain⟨f6,h6,r6⟩:RV w.heap.size 6 ((a1.tmps[10]?).getD undef) W:=iG ⟨9,.data⟩ (by simp) rfl;obtain⟨f7,h7,r7⟩:RV w.heap.size 7 ((a1.tmps[11]?).getD undef) W:=iG ⟨10,.data⟩ (by simp) rfl;obtain⟨f8,h8,r8⟩:RV w.heap.size 8 ((a1.tmps[12]?).getD undef) W:=iG ⟨11,.data⟩ (by simp) rfl;obtain⟨f9,h9,r9⟩:RV w.heap.size 9 ((a1.tmps[13]?).getD undef) W:=iG ⟨12,.data⟩ (by simp) rfl;obtain⟨f10,h10,r10⟩:RV w.heap.size 10 ((a1.tmps[14]?).getD undef) W:=iG ⟨13,.data⟩ (by simp) rfl;obtain⟨f13,h13,r13⟩:RV w.heap.size 13 ((a1.tmps[15]?).getD undef) W:=iG ⟨14,.data⟩ (by simp) rfl;obtain⟨f14,h14,r14⟩:RV w.heap.size 14 ((a1.tmps[16]?).getD undef) W:=iG ⟨15,.data⟩ (by simp) rfl;obtain⟨f11,h11,r11⟩:RV w.heap.size 11 ((a1.tmps[17]?).getD undef) W:=iG ⟨16,.data⟩ (by simp) rfl;obtain⟨f12,h12,r12⟩:RV w.heap.size 12 ((a1.tmps[18]?).getD undef) W:=iG ⟨17,.data⟩ (by simp) rfl;obtain⟨f15,h15,r15⟩:RV w.heap.size 15 ((a1.tmps[19]?).getD undef) W:=iG ⟨18,.data⟩ (by simp) rfl;obtain⟨f16,h16,r16⟩:RV w.heap.size 16 ((a1.tmps[20]?).getD undef) W:=iG ⟨19,.data⟩ (by simp) rfl;obtain⟨f17,h17,r17⟩:RV w.heap.size 17 ((a1.tmps[21]?).getD undef) W:=iG ⟨20,.data⟩ (by simp) rfl;obtain⟨f18,h18,r18⟩:RV w.heap.size 18 ((a1.tmps[22]?).getD undef) W:=iG ⟨21,.data⟩ (by simp) rfl;obtain⟨f19,h19,r19⟩:RV w.heap.size 19 ((a1.tmps[23]?).getD undef) W:=iG ⟨22,.data⟩ (by simp) rfl;obtain⟨f20,h20,r20⟩:RV w.heap.size 20 ((a1.tmps[24]?).getD undef) W:=iG ⟨23,.data⟩ (by simp) rfl;obtain⟨f21,h21,r21⟩:RV w.heap.size 21 ((a1.tmps[25]?).getD undef) W:=iG ⟨24,.data⟩ (by simp) rfl;obtain⟨f22,h22,r22⟩:RV w.heap.size 22 ((a1.tmps[26]?).getD undef) W:=iG ⟨25,.data⟩ (by simp) rfl;obtain⟨f23,h23,r23⟩:RV w.heap.size 23 ((a1.tmps[27]?).getD undef) W:=iG ⟨26,.data⟩ (by simp) rfl;obtain⟨f24,Nk,r24⟩:RV w.heap.size 24 ((a1.tmps[28]?).getD undef) W:=iG ⟨27,.data⟩ (by simp) rfl;refine wpOp_step rfl (fun K hK=>?_);rw[if_pos (by rfl)];have HK:=zH hK;clear hK iG;go_simp;generalize hX:W.alloc _=X;obtain⟨hz,hbe⟩:=zA hX;have hc:=hz.cells;have hk:=Keeps.of hbe w.heap.size;refine HK.out _ _ ⟨_,rfl,⟨_,rfl,Ah.out,hz.lt,fun k h1 h2=>?_⟩,hbe⟩
   match k,h1,h2 with
   |0,h1,_=>omega
   |1,_,_=>exact⟨f1,hc 2,hc 3,r1.keeps hk⟩
   |2,_,_=>exact⟨f2,hc 4,hc 5,r2.keeps hk⟩
   |3,_,_=>exact⟨f3,hc 6,hc 7,r3.keeps hk⟩
   |4,_,_=>exact⟨f4,hc 8,hc 9,r4.keeps hk⟩
   |5,_,_=>exact⟨f5,hc 10,hc 11,r5.keeps hk⟩
   |6,_,_=>exact⟨f6,hc 12,hc 13,r6.keeps hk⟩
   |7,_,_=>exact⟨f7,hc 14,hc 15,r7.keeps hk⟩
   |8,_,_=>exact⟨f8,hc 16,hc 17,r8.keeps hk⟩
   |9,_,_=>exact⟨f9,hc 18,hc 19,r9.keeps hk⟩
   |10,_,_=>exact⟨f10,hc 20,hc 21,r10.keeps hk⟩
   |11,_,_=>exact⟨f11,hc 22,hc 23,r11.keeps hk⟩
   |12,_,_=>exact⟨f12,hc 24,hc 25,r12.keeps hk⟩
   |13,_,_=>exact⟨f13,hc 26,hc 27,r13.keeps hk⟩
   |14,_,_=>exact⟨f14,hc 28,hc 29,r14.keeps hk⟩
   |15,_,_=>exact⟨f15,hc 30,hc 31,r15.keeps hk⟩
   |16,_,_=>exact⟨f16,hc 32,hc 33,r16.keeps hk⟩
   |17,_,_=>exact⟨f17,hc 34,hc 35,r17.keeps hk⟩
   |18,_,_=>exact⟨f18,hc 36,hc 37,r18.keeps hk⟩
   |19,_,_=>exact⟨f19,hc 38,hc 39,r19.keeps hk⟩
   |20,_,_=>exact⟨f20,hc 40,hc 41,r20.keeps hk⟩
   |21,_,_=>exact⟨f21,hc 42,hc 43,r21.keeps hk⟩
   |22,_,_=>exact⟨f22,hc 44,hc 45,r22.keeps hk⟩
   |23,_,_=>exact⟨f23,hc 46,hc 47,r23.keeps hk⟩
   |24,_,_=>exact⟨f24,hc 48,hc 49,r24.keeps hk⟩
   |k+25,_,h2=>omega
  |29,ho=>
   injection ho with ho;subst ho;obtain⟨b,h,hr⟩:∃b,(a1.tmps[29]?).getD undef=.slice (some ⟨b,0,none⟩) 25 25/\o9 w.heap.size W b:=iG ⟨28,.data⟩ (by simp) rfl;exact xq (Below.refl _ _) (v:=_) ⟨b,rfl,hr⟩
  |i+30,ho=>cases ho
 ·intro a1 W hsz hdf hb hall;obtain⟨b,h,hr⟩:∃b,(a1.tmps[0]?).getD undef=.slice (some ⟨b,0,none⟩) 25 25/\o9 w.heap.size W b:=hall 29 (by decide);clear hall;go_wp2;exact bodyPost_ret (v:=.slice (some ⟨b,0,none⟩) 25 25) (by simp[results,results182,go_sem,h]) hdf ⟨⟨b,rfl,hr⟩,hb⟩
def Under (R:Nat) (w:World):Prop:=∃w0:World,Laid w0/\Below w0.heap.size w0 w/\w0.heap.size<=R
theorem Under.lJ {R:Nat} {w w':World} (h:Under R w) (ho:bW R w w'):Under R w':=by
 obtain⟨w0,h1,h2,h3⟩:=h;exact⟨w0,h1,h2.trans (ho.below h3 h2.size),h3⟩
theorem Under.laid {R:Nat} {w:World} (h:Under R w):Laid w:=by
 obtain⟨w0,h1,h2,_⟩:=h;exact h1.below h2
theorem bW.fresh {G b:Nat} {w w':World} (h:bW G w w') (hb:w.heap.size<=b) (i:Nat) (u:Value):bW G w (w'.setCell ⟨b,i,none⟩ u):=
 ⟨h.os,h.tape,h.output,by simpa [World.setCell] using h.size,fun k hk hne=>(Below.heap_setCell w' _ u k (by show k≠b;omega)).trans (h.block k hk hne)⟩
theorem SI (s cs:ByteArray) (R:Nat) (t:TypeId) (l:List Value) (w:World) (hR:aj w R t (.string s::l)) (h63:s.size<=9223372036854775807)
  (hcs:cs.size<4294967281) (ha:∀(j:Nat) b,cs.data.toList[j]?=some b->b.toNat<128):
  Calls prog 248 #[.pointer (some ⟨R,0,none⟩),.string cs] w fun e w'=>e=.returned (.string (s.extract 0 (s.size-(qg s cs).size)))/\aj w' R t (.string (qg s cs)::l)/\bW R w w':=
 (aaZ s cs R t l w hR h63 hcs ha).mono (by
   rintro e w' ⟨rfl,W,hb,rfl⟩;exact⟨rfl,(hR.below hb hR.lt).set 0 _,(bW.of_below hb).set 0 _⟩)
def Om:ByteArray:=⟨#[45,47,48,49,50,51,52,53,54,55,56,57]⟩
theorem Ko (s:ByteArray) (R:Nat) (t:TypeId) (l:List Value) (w:World) (hR:aj w R t (.string s::l)) (hU:Under R w) (hs:s.size<=1048576) (x:ByteArray) (hx:s.extract 0 (s.size-(qg s Om).size)=x):
  Calls prog 253 #[.pointer (some ⟨R,0,none⟩)] w fun e w'=>(if (fG x).2 then e=.returned (fG x).1.v else e=.panicked uo)/\aj w' R t (.string (qg s Om)::l)/\bW R w w':=by
 have hxs:x.size<=1048576:=by rw[<-hx,ByteArray.size_extract];omega
 have HS:=fun (W:World) (h:aj W R t (.string s::l))=>SI s Om R t l W h (by omega) (by decide) (ascii_of_all (by decide))
 simp only[hx] at HS;have HQ:=fun (W:World) (h:Laid W)=>Gv x W h hxs
 generalize qg s Om=q at*;clear hx hxs;generalize fG x=v at*;obtain⟨⟨vn,vu,vd⟩,vb⟩:=v;unfold Ra.v at HQ⊢;simp only at HQ⊢;unfold Om at HS;have HS:=zH HS;have HQ:=zH HQ;obtain⟨W,hW⟩:=zE (w.alloc (.cells #[.bool false,.string ⟨#[]⟩,.string ⟨#[]⟩] 57));have hba:Below w.heap.size w W:=by rw[hW];exact zB _ _
 have hk0:aj W w.heap.size 57 [.bool false,.string ⟨#[]⟩,.string ⟨#[]⟩]:=by rw[hW];exact aj.new w _ _
 have hsz:W.heap.size=w.heap.size+1:=by rw[hW];exact Array.size_push _
 obtain⟨B,hB⟩:=zE w.heap.size;have HB:=zH hB;rw[<-hB] at hba hsz hk0;have hRB:R<B:=by rw[HB.out];exact hR.lt
 have hRW:=hR.below hba hRB;have hUW:Under R W:=hU.lJ (bW.of_below (by rw[<-HB.out];exact hba));have HOW:Hid (bW R w W):=bW.of_below (by rw[<-HB.out];exact hba);clear hR hU hba;cases vb
 all_goals
  simp only[if_true,if_false,Bool.false_eq_true]
  go_enter func253,ntmps253;go_wp2_with fail;simp only[<-hW,<-hB]
  clear hW hB;refine (HS.out _ hRW).mono ?_;rintro e w1 ⟨rfl,hk1,ho1⟩;have hr1:=ho1.blk hk0 (by omega);have hl1:=(hUW.lJ ho1).laid;have Yl:=zH (HOW.out.trans ho1);clear hk0 hRW hUW HOW ho1;go_wp2_with fail;refine (HQ.out _ hl1).mono ?_;rintro e w2 ⟨rfl,hb2⟩;have hr2:=(hr1.below hb2 hr1.lt).alloc (.cells #[.bool vn,.string vu,.string vd] 57);have hk2:=(hk1.below hb2 hk1.lt).alloc (.cells #[.bool vn,.string vu,.string vd] 57);have HO2:Hid (bW R w (w2.alloc (.cells #[.bool vn,.string vu,.string vd] 57))):=(Yl.out.trans (bW.of_below hb2)).trans (bW.of_below (zB _ _));have kN:=zH hk2;have hc:=hr2.cells;have hf:=hr2.bH;clear hl1 hr1 hk1 Yl hb2 hr2 hk2;go_wp2
 ·exact⟨rfl,rfl,kN.out,HO2.out⟩
 ·refine bodyPost_ret (v:=.agg #[.bool vn,.string vu,.string vd]) (by simp[results,results253,go_sem,hc]) rfl ⟨rfl,?_,?_⟩
  ·exact ((kN.out.other (p:=⟨B,0,none⟩) (by show R≠B;omega) _).other (p:=⟨B,1,none⟩) (by show R≠B;omega) _).other (p:=⟨B,2,none⟩) (by show R≠B;omega) _
  ·have h:=HB.out;exact ((HO2.out.fresh (by omega) 0 _).fresh (by omega) 1 _).fresh (by omega) 2 _
def uy (q:ByteArray) (x:Sh):Bool:=decide ((⟨x.word.toArray⟩:ByteArray)=q)&& !decide (q=⟨#[]⟩)
theorem Vw (x:Sh) (q:ByteArray) (b:Nat) (t:TypeId) (w:World) (hb:aj w b t [.string q]):
  Calls prog 252 #[x.v,.pointer (some ⟨b,0,none⟩)] w fun e w'=>e=.returned (.bool (uy q x))/\Below w.heap.size w w':=by
 unfold uy Sh.v;obtain⟨wd,ops,lit,eH,fQ⟩:=x;simp only
 generalize (⟨wd.toArray⟩:ByteArray)=d;obtain⟨W,hW⟩:=zE (w.alloc (.cells #[.string d,.int .i64 (ops:Int),.bool lit,.bool eH,.bool fQ] 176));have iY:Hid (Below w.heap.size w W):=by show Below _ _ _;rw[hW];exact zB _ _
 have hk0:aj W w.heap.size 176 [.string d,.int .i64 (ops:Int),.bool lit,.bool eH,.bool fQ]:=by rw[hW];exact aj.new w _ _
 have hc0:=hk0.cells;have hc1:=(hb.below iY.out hb.lt).cells;clear hk0 hb;rw[hW] at hc0 hc1 iY;clear hW W;by_cases h1:d=q
 ·subst h1;by_cases h2:d=⟨#[]⟩
  ·subst h2;rw[decide_eq_true rfl];go_enter func252,ntmps252;go_wp2;go_ret;exact⟨rfl,iY.out⟩
  ·have h3:(d.toList==(⟨#[]⟩:ByteArray).toList)=false:=beq_eq_false_iff_ne.2 (fun h=>h2 (toList_inj h));have h4:=h3;rw[show (⟨#[]⟩:ByteArray).toList=[] by rw[ByteArray.toList_eq]] at h4;rw[decide_eq_true rfl,decide_eq_false h2];go_enter func252,ntmps252;go_wp2;go_ret;exact⟨rfl,iY.out⟩
 ·have h3:(d.toList==q.toList)=false:=beq_eq_false_iff_ne.2 (fun h=>h1 (toList_inj h));rw[decide_eq_false h1];go_enter func252,ntmps252;go_wp2;go_ret;exact⟨rfl,iY.out⟩
instance acP:Inhabited Sh:=⟨uU⟩
theorem Oo (q:ByteArray) (b:Nat) (t:TypeId) (w:World) (hb:aj w b t [.string q]):
  PredBelow prog 252 #[.pointer (some ⟨b,0,none⟩)] (fun x=>.agg (Sh.cells x).toArray) (uy q) w:=fun W x hW=>by
 refine (Vw x q b t W (hb.below hW hb.lt)).mono ?_;rintro e w' ⟨rfl,h⟩;exact⟨rfl,ah hW h⟩
def placeOf (q:ByteArray):Int:=Lib.idxBy (fun _ y=>uy q y) iV default
theorem Vx (q:ByteArray) (b:Nat) (t:TypeId) (g off c:Nat) (w:World) (hb:aj w b t [.string q]) (hg:g<w.heap.size)
  (hc:∀j,j<iV.length->∀i v,(Sh.cells iV[j]!)[i]?=some v->w.cell? ⟨g,off+j*5+i,none⟩=some v):
  Calls prog 251 #[.slice (some ⟨g,off,none⟩) iV.length c,.func (.func 252) #[] #[.pointer (some ⟨b,0,none⟩)]] w fun e w'=>e=.returned (.int .i64 (placeOf q))/\Below w.heap.size w w':=by
 have eg:∀args w,(callFunc 252 args).run prog w=.ok (.enter 252 args) w:=enters_of func252 (by kernel_rfl) rfl
 have h:=AnyQ.slices_IndexFunc Tryz.idxN 5 isAgg176 sizeOf176 Sh.cells (fun _=>rfl) (uy q) 252 #[.pointer (some ⟨b,0,none⟩)] eg g off iV.length c iV w
  (Oo q b t w hb) (Nat.le_refl _) (by decide) hg hc
 rw[take_length] at h;exact h
end Go.Proofs.YtjpbmbgincdjaaaGreatDoor
