/- A part of the proof: K8 Y2 Y5. -/
import Derived.Deep.Cut
import Derived.Deep.CutRange
import Derived.Deep.LoopGhost
import Derived.Test.YtgfeadgafdijaaaGreatDoorJ01
import Derived.Test.YtgfeadgafdijaaaGreatDoorJ17
import Derived.Test.YtgfeadgafdijaaaGreatDoorJ24
set_option linter.unusedVariables false
set_option linter.unusedSimpArgs false
set_option maxRecDepth 100000
set_option maxHeartbeats 40000000
namespace Go.Proofs.YtgfeadgafdijaaaGreatDoor
open Go.RowKit
def Keeps (lo:Nat) (w W:World):Prop:=w.heap.size≤W.heap.size∧∀b,lo≤b→b<w.heap.size→W.heap[b]?=w.heap[b]?
theorem Keeps.of {w W:World} (h:Below w.heap.size w W) (lo:Nat):Keeps lo w W:=⟨h.size,fun b _ hb=>h.block b hb⟩
theorem Keeps.trans {lo:Nat} {w W W':World} (h:Keeps lo w W) (h':Keeps lo W W'):Keeps lo w W':=
 ⟨Nat.le_trans h.1 h'.1,fun b h1 h2=>(h'.2 b h1 (Nat.lt_of_lt_of_le h2 h.1)).trans (h.2 b h1 h2)⟩
theorem Keeps.blk {lo b:Nat} {w W:World} {t:TypeId} {cs:List Value} (h:Keeps lo w W) (hb:aj w b t cs) (hl:lo≤b):aj W b t cs:=(h.2 b hl hb.lt).trans hb
theorem Keeps.cell {lo b:Nat} {w W:World} (h:Keeps lo w W) (hl:lo≤b) (hb:b<w.heap.size) (j:Nat):W.cell? ⟨b,j,none⟩=w.cell? ⟨b,j,none⟩:=World.cell?_of_block (h.2 b hl hb)
def jZ (lo:Nat) (w:World) (k:Int) (f:Value):Prop:=∃g lb,f=.func (.func g) #[] lb∧(∀args w,(callFunc g args).run Tryz.prog w=.ok (.enter g args) w)∧
 ∀(own:Ty) (l:List Ty) (A:Option Addr) (n c:Nat) (W:World),Keeps lo w W→bZ W→n=l.length→n≤c→n≤maxLen→Rd W A (tys l)→(∀t∈l,aN t=true)→l.length=(aC k).ops→
  Calls Tryz.prog g (#[own.v,.slice A n c]++lb) W fun e w'=>e=.returned (.tuple #[(dU k own l).1.v,.bool (dU k own l).2])∧Below W.heap.size W w'
theorem jZ.keeps {lo:Nat} {w w':World} {k:Int} {f:Value} (h:jZ lo w k f) (hb:Keeps lo w w'):jZ lo w' k f:=by
 obtain⟨g,lb,rfl,hg,hc⟩:=h;exact⟨g,lb,rfl,hg,fun own l A n c W hW=>hc own l A n c W (hb.trans hW)⟩
def RV (lo:Nat) (k:Int) (v:Value) (w:World):Prop:=∃f,v=.agg #[.bool (sN k),f]∧jZ lo w k f
theorem len1 {l:List Ty} (h:l.length=1):∃a,l=[a]:=List.length_eq_one_iff.1 h
theorem len2 {l:List Ty} (h:l.length=2):∃a b,l=[a,b]:=match l,h with|[a,b],_=>⟨a,b,rfl⟩
theorem agy {l:List Ty} (h:l.length=3):∃a b c,l=[a,b,c]:=match l,h with|[a,b,c],_=>⟨a,b,c,rfl⟩
theorem rv1 (lo:Nat) (w:World) (b:Nat) (h:aj w b 32 jk.cells) (hlo:lo≤b):jZ lo w 1 (.func (.func 245) #[] #[.pointer (some ⟨b,0,none⟩)]):=by
 refine⟨245,_,rfl,enters_of Tryz.func245 (by kernel_rfl) rfl,fun own l A n c W hW mJ hn hc hm hr hg hl=>?_⟩;exact sO jk own _ b W (hW.blk h hlo)
theorem rv2 (lo:Nat) (w:World) (b:Nat) (h:aj w b 32 wO.cells) (hlo:lo≤b):jZ lo w 2 (.func (.func 245) #[] #[.pointer (some ⟨b,0,none⟩)]):=by
 refine⟨245,_,rfl,enters_of Tryz.func245 (by kernel_rfl) rfl,fun own l A n c W hW mJ hn hc hm hr hg hl=>?_⟩;exact sO wO own _ b W (hW.blk h hlo)
theorem rv3 (lo:Nat) (w:World) (b:Nat) (h:aj w b 32 aI.cells) (hlo:lo≤b):jZ lo w 3 (.func (.func 245) #[] #[.pointer (some ⟨b,0,none⟩)]):=by
 refine⟨245,_,rfl,enters_of Tryz.func245 (by kernel_rfl) rfl,fun own l A n c W hW mJ hn hc hm hr hg hl=>?_⟩;exact sO aI own _ b W (hW.blk h hlo)
theorem rv4 (lo:Nat) (w:World) (b:Nat) (h:aj w b 32 aG.cells) (hlo:lo≤b):jZ lo w 4 (.func (.func 245) #[] #[.pointer (some ⟨b,0,none⟩)]):=by
 refine⟨245,_,rfl,enters_of Tryz.func245 (by kernel_rfl) rfl,fun own l A n c W hW mJ hn hc hm hr hg hl=>?_⟩;exact sO aG own _ b W (hW.blk h hlo)
theorem rv5 (lo:Nat) (w:World) (k:Int) (h:k=5∨k=6∨k=7∨k=8):jZ lo w k (.func (.func 246) #[] #[]):=by
 refine⟨246,_,rfl,enters_of Tryz.func246 (by kernel_rfl) rfl,fun own l A n c W hW mJ hn hc hm hr hg hl=>?_⟩;have e:dU k own l=(own,true):=by rcases h with rfl|rfl|rfl|rfl<;>rfl
 rw[e];exact Qj own _ W
theorem rv9 (lo:Nat) (w:World) (k:Int) (b:Nat) (h:k=9∨k=10∨k=13∨k=14) (hb:aj w b 244 [.func (.func 200) #[] #[]]) (hlo:lo≤b):jZ lo w k (.func (.func 247) #[] #[.pointer (some ⟨b,0,none⟩)]):=by
 refine⟨247,_,rfl,enters_of Tryz.func247 (by kernel_rfl) rfl,fun own l A n c W hW mJ hn hc hm hr hg hl=>?_⟩;obtain⟨x,y,rfl⟩:=len2 (hl.trans (by rcases h with rfl|rfl|rfl|rfl<;>rfl));have e:dU k own [x,y]=(x,decide (x=y)&& !x.truth):=by rcases h with rfl|rfl|rfl|rfl<;>rfl
 obtain rfl:n=2:=hn;rw[e];exact Qk own x y A c b W hr hc (hW.blk hb hlo)
theorem agz (lo:Nat) (w:World) (b:Nat) (hb:aj w b 3 [.int .i64 1]) (hlo:lo≤b):jZ lo w 11 (.func (.func 248) #[] #[.pointer (some ⟨b,0,none⟩)]):=by
 refine⟨248,_,rfl,enters_of Tryz.func248 (by kernel_rfl) rfl,fun own l A n c W hW mJ hn hc hm hr hg hl=>?_⟩;obtain⟨x,y,rfl⟩:=len2 hl;obtain rfl:n=2:=hn
 have e:dU 11 own [x,y]=(oK 1 x y, !x.truth&&(!y.truth&&dZ (oK 1 x y).aH (oK 1 x y).days)):=by
  show ((⟨false,x.aH+y.aH,x.days+y.days⟩:Ty),_)=_
  have e1:oK 1 x y=⟨false,x.aH+y.aH,x.days+y.days⟩:=by
   unfold oK;simp only[Ty.mk.injEq,true_and];constructor<;>omega
  rw[e1];rfl
 rw[e];exact KU own x y 1 A c b W (by omega) (hg x (by simp)) (hg y (by simp)) hr hc (hW.blk hb hlo)
theorem agA (lo:Nat) (w:World) (b:Nat) (hb:aj w b 3 [.int .i64 (-1)]) (hlo:lo≤b):jZ lo w 12 (.func (.func 248) #[] #[.pointer (some ⟨b,0,none⟩)]):=by
 refine⟨248,_,rfl,enters_of Tryz.func248 (by kernel_rfl) rfl,fun own l A n c W hW mJ hn hc hm hr hg hl=>?_⟩;obtain⟨x,y,rfl⟩:=len2 hl;obtain rfl:n=2:=hn
 have e:dU 12 own [x,y]=(oK (-1) x y, !x.truth&&(!y.truth&&dZ (oK (-1) x y).aH (oK (-1) x y).days)):=by
  show ((⟨false,x.aH-y.aH,x.days-y.days⟩:Ty),_)=_
  have e1:oK (-1) x y=⟨false,x.aH-y.aH,x.days-y.days⟩:=by
   unfold oK;simp only[Ty.mk.injEq,true_and];constructor<;>omega
  rw[e1];rfl
 rw[e];exact KU own x y (-1) A c b W (by omega) (hg x (by simp)) (hg y (by simp)) hr hc (hW.blk hb hlo)
theorem agB (lo:Nat) (w:World):jZ lo w 15 (.func (.func 202) #[] #[]):=by
 refine⟨202,_,rfl,enters_of Tryz.func202 (by kernel_rfl) rfl,fun own l A n c W hW mJ hn hc hm hr hg hl=>?_⟩;obtain⟨x,y,z,rfl⟩:=agy hl;obtain rfl:n=3:=hn;exact abI own x y z A c W mJ hr hc
theorem agC (lo:Nat) (w:World) (b:Nat) (hb:aj w b 244 [.func (.func 203) #[] #[]]) (hlo:lo≤b):jZ lo w 16 (.func (.func 247) #[] #[.pointer (some ⟨b,0,none⟩)]):=by
 refine⟨247,_,rfl,enters_of Tryz.func247 (by kernel_rfl) rfl,fun own l A n c W hW mJ hn hc hm hr hg hl=>?_⟩;obtain⟨x,y,rfl⟩:=len2 hl;obtain rfl:n=2:=hn;exact Ql own x y A c b W mJ hr hc (hW.blk hb hlo)
theorem agD (lo:Nat) (w:World):jZ lo w 17 (.func (.func 204) #[] #[]):=by
 refine⟨204,_,rfl,enters_of Tryz.func204 (by kernel_rfl) rfl,fun own l A n c W hW mJ hn hc hm hr hg hl=>?_⟩;obtain⟨x,y,rfl⟩:=len2 hl;obtain rfl:n=2:=hn;exact Ue own x y A c W mJ hr hc
theorem Zj (lo:Nat) (w:World) (k:Int) (h:k=18∨k=19∨k=20):jZ lo w k (.func (.func 249) #[] #[]):=by
 refine⟨249,_,rfl,enters_of Tryz.func249 (by kernel_rfl) rfl,fun own l A n c W hW mJ hn hc hm hr hg hl=>?_⟩;have e:dU k own l=(aG,l.all fun t=>decide (t=aG)):=by rcases h with rfl|rfl|rfl<;>rfl
 rw[e];exact Oh own l A n c W mJ hn hm hr
theorem Zk (lo:Nat) (w:World) (k:Int) (h:k=21∨k=22∨k=23):jZ lo w k (.func (.func 250) #[] #[]):=by
 refine⟨250,_,rfl,enters_of Tryz.func250 (by kernel_rfl) rfl,fun own l A n c W hW mJ hn hc hm hr hg hl=>?_⟩;obtain⟨x,rfl⟩:=len1 (hl.trans (by rcases h with rfl|rfl|rfl<;>rfl));have e:dU k own [x]=(x, !x.truth):=by rcases h with rfl|rfl|rfl<;>rfl
 obtain rfl:n=1:=hn;rw[e];exact MF own x A c W hr hc
theorem agE (lo:Nat) (w:World):jZ lo w 24 (.func (.func 207) #[] #[]):=by
 refine⟨207,_,rfl,enters_of Tryz.func207 (by kernel_rfl) rfl,fun own l A n c W hW mJ hn hc hm hr hg hl=>?_⟩;obtain⟨x,rfl⟩:=len1 hl;obtain rfl:n=1:=hn;exact Ud own x A c W hr hc
def pY (lo:Nat) (w:World) (b:Nat):Prop:=lo≤b∧b<w.heap.size∧∀k:Nat,1≤k→k≤24→∃f,w.cell? ⟨b,2*k,none⟩=some (.bool (sN k))∧w.cell? ⟨b,2*k+1,none⟩=some f∧jZ lo w k f
theorem pY.keeps {lo:Nat} {w w':World} {b:Nat} (h:pY lo w b) (hb:Keeps lo w w'):pY lo w' b:=
 ⟨h.1,Nat.lt_of_lt_of_le h.2.1 hb.1,fun k h1 h2=>by
   obtain⟨f,c0,c1,hv⟩:=h.2.2 k h1 h2;exact⟨f,(hb.cell h.1 h.2.1 _).trans c0,(hb.cell h.1 h.2.1 _).trans c1,hv.keeps hb⟩⟩
def MK (lo i:Nat) (v:Value) (w:World):Prop:=match i with
 |0=>v=jk.v
 |1=>RV lo 1 v w
 |2=>v=wO.v
 |3=>RV lo 2 v w
 |4=>v=aI.v
 |5=>RV lo 3 v w
 |6=>v=aG.v
 |7=>RV lo 4 v w
 |8=>RV lo 5 v w
 |9=>RV lo 6 v w
 |10=>RV lo 7 v w
 |11=>RV lo 8 v w
 |12=>RV lo 9 v w
 |13=>RV lo 10 v w
 |14=>RV lo 13 v w
 |15=>RV lo 14 v w
 |16=>RV lo 11 v w
 |17=>RV lo 12 v w
 |18=>RV lo 15 v w
 |19=>RV lo 16 v w
 |20=>RV lo 17 v w
 |21=>RV lo 18 v w
 |22=>RV lo 19 v w
 |23=>RV lo 20 v w
 |24=>RV lo 21 v w
 |25=>RV lo 22 v w
 |26=>RV lo 23 v w
 |27=>RV lo 24 v w
 |_=>∃b,v=.slice (some ⟨b,0,none⟩) 25 25∧pY lo w b
theorem Uf (lo i:Nat) (v:Value) (w w':World) (h:MK lo i v w) (hb:Below w.heap.size w w'):MK lo i v w':=by
 have hV:∀k,RV lo k v w→RV lo k v w':=fun k ⟨f,e,hf⟩=>⟨f,e,hf.keeps (Keeps.of hb lo)⟩
 have hS:(∃b,v=.slice (some ⟨b,0,none⟩) 25 25∧pY lo w b)→∃b,v=.slice (some ⟨b,0,none⟩) 25 25∧pY lo w' b:=fun⟨b,e,hr⟩=>⟨b,e,hr.keeps (Keeps.of hb lo)⟩
 unfold MK at h⊢;split at h<;>first|exact h|exact hV _ h|exact hS h
theorem Ug (w:World) (hL:bZ w):Calls Tryz.prog 156 #[] w fun e w'=>(∃b,e=.returned (.slice (some ⟨b,0,none⟩) 25 25)∧pY w.heap.size w' b)∧Below w.heap.size w w':=by
 have HL:=zH hL;clear hL;go_enter Tryz.func156,Tryz.ntmps156
 go_upto_region 1 with fail
 refine Qd (n:=30) (by kernel_rfl) (by kernel_rfl) rfl (MK w.heap.size) (Uf _) ?_ ?_
 ·intro i o ho a1 W hb dD;have fP:=zH (HL.out.below hb);have BZ:Hid (w.heap.size≤W.heap.size):=hb.size;clear hb
  match i,ho with
  |0,ho=>
   injection ho with ho;subst ho;refine wpOp_step rfl (fun K hK=>?_);rw[if_pos (by rfl)];have HK:=zH hK;clear hK;have g0:=fP.out.cash 0 _ rfl;have g1:=fP.out.cash 1 _ rfl;have g2:=fP.out.cash 2 _ rfl;unfold jk at g0 g1 g2;simp only at g0 g1 g2;clear dD;go_simp;exact HK.out _ _ ⟨_,rfl,rfl,Below.refl _ _⟩
  |1,ho=>
   injection ho with ho;subst ho;refine wpOp_step rfl (fun K hK=>?_);rw[if_pos (by rfl)];have HK:=zH hK;clear hK;have h:(a1.tmps[1]?).getD undef=jk.v:=dD ⟨0,.data⟩ (by simp) rfl;clear dD;go_simp
   go_at_call 197
   refine (uT jk W).mono ?_;rintro e w' ⟨b,rfl,hb,hlo,hbw⟩;exact HK.out _ _ ⟨_,rfl,⟨_,rfl,rv1 _ _ b hb (Nat.le_trans BZ.out hlo)⟩,hbw⟩
  |2,ho=>
   injection ho with ho;subst ho;refine wpOp_step rfl (fun K hK=>?_);rw[if_pos (by rfl)];have HK:=zH hK;clear hK;have g0:=fP.out.days 0 _ rfl;have g1:=fP.out.days 1 _ rfl;have g2:=fP.out.days 2 _ rfl;unfold wO at g0 g1 g2;simp only at g0 g1 g2;clear dD;go_simp;exact HK.out _ _ ⟨_,rfl,rfl,Below.refl _ _⟩
  |3,ho=>
   injection ho with ho;subst ho;refine wpOp_step rfl (fun K hK=>?_);rw[if_pos (by rfl)];have HK:=zH hK;clear hK;have h:(a1.tmps[3]?).getD undef=wO.v:=dD ⟨2,.data⟩ (by simp) rfl;clear dD;go_simp
   go_at_call 197
   refine (uT wO W).mono ?_;rintro e w' ⟨b,rfl,hb,hlo,hbw⟩;exact HK.out _ _ ⟨_,rfl,⟨_,rfl,rv2 _ _ b hb (Nat.le_trans BZ.out hlo)⟩,hbw⟩
  |4,ho=>
   injection ho with ho;subst ho;refine wpOp_step rfl (fun K hK=>?_);rw[if_pos (by rfl)];have HK:=zH hK;clear hK;have g0:=fP.out.plain 0 _ rfl;have g1:=fP.out.plain 1 _ rfl;have g2:=fP.out.plain 2 _ rfl;unfold aI at g0 g1 g2;simp only at g0 g1 g2;clear dD;go_simp;exact HK.out _ _ ⟨_,rfl,rfl,Below.refl _ _⟩
  |5,ho=>
   injection ho with ho;subst ho;refine wpOp_step rfl (fun K hK=>?_);rw[if_pos (by rfl)];have HK:=zH hK;clear hK;have h:(a1.tmps[5]?).getD undef=aI.v:=dD ⟨4,.data⟩ (by simp) rfl;clear dD;go_simp
   go_at_call 197
   refine (uT aI W).mono ?_;rintro e w' ⟨b,rfl,hb,hlo,hbw⟩;exact HK.out _ _ ⟨_,rfl,⟨_,rfl,rv3 _ _ b hb (Nat.le_trans BZ.out hlo)⟩,hbw⟩
  |6,ho=>
   injection ho with ho;subst ho;refine wpOp_step rfl (fun K hK=>?_);rw[if_pos (by rfl)];have HK:=zH hK;clear hK;have g0:=fP.out.truth 0 _ rfl;have g1:=fP.out.truth 1 _ rfl;have g2:=fP.out.truth 2 _ rfl;unfold aG at g0 g1 g2;simp only at g0 g1 g2;clear dD;go_simp;exact HK.out _ _ ⟨_,rfl,rfl,Below.refl _ _⟩
  |7,ho=>
   injection ho with ho;subst ho;refine wpOp_step rfl (fun K hK=>?_);rw[if_pos (by rfl)];have HK:=zH hK;clear hK;have h:(a1.tmps[7]?).getD undef=aG.v:=dD ⟨6,.data⟩ (by simp) rfl;clear dD;go_simp
   go_at_call 197
   refine (uT aG W).mono ?_;rintro e w' ⟨b,rfl,hb,hlo,hbw⟩;exact HK.out _ _ ⟨_,rfl,⟨_,rfl,rv4 _ _ b hb (Nat.le_trans BZ.out hlo)⟩,hbw⟩
  |8,ho=>
   injection ho with ho;subst ho;refine wpOp_step rfl (fun K hK=>?_);rw[if_pos (by rfl)];have HK:=zH hK;clear hK;clear dD;go_simp
   go_at_call 198
   refine (wU W).mono ?_;rintro e w' ⟨rfl,hbw⟩;exact HK.out _ _ ⟨_,rfl,⟨_,rfl,rv5 _ _ _ (by omega)⟩,hbw⟩
  |9,ho=>
   injection ho with ho;subst ho;refine wpOp_step rfl (fun K hK=>?_);rw[if_pos (by rfl)];have HK:=zH hK;clear hK;clear dD;go_simp
   go_at_call 198
   refine (wU W).mono ?_;rintro e w' ⟨rfl,hbw⟩;exact HK.out _ _ ⟨_,rfl,⟨_,rfl,rv5 _ _ _ (by omega)⟩,hbw⟩
  |10,ho=>
   injection ho with ho;subst ho;refine wpOp_step rfl (fun K hK=>?_);rw[if_pos (by rfl)];have HK:=zH hK;clear hK;clear dD;go_simp
   go_at_call 198
   refine (wU W).mono ?_;rintro e w' ⟨rfl,hbw⟩;exact HK.out _ _ ⟨_,rfl,⟨_,rfl,rv5 _ _ _ (by omega)⟩,hbw⟩
  |11,ho=>
   injection ho with ho;subst ho;refine wpOp_step rfl (fun K hK=>?_);rw[if_pos (by rfl)];have HK:=zH hK;clear hK;clear dD;go_simp
   go_at_call 198
   refine (wU W).mono ?_;rintro e w' ⟨rfl,hbw⟩;exact HK.out _ _ ⟨_,rfl,⟨_,rfl,rv5 _ _ _ (by omega)⟩,hbw⟩
  |12,ho=>
   injection ho with ho;subst ho;refine wpOp_step rfl (fun K hK=>?_);rw[if_pos (by rfl)];have HK:=zH hK;clear hK;clear dD;go_simp
   go_at_call 199
   refine (sQ _ W).mono ?_;rintro e w' ⟨b,rfl,hb,hlo,hbw⟩;exact HK.out _ _ ⟨_,rfl,⟨_,rfl,rv9 _ _ _ b (by omega) hb (Nat.le_trans BZ.out hlo)⟩,hbw⟩
  |13,ho=>
   injection ho with ho;subst ho;refine wpOp_step rfl (fun K hK=>?_);rw[if_pos (by rfl)];have HK:=zH hK;clear hK;clear dD;go_simp
   go_at_call 199
   refine (sQ _ W).mono ?_;rintro e w' ⟨b,rfl,hb,hlo,hbw⟩;exact HK.out _ _ ⟨_,rfl,⟨_,rfl,rv9 _ _ _ b (by omega) hb (Nat.le_trans BZ.out hlo)⟩,hbw⟩
  |14,ho=>
   injection ho with ho;subst ho;refine wpOp_step rfl (fun K hK=>?_);rw[if_pos (by rfl)];have HK:=zH hK;clear hK;clear dD;go_simp
   go_at_call 199
   refine (sQ _ W).mono ?_;rintro e w' ⟨b,rfl,hb,hlo,hbw⟩;exact HK.out _ _ ⟨_,rfl,⟨_,rfl,rv9 _ _ _ b (by omega) hb (Nat.le_trans BZ.out hlo)⟩,hbw⟩
  |15,ho=>
   injection ho with ho;subst ho;refine wpOp_step rfl (fun K hK=>?_);rw[if_pos (by rfl)];have HK:=zH hK;clear hK;clear dD;go_simp
   go_at_call 199
   refine (sQ _ W).mono ?_;rintro e w' ⟨b,rfl,hb,hlo,hbw⟩;exact HK.out _ _ ⟨_,rfl,⟨_,rfl,rv9 _ _ _ b (by omega) hb (Nat.le_trans BZ.out hlo)⟩,hbw⟩
  |16,ho=>
   injection ho with ho;subst ho;refine wpOp_step rfl (fun K hK=>?_);rw[if_pos (by rfl)];have HK:=zH hK;clear hK;clear dD;go_simp
   go_at_call 201
   refine (DT _ W).mono ?_;rintro e w' ⟨b,rfl,hb,hlo,hbw⟩;exact HK.out _ _ ⟨_,rfl,⟨_,rfl,agz _ _ b hb (Nat.le_trans BZ.out hlo)⟩,hbw⟩
  |17,ho=>
   injection ho with ho;subst ho;refine wpOp_step rfl (fun K hK=>?_);rw[if_pos (by rfl)];have HK:=zH hK;clear hK;clear dD;go_simp
   go_at_call 201
   refine (DT _ W).mono ?_;rintro e w' ⟨b,rfl,hb,hlo,hbw⟩;exact HK.out _ _ ⟨_,rfl,⟨_,rfl,agA _ _ b hb (Nat.le_trans BZ.out hlo)⟩,hbw⟩
  |18,ho=>
   injection ho with ho;subst ho;refine wpOp_step rfl (fun K hK=>?_);rw[if_pos (by rfl)];have HK:=zH hK;clear hK;clear dD;go_simp;exact HK.out _ _ ⟨_,rfl,⟨_,rfl,agB _ _⟩,Below.refl _ _⟩
  |19,ho=>
   injection ho with ho;subst ho;refine wpOp_step rfl (fun K hK=>?_);rw[if_pos (by rfl)];have HK:=zH hK;clear hK;clear dD;go_simp
   go_at_call 199
   refine (sQ _ W).mono ?_;rintro e w' ⟨b,rfl,hb,hlo,hbw⟩;exact HK.out _ _ ⟨_,rfl,⟨_,rfl,agC _ _ b hb (Nat.le_trans BZ.out hlo)⟩,hbw⟩
  |20,ho=>
   injection ho with ho;subst ho;refine wpOp_step rfl (fun K hK=>?_);rw[if_pos (by rfl)];have HK:=zH hK;clear hK;clear dD;go_simp;exact HK.out _ _ ⟨_,rfl,⟨_,rfl,agD _ _⟩,Below.refl _ _⟩
  |21,ho=>
   injection ho with ho;subst ho;refine wpOp_step rfl (fun K hK=>?_);rw[if_pos (by rfl)];have HK:=zH hK;clear hK;clear dD;go_simp
   go_at_call 205
   refine (zq W).mono ?_;rintro e w' ⟨rfl,hbw⟩;exact HK.out _ _ ⟨_,rfl,⟨_,rfl,Zj _ _ _ (by omega)⟩,hbw⟩
  |22,ho=>
   injection ho with ho;subst ho;refine wpOp_step rfl (fun K hK=>?_);rw[if_pos (by rfl)];have HK:=zH hK;clear hK;clear dD;go_simp
   go_at_call 205
   refine (zq W).mono ?_;rintro e w' ⟨rfl,hbw⟩;exact HK.out _ _ ⟨_,rfl,⟨_,rfl,Zj _ _ _ (by omega)⟩,hbw⟩
  |23,ho=>
   injection ho with ho;subst ho;refine wpOp_step rfl (fun K hK=>?_);rw[if_pos (by rfl)];have HK:=zH hK;clear hK;clear dD;go_simp
   go_at_call 205
   refine (zq W).mono ?_;rintro e w' ⟨rfl,hbw⟩;exact HK.out _ _ ⟨_,rfl,⟨_,rfl,Zj _ _ _ (by omega)⟩,hbw⟩
  |24,ho=>
   injection ho with ho;subst ho;refine wpOp_step rfl (fun K hK=>?_);rw[if_pos (by rfl)];have HK:=zH hK;clear hK;clear dD;go_simp
   go_at_call 206
   refine (yj W).mono ?_;rintro e w' ⟨rfl,hbw⟩;exact HK.out _ _ ⟨_,rfl,⟨_,rfl,Zk _ _ _ (by omega)⟩,hbw⟩
  |25,ho=>
   injection ho with ho;subst ho;refine wpOp_step rfl (fun K hK=>?_);rw[if_pos (by rfl)];have HK:=zH hK;clear hK;clear dD;go_simp
   go_at_call 206
   refine (yj W).mono ?_;rintro e w' ⟨rfl,hbw⟩;exact HK.out _ _ ⟨_,rfl,⟨_,rfl,Zk _ _ _ (by omega)⟩,hbw⟩
  |26,ho=>
   injection ho with ho;subst ho;refine wpOp_step rfl (fun K hK=>?_);rw[if_pos (by rfl)];have HK:=zH hK;clear hK;clear dD;go_simp
   go_at_call 206
   refine (yj W).mono ?_;rintro e w' ⟨rfl,hbw⟩;exact HK.out _ _ ⟨_,rfl,⟨_,rfl,Zk _ _ _ (by omega)⟩,hbw⟩
  |27,ho=>
   injection ho with ho;subst ho;refine wpOp_step rfl (fun K hK=>?_);rw[if_pos (by rfl)];have HK:=zH hK;clear hK;clear dD;go_simp;exact HK.out _ _ ⟨_,rfl,⟨_,rfl,agE _ _⟩,Below.refl _ _⟩
  |28,ho=>
   injection ho with ho;subst ho;refine wpOp_step rfl (fun K hK=>?_);rw[if_pos (by rfl)];have HK:=zH hK;clear hK;obtain⟨f1,h1,r1⟩:RV w.heap.size 1 ((a1.tmps[2]?).getD undef) W:=dD ⟨1,.data⟩ (by simp) rfl;obtain⟨f2,h2,r2⟩:RV w.heap.size 2 ((a1.tmps[4]?).getD undef) W:=dD ⟨3,.data⟩ (by simp) rfl;obtain⟨f3,h3,r3⟩:RV w.heap.size 3 ((a1.tmps[6]?).getD undef) W:=dD ⟨5,.data⟩ (by simp) rfl;obtain⟨f4,h4,r4⟩:RV w.heap.size 4 ((a1.tmps[8]?).getD undef) W:=dD ⟨7,.data⟩ (by simp) rfl;obtain⟨f5,h5,r5⟩:RV w.heap.size 5 ((a1.tmps[9]?).getD undef) W:=dD ⟨8,.data⟩ (by simp) rfl;obtain⟨f6,h6,r6⟩:RV w.heap.size 6 ((a1.tmps[10]?).getD undef) W:=dD ⟨9,.data⟩ (by simp) rfl;obtain⟨f7,h7,r7⟩:RV w.heap.size 7 ((a1.tmps[11]?).getD undef) W:=dD ⟨10,.data⟩ (by simp) rfl;obtain⟨f8,h8,r8⟩:RV w.heap.size 8 ((a1.tmps[12]?).getD undef) W:=dD ⟨11,.data⟩ (by simp) rfl;obtain⟨f9,h9,r9⟩:RV w.heap.size 9 ((a1.tmps[13]?).getD undef) W:=dD ⟨12,.data⟩ (by simp) rfl;obtain⟨f10,h10,r10⟩:RV w.heap.size 10 ((a1.tmps[14]?).getD undef) W:=dD ⟨13,.data⟩ (by simp) rfl;obtain⟨f13,h13,r13⟩:RV w.heap.size 13 ((a1.tmps[15]?).getD undef) W:=dD ⟨14,.data⟩ (by simp) rfl;obtain⟨f14,h14,r14⟩:RV w.heap.size 14 ((a1.tmps[16]?).getD undef) W:=dD ⟨15,.data⟩ (by simp) rfl;obtain⟨f11,h11,r11⟩:RV w.heap.size 11 ((a1.tmps[17]?).getD undef) W:=dD ⟨16,.data⟩ (by simp) rfl;obtain⟨f12,h12,r12⟩:RV w.heap.size 12 ((a1.tmps[18]?).getD undef) W:=dD ⟨17,.data⟩ (by simp) rfl;obtain⟨f15,h15,r15⟩:RV w.heap.size 15 ((a1.tmps[19]?).getD undef) W:=dD ⟨18,.data⟩ (by simp) rfl;obtain⟨f16,h16,r16⟩:RV w.heap.size 16 ((a1.tmps[20]?).getD undef) W:=dD ⟨19,.data⟩ (by simp) rfl;obtain⟨f17,h17,r17⟩:RV w.heap.size 17 ((a1.tmps[21]?).getD undef) W:=dD ⟨20,.data⟩ (by simp) rfl;obtain⟨f18,h18,r18⟩:RV w.heap.size 18 ((a1.tmps[22]?).getD undef) W:=dD ⟨21,.data⟩ (by simp) rfl;obtain⟨f19,h19,r19⟩:RV w.heap.size 19 ((a1.tmps[23]?).getD undef) W:=dD ⟨22,.data⟩ (by simp) rfl;obtain⟨f20,h20,r20⟩:RV w.heap.size 20 ((a1.tmps[24]?).getD undef) W:=dD ⟨23,.data⟩ (by simp) rfl;obtain⟨f21,h21,r21⟩:RV w.heap.size 21 ((a1.tmps[25]?).getD undef) W:=dD ⟨24,.data⟩ (by simp) rfl;obtain⟨f22,h22,r22⟩:RV w.heap.size 22 ((a1.tmps[26]?).getD undef) W:=dD ⟨25,.data⟩ (by simp) rfl;obtain⟨f23,h23,r23⟩:RV w.heap.size 23 ((a1.tmps[27]?).getD undef) W:=dD ⟨26,.data⟩ (by simp) rfl;obtain⟨f24,h24,r24⟩:RV w.heap.size 24 ((a1.tmps[28]?).getD undef) W:=dD ⟨27,.data⟩ (by simp) rfl;clear dD;go_simp;have hbe:=fun o=>(Below.refl W.heap.size W).alloc (Nat.le_refl _) o
   refine HK.out _ _ ⟨_,rfl,⟨_,rfl,BZ.out,by rw[World.size_alloc];omega,fun k h1 h2=>?_⟩,hbe _⟩
   match k,h1,h2 with
   |0,h1,_=>omega
   |1,_,_=>exact⟨f1,(aj.new W _ _).cells 2,(aj.new W _ _).cells 3,r1.keeps (Keeps.of (hbe _) _)⟩
   |2,_,_=>exact⟨f2,(aj.new W _ _).cells 4,(aj.new W _ _).cells 5,r2.keeps (Keeps.of (hbe _) _)⟩
   |3,_,_=>exact⟨f3,(aj.new W _ _).cells 6,(aj.new W _ _).cells 7,r3.keeps (Keeps.of (hbe _) _)⟩
   |4,_,_=>exact⟨f4,(aj.new W _ _).cells 8,(aj.new W _ _).cells 9,r4.keeps (Keeps.of (hbe _) _)⟩
   |5,_,_=>exact⟨f5,(aj.new W _ _).cells 10,(aj.new W _ _).cells 11,r5.keeps (Keeps.of (hbe _) _)⟩
   |6,_,_=>exact⟨f6,(aj.new W _ _).cells 12,(aj.new W _ _).cells 13,r6.keeps (Keeps.of (hbe _) _)⟩
   |7,_,_=>exact⟨f7,(aj.new W _ _).cells 14,(aj.new W _ _).cells 15,r7.keeps (Keeps.of (hbe _) _)⟩
   |8,_,_=>exact⟨f8,(aj.new W _ _).cells 16,(aj.new W _ _).cells 17,r8.keeps (Keeps.of (hbe _) _)⟩
   |9,_,_=>exact⟨f9,(aj.new W _ _).cells 18,(aj.new W _ _).cells 19,r9.keeps (Keeps.of (hbe _) _)⟩
   |10,_,_=>exact⟨f10,(aj.new W _ _).cells 20,(aj.new W _ _).cells 21,r10.keeps (Keeps.of (hbe _) _)⟩
   |11,_,_=>exact⟨f11,(aj.new W _ _).cells 22,(aj.new W _ _).cells 23,r11.keeps (Keeps.of (hbe _) _)⟩
   |12,_,_=>exact⟨f12,(aj.new W _ _).cells 24,(aj.new W _ _).cells 25,r12.keeps (Keeps.of (hbe _) _)⟩
   |13,_,_=>exact⟨f13,(aj.new W _ _).cells 26,(aj.new W _ _).cells 27,r13.keeps (Keeps.of (hbe _) _)⟩
   |14,_,_=>exact⟨f14,(aj.new W _ _).cells 28,(aj.new W _ _).cells 29,r14.keeps (Keeps.of (hbe _) _)⟩
   |15,_,_=>exact⟨f15,(aj.new W _ _).cells 30,(aj.new W _ _).cells 31,r15.keeps (Keeps.of (hbe _) _)⟩
   |16,_,_=>exact⟨f16,(aj.new W _ _).cells 32,(aj.new W _ _).cells 33,r16.keeps (Keeps.of (hbe _) _)⟩
   |17,_,_=>exact⟨f17,(aj.new W _ _).cells 34,(aj.new W _ _).cells 35,r17.keeps (Keeps.of (hbe _) _)⟩
   |18,_,_=>exact⟨f18,(aj.new W _ _).cells 36,(aj.new W _ _).cells 37,r18.keeps (Keeps.of (hbe _) _)⟩
   |19,_,_=>exact⟨f19,(aj.new W _ _).cells 38,(aj.new W _ _).cells 39,r19.keeps (Keeps.of (hbe _) _)⟩
   |20,_,_=>exact⟨f20,(aj.new W _ _).cells 40,(aj.new W _ _).cells 41,r20.keeps (Keeps.of (hbe _) _)⟩
   |21,_,_=>exact⟨f21,(aj.new W _ _).cells 42,(aj.new W _ _).cells 43,r21.keeps (Keeps.of (hbe _) _)⟩
   |22,_,_=>exact⟨f22,(aj.new W _ _).cells 44,(aj.new W _ _).cells 45,r22.keeps (Keeps.of (hbe _) _)⟩
   |23,_,_=>exact⟨f23,(aj.new W _ _).cells 46,(aj.new W _ _).cells 47,r23.keeps (Keeps.of (hbe _) _)⟩
   |24,_,_=>exact⟨f24,(aj.new W _ _).cells 48,(aj.new W _ _).cells 49,r24.keeps (Keeps.of (hbe _) _)⟩
   |k+25,_,h2=>omega
  |29,ho=>
   injection ho with ho;subst ho;refine wpOp_step rfl (fun K hK=>?_);rw[if_pos (by rfl)];have HK:=zH hK;clear hK;obtain⟨b,h,hr⟩:∃b,(a1.tmps[29]?).getD undef=.slice (some ⟨b,0,none⟩) 25 25∧pY w.heap.size W b:=dD ⟨28,.data⟩ (by simp) rfl;clear dD;go_simp;exact HK.out _ _ ⟨_,rfl,⟨b,rfl,hr⟩,Below.refl _ _⟩
  |i+30,ho=>cases ho
 ·intro a1 W hsz hdf hb hall;obtain⟨b,h,hr⟩:∃b,(a1.tmps[0]?).getD undef=.slice (some ⟨b,0,none⟩) 25 25∧pY w.heap.size W b:=hall 29 (by decide);clear hall;go_wp2;exact bodyPost_ret (v:=.slice (some ⟨b,0,none⟩) 25 25) (by simp[results,Tryz.results156,go_sem,h]) hdf ⟨⟨b,rfl,hr⟩,hb⟩
def uF (op:Int) (nm:ByteArray) (s:Sg):Bool:=decide (s.op=op)&&(decide (s.name=nm)&&(sN op&&(aN s.ty&&(decide (op≠24)|| !s.ty.truth))))
def zu (l:List Sg) (op:Int) (nm:ByteArray):Option Ty:=(l.find? (uF op nm)).map Sg.ty
theorem abJ (l:List Sg) (n:Nd):zu l n.op n.name=if sN n.op then pW l n else none:=by
 unfold zu pW;cases h:sN n.op
 ·rw[if_neg (by decide),List.find?_eq_none.2 (fun s _=>by unfold uF;rw[h];simp)];rfl
 ·rw[if_pos rfl];congr 2
  funext s
  unfold uF sK;rw[h];by_cases h1:s.op=n.op<;>simp[h1]
def WQ (q:Option Ty) (w:World) (e:Ending) (w':World):Prop:=e=.returned (.tuple #[(q.getD aI).v,.bool q.isSome])∧Below w.heap.size w w'
theorem WR (l:List Sg) (A:Option Addr) (k c:Nat) (nop:Int) (nR:ByteArray) (w:World) (hk:k=l.length) (hm:k≤maxLen) (hr:Rd w A (kM l)):
  Calls Tryz.prog 225 #[.slice A k c,.int .i64 nop,.string nR] w (WQ (zu l nop nR) w):=by
 have lS:=zH hk;have hm2:k≤9223372036854775807:=by unfold maxLen at hm;omega
 clear hk hm;go_enter Tryz.func225,Tryz.ntmps225
 go_upto_region 1 with fail
 generalize hX:w.alloc _=W;obtain⟨hk0,hbw⟩:=zA hX;have hle:w.heap.size≤w.heap.size:=Nat.le_refl _;generalize hB:w.heap.size=B at hk0 hle⊢;clear hX;rw[←hB] at hle;go_wp2
 go_loopg [8] k (fun g iv wr=>∃j:Nat,j+g=k∧iv=.int .i64 j∧Below W.heap.size W wr∧Hid ((l.drop j).find? (uF nop nR)=l.find? (uF nop nR)))
 case atStart=>exact⟨0,by omega,rfl,Below.refl _ _,rfl⟩
 case round=>
  obtain⟨j,hj,rfl,hbr,hf⟩:=hrel;have KZ:=hk0.below hbr hk0.lt
  have gu:Hid (∀X v0 v1 v2,Below W.heap.size W X→Below w.heap.size w (((X.setCell ⟨B,0,none⟩ v0).setCell ⟨B,1,none⟩ v1).setCell ⟨B,2,none⟩ v2)):=fun X v0 v1 v2 h=>by
   have h:=ah hbw h;have hl:w.heap.size≤B:=Nat.le_of_eq hB;exact ((h.setCell (p:=⟨B,0,none⟩) hl v0).setCell (p:=⟨B,1,none⟩) hl v1).setCell (p:=⟨B,2,none⟩) hl v2
  by_cases hlt:j<k
  ·have hjl:j<l.length:=by rw[←lS.out];exact hlt
   obtain⟨b,off,hA,hb,hc⟩:=Rd.row Sg.cells 5 (fun _=>rfl) (by omega) hr hjl;subst hA;have hf2:=hf.out;rw[List.drop_eq_getElem_cons hjl,List.find?_cons] at hf2;replace hf:=zH hf2;generalize l[j]=s at*;obtain⟨mZ,wG,⟨st,sm,sd⟩⟩:=s;have jr:=ah hbw hbr;have d0:=(jr.cell (p:=⟨b,off+j*5+0,none⟩) hb).trans (hc 0 _ rfl);have d1:=(jr.cell (p:=⟨b,off+j*5+1,none⟩) hb).trans (hc 1 _ rfl);have d2:=(jr.cell (p:=⟨b,off+j*5+2,none⟩) hb).trans (hc 2 _ rfl);have d3:=(jr.cell (p:=⟨b,off+j*5+3,none⟩) hb).trans (hc 3 _ rfl);have d4:=(jr.cell (p:=⟨b,off+j*5+4,none⟩) hb).trans (hc 4 _ rfl);simp only[Nat.add_zero] at d0;clear hc jr hf2 KZ
   go_upto_region 5 with fail
   generalize hX:wr.alloc _=W5;obtain⟨hk5,hb5⟩:=zA hX;replace hbr:=ah hbr hb5;generalize wr.heap.size=N at hk5⊢;clear hX hb5 d0 d1 d2 d3 d4
   go_cut [8,48] from 10 to 50 (fun jv qv X=>jv=.int .i64 (j:Int)∧qv=.bool (uF nop nR ⟨mZ,wG,⟨st,sm,sd⟩⟩)∧Below W5.heap.size W5 X)
   case first=>
    have hc2:=hk5.cells;by_cases h1:mZ=nop
    ·subst h1;by_cases h2:wG=nR
     ·subst h2;have HE:Hid (uF mZ wG ⟨mZ,wG,⟨st,sm,sd⟩⟩=(sN mZ&&(aN ⟨st,sm,sd⟩&&(decide (mZ≠24)|| !st)))):=by show _=_;unfold uF;simp
      obtain⟨o,ho⟩:=zF (sN mZ);obtain⟨r,hr'⟩:=zF (aN ⟨st,sm,sd⟩);rw[ho,hr'] at HE;go_wp2_with fail;refine (IK mZ _).mono ?_;rw[ho];rintro e w6 ⟨rfl,hb6⟩;have hc2:=(hk5.below hb6 hk5.lt).cells;clear ho;cases o
      ·go_wp2
       go_meet
       case rel=>exact⟨rfl,by rw[HE.out];rfl,hb6⟩
      ·go_wp2_with fail;refine (sU ⟨st,sm,sd⟩ _).mono ?_;rw[hr'];rintro e w7 ⟨rfl,hb7⟩;replace hb6:=ah hb6 hb7;have hc2:=(hk5.below hb6 hk5.lt).cells;clear hr' hb7;cases r
       ·go_wp2
        go_meet
        case rel=>exact⟨rfl,by rw[HE.out];rfl,hb6⟩
       ·by_cases h3:mZ=24
        ·subst h3;go_wp2
         go_meet
         case rel=>exact⟨rfl,by rw[HE.out];rfl,hb6⟩
        ·have h3b:(mZ !=24)=true:=by simp[h3]
         have h3c:(mZ==24)=false:=by simp[h3]
         rw[decide_eq_true h3] at HE;clear h3;go_wp2
         go_meet
         case rel=>exact⟨rfl,by rw[HE.out];rfl,hb6⟩
     ·have h2b:¬(wG.toList=nR.toList):=fun h=>h2 (by rw[ByteArray.toList_eq,ByteArray.toList_eq] at h;exact ByteArray.ext (Array.toList_inj.1 h))
      have h2c:(wG.toList==nR.toList)=false:=beq_eq_false_iff_ne.2 h2b;have HE:Hid (uF mZ nR ⟨mZ,wG,⟨st,sm,sd⟩⟩=false):=by show _=_;unfold uF;simp[h2]
      go_wp2
      go_meet
      case rel=>exact⟨rfl,by rw[HE.out],Below.refl _ _⟩
    ·have h1b:(mZ==nop)=false:=beq_eq_false_iff_ne.2 h1;have HE:Hid (uF nop nR ⟨mZ,wG,⟨st,sm,sd⟩⟩=false):=by show _=_;unfold uF;simp[h1]
     go_wp2
     go_meet
     case rel=>exact⟨rfl,by rw[HE.out],Below.refl _ _⟩
   case rest=>
    obtain⟨rfl,hq,hbc⟩:=hcut;have hf2:=hf.out;have yh:=hk5.below hbc hk5.lt;replace hbr:=ah hbr hbc;cases Ad:uF nop nR ⟨mZ,wG,⟨st,sm,sd⟩⟩
    ·rw[Ad] at hf2 hq;subst hq;replace hf:=zH hf2;clear yh hbc hf2 Ad;go_wp2
     go_roundg (k-(j+1))
     case measure=>omega
     case rel=>exact⟨j+1,by omega,by go_num,hbr,hf⟩
    ·rw[Ad] at hf2 hq;subst hq;have HQ:Hid (zu l nop nR=some ⟨st,sm,sd⟩):=by show _=_;unfold zu;rw[←hf2];rfl
     have KZ:=hk0.below hbr hk0.lt;have hc1:=KZ.cells;have hf1:=KZ.aF;have hc2:=yh.cells;clear yh hbc KZ hf2 hf Ad hB;go_wp2;refine bodyPost_ret (v:=.tuple #[.agg #[.bool st,.int .i64 sm,.int .i64 sd],.bool true]) (by simp[results,Tryz.results225,go_sem,hc1]) rfl ⟨by rw[HQ.out];rfl,gu.out _ _ _ _ hbr⟩
  ·obtain rfl:j=k:=by omega
   have hf2:=hf.out;rw[lS.out,List.drop_length] at hf2;have HQ:Hid (zu l nop nR=none):=by show _=_;unfold zu;rw[←hf2];rfl
   have hc1:=KZ.cells;have hf1:=KZ.aF;clear KZ hf2 hf hB;go_wp2;refine bodyPost_ret (v:=.tuple #[.agg #[.bool false,.int .i64 0,.int .i64 0],.bool false]) (by simp[results,Tryz.results225,go_sem,hc1]) rfl ⟨by rw[HQ.out];rfl,gu.out _ _ _ _ hbr⟩
def Bd (X:World) (b:Nat) (t:Ty):World:=((X.setCell ⟨b,0,none⟩ (.bool t.truth)).setCell ⟨b,1,none⟩ (.int .i64 t.aH)).setCell ⟨b,2,none⟩ (.int .i64 t.days)
theorem fC {X:World} {b:Nat} {x y z:Value} (h:aj X b 32 [x,y,z]) (t:Ty):aj (Bd X b t) b 32 t.cells:=((h.set 0 _).set 1 _).set 2 _
theorem dL {w X:World} {c n:Nat} (h:Below n w X) (hn:n≤c) (t:Ty):Below n w (Bd X c t):=((h.setCell (p:=⟨c,0,none⟩) hn _).setCell (p:=⟨c,1,none⟩) hn _).setCell (p:=⟨c,2,none⟩) hn _
def vZ (t:Ty) (w:World) (e:Ending) (w':World):Prop:=e=.returned t.v∧Below w.heap.size w w'
theorem og (a b:Int) (w:World):Calls Tryz.prog 12 #[.int .i64 a,.int .i64 b] w (vZ ⟨false,a,b⟩ w):=by
 go_enter Tryz.func12,Tryz.ntmps12
 go_upto_region 1 with fail
 generalize hX:w.alloc _=W;obtain⟨hk,hb⟩:=zA hX;have hc:=hk.cells;have hf:=hk.aF;clear hX;go_wp2;have h1:=(fC hk ⟨false,a,b⟩).cells;have h2:=dL hb (Nat.le_refl _) ⟨false,a,b⟩;unfold Bd at h1 h2;exact bodyPost_ret (v:=Ty.v ⟨false,a,b⟩) (by simp[results,Tryz.results12,go_sem,h1,Ty.v,Ty.cells]) rfl ⟨rfl,h2⟩
theorem wX (w:World):Calls Tryz.prog 227 #[] w (vZ aG w):=by
 go_enter Tryz.func227,Tryz.ntmps227
 go_upto_region 1 with fail
 generalize hX:w.alloc _=W;obtain⟨hk,hb⟩:=zA hX;have hc:=hk.cells;have hf:=hk.aF;clear hX;go_wp2;have h1:=(fC hk aG).cells;have h2:=dL hb (Nat.le_refl _) aG;unfold Bd aG at h1 h2;exact bodyPost_ret (v:=Ty.v aG) (by simp[results,Tryz.results227,go_sem,h1,Ty.v,Ty.cells,aG]) rfl ⟨rfl,h2⟩
theorem DV {α:Type} {l:List α} (h:l.length=2):∃a b,l=[a,b]:=by
 match l,h with
 |[a,b],_=>exact⟨a,b,rfl⟩
theorem Zl {α:Type} {l:List α} (h:l.length=3):∃a b c,l=[a,b,c]:=by
 match l,h with
 |[a,b,c],_=>exact⟨a,b,c,rfl⟩
theorem WT {α:Type} {l:List α} (h:l.length=1):∃a,l=[a]:=by
 match l,h with
 |[a],_=>exact⟨a,rfl⟩
theorem Qn {t:Ty} (h:aN t=true):t.truth=decide (t=aG):=by
 unfold aN at h;cases ht:t.truth
 ·exact (decide_eq_false (fun e=>by rw[e] at ht;cases ht)).symm
 ·rw[if_pos ht] at h;exact h.symm
theorem WU {l:List Ty} (h:∀t∈l,aN t=true):(l.all fun t=>t.truth)=l.all fun t=>decide (t=aG):=by
 induction l with
 |nil=>rfl
 |cons a l ih=>rw[List.all_cons,List.all_cons,Qn (h a (by simp)),ih (fun t ht=>h t (by simp[ht]))]
structure Bf (w:World) (ts:List Ty) (A:Option Addr) (n c:Nat):Prop where
 len:n=ts.length
 cap:n≤c
 max:c≤maxLen
 rd:Rd w A (tys ts)
theorem Bf.below {w w':World} {ts:List Ty} {A:Option Addr} {n c:Nat} (h:Bf w ts A n c) (hb:Below w.heap.size w w'):Bf w' ts A n c:=⟨h.len,h.cap,h.max,h.rd.below hb⟩
theorem Bf.at {w:World} {ts:List Ty} {A:Option Addr} {n c j:Nat} (k:Bf w ts A n c) (hj:j<n):∃b off,A=some ⟨b,off,none⟩∧b<w.heap.size∧∀X,Below w.heap.size w X→X.cell? ⟨b,off+j*3,none⟩=some (.bool (ts.getD j aI).truth)∧X.cell? ⟨b,off+j*3+1,none⟩=some (.int .i64 (ts.getD j aI).aH)∧X.cell? ⟨b,off+j*3+2,none⟩=some (.int .i64 (ts.getD j aI).days):=by
 have hx:j<ts.length:=by rw[←k.len];exact hj
 obtain⟨b,off,hA,hb,hc⟩:=Rd.row Ty.cells 3 (fun _=>rfl) (by omega) k.rd hx;have e:ts.getD j aI=ts[j]:=by rw[List.getD_eq_getElem?_getD,List.getElem?_eq_getElem hx];rfl
 rw[e];have hd:=fun X (hX:Below w.heap.size w X) i v hv=>(hX.cell (p:=⟨b,off+j*3+i,none⟩) hb).trans (hc i v hv)
 exact⟨b,off,hA,hb,fun X hX=>⟨hd X hX 0 _ rfl,hd X hX 1 _ rfl,hd X hX 2 _ rfl⟩⟩
theorem Oo {a0 d0:Bool} {a1 d1 a2 d2:Int} {w:World} {z:Bool} (h:decide ((⟨a0,a1,a2⟩:Ty)=⟨d0,d1,d2⟩)=z):(if a0=d0 then if a1=d1 then if a2=d2 then Result.ok (Next.value (Value.bool true)) w else Result.ok (Next.value (Value.bool false)) w else Result.ok (Next.value (Value.bool false)) w else Result.ok (Next.value (Value.bool false)) w)=Result.ok (Next.value (Value.bool z)) w:=by
 subst h;by_cases h0:a0=d0<;>by_cases h1:a1=d1<;>by_cases h2:a2=d2<;>simp[h0,h1,h2]
def jl (ts:List Ty):Bool:=ts.all fun t=> !t.truth
theorem kP (ts:List Ty) (A:Option Addr) (n c:Nat) (w:World) (h:Bf w ts A n c):Calls Tryz.prog 228 #[.slice A n c] w (Ae (jl ts) w):=by
 have hm:n≤9223372036854775807:=by have h1:=h.cap;have h2:=h.max;unfold maxLen at h2;omega
 have HN:=zH h.len;go_enter Tryz.func228,Tryz.ntmps228;go_wp2
 go_loopg [3] n (fun g iv X=>∃j:Nat,j+g=n∧iv=.int .i64 j∧Below w.heap.size w X∧Hid (jl (ts.drop j)=jl ts))
 case atStart=>exact⟨0,by omega,rfl,Below.refl _ _,rfl⟩
 case round=>
  obtain⟨j,hj,rfl,hb,HE⟩:=hrel;by_cases hlt:j<n
  ·obtain⟨b,off,rfl,_,hc⟩:=h.at hlt;have hc1:=hc _ hb;have hx:j<ts.length:=by rw[←HN.out];exact hlt
   have he:=HE.out;rw[List.drop_eq_getElem_cons hx] at he;unfold jl at he;rw[List.all_cons] at he;have e:ts.getD j aI=ts[j]:=by rw[List.getD_eq_getElem?_getD,List.getElem?_eq_getElem hx];rfl
   rw[e] at hc1;generalize (ts[j]).truth=q at he hc1;cases q
   ·replace HE:Hid (jl (ts.drop (j+1))=jl ts):=he;clear he hc e;go_wp2
    go_roundg (n-(j+1))
    case measure=>omega
    case rel=>exact⟨j+1,by omega,by go_num,hb,HE.out⟩
   ·replace HE:Hid (jl ts=false):=he.symm;clear he hc e;go_wp2;go_ret;exact⟨by rw[HE.out];rfl,hb⟩
  ·have HE:Hid (jl ts=true):=by have:=HE.out;rw[List.drop_eq_nil_of_le (by have:=HN.out;omega)] at this;exact this.symm
   go_wp2;go_ret;exact⟨by rw[HE.out];rfl,hb⟩
end Go.Proofs.YtgfeadgafdijaaaGreatDoor
