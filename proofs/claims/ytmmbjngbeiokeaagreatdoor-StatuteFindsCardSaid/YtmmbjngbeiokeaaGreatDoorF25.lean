/- A part of the proof: K8. -/
import Derived.Test.YtmmbjngbeiokeaaGreatDoorF01
import Derived.Test.YtmmbjngbeiokeaaGreatDoorF16
import Derived.Test.YtmmbjngbeiokeaaGreatDoorF24
set_option linter.unusedVariables false
set_option linter.unusedSimpArgs false
set_option maxRecDepth 100000
set_option maxHeartbeats 40000000
namespace Go.Proofs.YtmmbjngbeiokeaaGreatDoor
open Go.RowKit
def Keeps (lo:Nat) (w W:World):Prop:=w.heap.size≤W.heap.size∧∀b,lo≤b→b<w.heap.size→W.heap[b]?=w.heap[b]?
theorem Keeps.of {w W:World} (h:Below w.heap.size w W) (lo:Nat):Keeps lo w W:=⟨h.size,fun b _ hb=>h.block b hb⟩
theorem Keeps.trans {lo:Nat} {w W W':World} (h:Keeps lo w W) (h':Keeps lo W W'):Keeps lo w W':=
 ⟨Nat.le_trans h.1 h'.1,fun b h1 h2=>(h'.2 b h1 (Nat.lt_of_lt_of_le h2 h.1)).trans (h.2 b h1 h2)⟩
theorem Keeps.blk {lo b:Nat} {w W:World} {t:TypeId} {cs:List Value} (h:Keeps lo w W) (hb:Blk w b t cs) (hl:lo≤b):Blk W b t cs:=(h.2 b hl hb.lt).trans hb
theorem Keeps.cell {lo b:Nat} {w W:World} (h:Keeps lo w W) (hl:lo≤b) (hb:b<w.heap.size) (j:Nat):W.cell? ⟨b,j,none⟩=w.cell? ⟨b,j,none⟩:=World.cell?_of_block (h.2 b hl hb)
def RuleV (lo:Nat) (w:World) (k:Int) (f:Value):Prop:=∃g lb,f=.func (.func g) #[] lb∧(∀args w,(callFunc g args).run Tryz.prog w=.ok (.enter g args) w)∧
 ∀(own:Ty) (l:List Ty) (A:Option Addr) (n c:Nat) (W:World),Keeps lo w W→LaidK W→n=l.length→n≤c→n≤maxLen→Rd W A (tys l)→(∀t∈l,rightB t=true)→l.length=(shp k).ops→
  Calls Tryz.prog g (#[own.v,.slice A n c]++lb) W fun e w'=>e=.returned (.tuple #[(ruleT k own l).1.v,.bool (ruleT k own l).2])∧Below W.heap.size W w'
theorem RuleV.keeps {lo:Nat} {w w':World} {k:Int} {f:Value} (h:RuleV lo w k f) (hb:Keeps lo w w'):RuleV lo w' k f:=by
 obtain⟨g,lb,rfl,hg,hc⟩:=h;exact⟨g,lb,rfl,hg,fun own l A n c W hW=>hc own l A n c W (hb.trans hW)⟩
def RV (lo:Nat) (k:Int) (v:Value) (w:World):Prop:=∃f,v=.agg #[.bool (sigB k),f]∧RuleV lo w k f
theorem len1 {l:List Ty} (h:l.length=1):∃a,l=[a]:=List.length_eq_one_iff.1 h
theorem len2 {l:List Ty} (h:l.length=2):∃a b,l=[a,b]:=match l,h with|[a,b],_=>⟨a,b,rfl⟩
theorem len3 {l:List Ty} (h:l.length=3):∃a b c,l=[a,b,c]:=match l,h with|[a,b,c],_=>⟨a,b,c,rfl⟩
theorem rv1 (lo:Nat) (w:World) (b:Nat) (h:Blk w b 35 tCash.cells) (hlo:lo≤b):RuleV lo w 1 (.func (.func 223) #[] #[.pointer (some ⟨b,0,none⟩)]):=by
 refine⟨223,_,rfl,enters_of Tryz.func223 (by kernel_rfl) rfl,fun own l A n c W hW hLW hn hc hm hr hg hl=>?_⟩;exact kAlways1_any tCash own _ b W (hW.blk h hlo)
theorem rv2 (lo:Nat) (w:World) (b:Nat) (h:Blk w b 35 tDays.cells) (hlo:lo≤b):RuleV lo w 2 (.func (.func 223) #[] #[.pointer (some ⟨b,0,none⟩)]):=by
 refine⟨223,_,rfl,enters_of Tryz.func223 (by kernel_rfl) rfl,fun own l A n c W hW hLW hn hc hm hr hg hl=>?_⟩;exact kAlways1_any tDays own _ b W (hW.blk h hlo)
theorem rv3 (lo:Nat) (w:World) (b:Nat) (h:Blk w b 35 tPlain.cells) (hlo:lo≤b):RuleV lo w 3 (.func (.func 223) #[] #[.pointer (some ⟨b,0,none⟩)]):=by
 refine⟨223,_,rfl,enters_of Tryz.func223 (by kernel_rfl) rfl,fun own l A n c W hW hLW hn hc hm hr hg hl=>?_⟩;exact kAlways1_any tPlain own _ b W (hW.blk h hlo)
theorem rv4 (lo:Nat) (w:World) (b:Nat) (h:Blk w b 35 tTruth.cells) (hlo:lo≤b):RuleV lo w 4 (.func (.func 223) #[] #[.pointer (some ⟨b,0,none⟩)]):=by
 refine⟨223,_,rfl,enters_of Tryz.func223 (by kernel_rfl) rfl,fun own l A n c W hW hLW hn hc hm hr hg hl=>?_⟩;exact kAlways1_any tTruth own _ b W (hW.blk h hlo)
theorem rv5 (lo:Nat) (w:World) (k:Int) (h:k=5∨k=6∨k=7∨k=8):RuleV lo w k (.func (.func 224) #[] #[]):=by
 refine⟨224,_,rfl,enters_of Tryz.func224 (by kernel_rfl) rfl,fun own l A n c W hW hLW hn hc hm hr hg hl=>?_⟩;have e:ruleT k own l=(own,true):=by rcases h with rfl|rfl|rfl|rfl<;>rfl
 rw[e];exact kNamed1_any own _ W
theorem rv9 (lo:Nat) (w:World) (k:Int) (b:Nat) (h:k=9∨k=10∨k=13∨k=14) (hb:Blk w b 264 [.func (.func 181) #[] #[]]) (hlo:lo≤b):RuleV lo w k (.func (.func 225) #[] #[.pointer (some ⟨b,0,none⟩)]):=by
 refine⟨225,_,rfl,enters_of Tryz.func225 (by kernel_rfl) rfl,fun own l A n c W hW hLW hn hc hm hr hg hl=>?_⟩;obtain⟨x,y,rfl⟩:=len2 (hl.trans (by rcases h with rfl|rfl|rfl|rfl<;>rfl));have e:ruleT k own [x,y]=(x,decide (x=y)&& !x.truth):=by rcases h with rfl|rfl|rfl|rfl<;>rfl
 obtain rfl:n=2:=hn;rw[e];exact kAlikeI_any own x y A c b W hr hc (hW.blk hb hlo)
theorem rv11 (lo:Nat) (w:World) (b:Nat) (hb:Blk w b 3 [.int .i64 1]) (hlo:lo≤b):RuleV lo w 11 (.func (.func 226) #[] #[.pointer (some ⟨b,0,none⟩)]):=by
 refine⟨226,_,rfl,enters_of Tryz.func226 (by kernel_rfl) rfl,fun own l A n c W hW hLW hn hc hm hr hg hl=>?_⟩;obtain⟨x,y,rfl⟩:=len2 hl;obtain rfl:n=2:=hn
 have e:ruleT 11 own [x,y]=(prodT 1 x y, !x.truth&&(!y.truth&&unitB (prodT 1 x y).money (prodT 1 x y).days)):=by
  show ((⟨false,x.money+y.money,x.days+y.days⟩:Ty),_)=_
  have e1:prodT 1 x y=⟨false,x.money+y.money,x.days+y.days⟩:=by
   unfold prodT;simp only[Ty.mk.injEq,true_and];constructor<;>omega
  rw[e1];rfl
 rw[e];exact kProd_any own x y 1 A c b W (by omega) (hg x (by simp)) (hg y (by simp)) hr hc (hW.blk hb hlo)
theorem rv12 (lo:Nat) (w:World) (b:Nat) (hb:Blk w b 3 [.int .i64 (-1)]) (hlo:lo≤b):RuleV lo w 12 (.func (.func 226) #[] #[.pointer (some ⟨b,0,none⟩)]):=by
 refine⟨226,_,rfl,enters_of Tryz.func226 (by kernel_rfl) rfl,fun own l A n c W hW hLW hn hc hm hr hg hl=>?_⟩;obtain⟨x,y,rfl⟩:=len2 hl;obtain rfl:n=2:=hn
 have e:ruleT 12 own [x,y]=(prodT (-1) x y, !x.truth&&(!y.truth&&unitB (prodT (-1) x y).money (prodT (-1) x y).days)):=by
  show ((⟨false,x.money-y.money,x.days-y.days⟩:Ty),_)=_
  have e1:prodT (-1) x y=⟨false,x.money-y.money,x.days-y.days⟩:=by
   unfold prodT;simp only[Ty.mk.injEq,true_and];constructor<;>omega
  rw[e1];rfl
 rw[e];exact kProd_any own x y (-1) A c b W (by omega) (hg x (by simp)) (hg y (by simp)) hr hc (hW.blk hb hlo)
theorem rv15 (lo:Nat) (w:World):RuleV lo w 15 (.func (.func 183) #[] #[]):=by
 refine⟨183,_,rfl,enters_of Tryz.func183 (by kernel_rfl) rfl,fun own l A n c W hW hLW hn hc hm hr hg hl=>?_⟩;obtain⟨x,y,z,rfl⟩:=len3 hl;obtain rfl:n=3:=hn;exact kIf_any own x y z A c W hLW hr hc
theorem rv16 (lo:Nat) (w:World) (b:Nat) (hb:Blk w b 264 [.func (.func 184) #[] #[]]) (hlo:lo≤b):RuleV lo w 16 (.func (.func 225) #[] #[.pointer (some ⟨b,0,none⟩)]):=by
 refine⟨225,_,rfl,enters_of Tryz.func225 (by kernel_rfl) rfl,fun own l A n c W hW hLW hn hc hm hr hg hl=>?_⟩;obtain⟨x,y,rfl⟩:=len2 hl;obtain rfl:n=2:=hn;exact kAlikeD_any own x y A c b W hLW hr hc (hW.blk hb hlo)
theorem rv17 (lo:Nat) (w:World):RuleV lo w 17 (.func (.func 185) #[] #[]):=by
 refine⟨185,_,rfl,enters_of Tryz.func185 (by kernel_rfl) rfl,fun own l A n c W hW hLW hn hc hm hr hg hl=>?_⟩;obtain⟨x,y,rfl⟩:=len2 hl;obtain rfl:n=2:=hn;exact kEqual_any own x y A c W hLW hr hc
theorem rv18 (lo:Nat) (w:World) (k:Int) (h:k=18∨k=19∨k=20):RuleV lo w k (.func (.func 227) #[] #[]):=by
 refine⟨227,_,rfl,enters_of Tryz.func227 (by kernel_rfl) rfl,fun own l A n c W hW hLW hn hc hm hr hg hl=>?_⟩;have e:ruleT k own l=(tTruth,l.all fun t=>decide (t=tTruth)):=by rcases h with rfl|rfl|rfl<;>rfl
 rw[e];exact kTruths1_any own l A n c W hLW hn hm hr
theorem rv21 (lo:Nat) (w:World) (k:Int) (h:k=21∨k=22∨k=23):RuleV lo w k (.func (.func 228) #[] #[]):=by
 refine⟨228,_,rfl,enters_of Tryz.func228 (by kernel_rfl) rfl,fun own l A n c W hW hLW hn hc hm hr hg hl=>?_⟩;obtain⟨x,rfl⟩:=len1 (hl.trans (by rcases h with rfl|rfl|rfl<;>rfl));have e:ruleT k own [x]=(x, !x.truth):=by rcases h with rfl|rfl|rfl<;>rfl
 obtain rfl:n=1:=hn;rw[e];exact kRounded1_any own x A c W hr hc
theorem rv24 (lo:Nat) (w:World):RuleV lo w 24 (.func (.func 188) #[] #[]):=by
 refine⟨188,_,rfl,enters_of Tryz.func188 (by kernel_rfl) rfl,fun own l A n c W hW hLW hn hc hm hr hg hl=>?_⟩;obtain⟨x,rfl⟩:=len1 hl;obtain rfl:n=1:=hn;exact kRate1_any own x A c W hr hc
def RulesAt (lo:Nat) (w:World) (b:Nat):Prop:=lo≤b∧b<w.heap.size∧∀k:Nat,1≤k→k≤24→∃f,w.cell? ⟨b,2*k,none⟩=some (.bool (sigB k))∧w.cell? ⟨b,2*k+1,none⟩=some f∧RuleV lo w k f
theorem RulesAt.keeps {lo:Nat} {w w':World} {b:Nat} (h:RulesAt lo w b) (hb:Keeps lo w w'):RulesAt lo w' b:=
 ⟨h.1,Nat.lt_of_lt_of_le h.2.1 hb.1,fun k h1 h2=>by
   obtain⟨f,c0,c1,hv⟩:=h.2.2 k h1 h2;exact⟨f,(hb.cell h.1 h.2.1 _).trans c0,(hb.cell h.1 h.2.1 _).trans c1,hv.keeps hb⟩⟩
def ruleR (lo i:Nat) (v:Value) (w:World):Prop:=match i with
 |0=>v=tCash.v
 |1=>RV lo 1 v w
 |2=>v=tDays.v
 |3=>RV lo 2 v w
 |4=>v=tPlain.v
 |5=>RV lo 3 v w
 |6=>v=tTruth.v
 |7=>RV lo 4 v w
 |8=>RV lo 5 v w
 |9=>RV lo 6 v w
 |10=>RV lo 7 v w
 |11=>RV lo 8 v w
 |12=>RV lo 9 v w
 |13=>RV lo 10 v w
 |14=>RV lo 13 v w
 |15=>RV lo 14 v w
 |16=>RV lo 11 v w
 |17=>RV lo 12 v w
 |18=>RV lo 15 v w
 |19=>RV lo 16 v w
 |20=>RV lo 17 v w
 |21=>RV lo 18 v w
 |22=>RV lo 19 v w
 |23=>RV lo 20 v w
 |24=>RV lo 21 v w
 |25=>RV lo 22 v w
 |26=>RV lo 23 v w
 |27=>RV lo 24 v w
 |_=>∃b,v=.slice (some ⟨b,0,none⟩) 25 25∧RulesAt lo w b
theorem ruleR_mono (lo i:Nat) (v:Value) (w w':World) (h:ruleR lo i v w) (hb:Below w.heap.size w w'):ruleR lo i v w':=by
 have hV:∀k,RV lo k v w→RV lo k v w':=fun k ⟨f,e,hf⟩=>⟨f,e,hf.keeps (Keeps.of hb lo)⟩
 have hS:(∃b,v=.slice (some ⟨b,0,none⟩) 25 25∧RulesAt lo w b)→∃b,v=.slice (some ⟨b,0,none⟩) 25 25∧RulesAt lo w' b:=fun⟨b,e,hr⟩=>⟨b,e,hr.keeps (Keeps.of hb lo)⟩
 unfold ruleR at h⊢;split at h<;>first|exact h|exact hV _ h|exact hS h
theorem kRules_any (w:World) (hL:LaidK w):Calls Tryz.prog 146 #[] w fun e w'=>(∃b,e=.returned (.slice (some ⟨b,0,none⟩) 25 25)∧RulesAt w.heap.size w' b)∧Below w.heap.size w w':=by
 have HL:=zH hL;clear hL;go_enter Tryz.func146,Tryz.ntmps146
 go_upto_region 1 with fail
 refine region_each (n:=30) (by kernel_rfl) (by kernel_rfl) rfl (ruleR w.heap.size) (ruleR_mono _) ?_ ?_
 ·intro i o ho a1 W hb hdep;have HLW:=zH (HL.out.below hb);have HSW:Hid (w.heap.size≤W.heap.size):=hb.size;clear hb
  match i,ho with
  |0,ho=>
   injection ho with ho;subst ho;refine wpOp_step rfl (fun K hK=>?_);rw[if_pos (by rfl)];have HK:=zH hK;clear hK;have g0:=HLW.out.cash 0 _ rfl;have g1:=HLW.out.cash 1 _ rfl;have g2:=HLW.out.cash 2 _ rfl;unfold tCash at g0 g1 g2;simp only at g0 g1 g2;clear hdep;go_simp;exact HK.out _ _ ⟨_,rfl,rfl,Below.refl _ _⟩
  |1,ho=>
   injection ho with ho;subst ho;refine wpOp_step rfl (fun K hK=>?_);rw[if_pos (by rfl)];have HK:=zH hK;clear hK;have h:(a1.tmps[1]?).getD undef=tCash.v:=hdep ⟨0,.data⟩ (by simp) rfl;clear hdep;go_simp
   go_at_call 178
   refine (kAlways_any tCash W).mono ?_;rintro e w' ⟨b,rfl,hb,hlo,hbw⟩;exact HK.out _ _ ⟨_,rfl,⟨_,rfl,rv1 _ _ b hb (Nat.le_trans HSW.out hlo)⟩,hbw⟩
  |2,ho=>
   injection ho with ho;subst ho;refine wpOp_step rfl (fun K hK=>?_);rw[if_pos (by rfl)];have HK:=zH hK;clear hK;have g0:=HLW.out.days 0 _ rfl;have g1:=HLW.out.days 1 _ rfl;have g2:=HLW.out.days 2 _ rfl;unfold tDays at g0 g1 g2;simp only at g0 g1 g2;clear hdep;go_simp;exact HK.out _ _ ⟨_,rfl,rfl,Below.refl _ _⟩
  |3,ho=>
   injection ho with ho;subst ho;refine wpOp_step rfl (fun K hK=>?_);rw[if_pos (by rfl)];have HK:=zH hK;clear hK;have h:(a1.tmps[3]?).getD undef=tDays.v:=hdep ⟨2,.data⟩ (by simp) rfl;clear hdep;go_simp
   go_at_call 178
   refine (kAlways_any tDays W).mono ?_;rintro e w' ⟨b,rfl,hb,hlo,hbw⟩;exact HK.out _ _ ⟨_,rfl,⟨_,rfl,rv2 _ _ b hb (Nat.le_trans HSW.out hlo)⟩,hbw⟩
  |4,ho=>
   injection ho with ho;subst ho;refine wpOp_step rfl (fun K hK=>?_);rw[if_pos (by rfl)];have HK:=zH hK;clear hK;have g0:=HLW.out.plain 0 _ rfl;have g1:=HLW.out.plain 1 _ rfl;have g2:=HLW.out.plain 2 _ rfl;unfold tPlain at g0 g1 g2;simp only at g0 g1 g2;clear hdep;go_simp;exact HK.out _ _ ⟨_,rfl,rfl,Below.refl _ _⟩
  |5,ho=>
   injection ho with ho;subst ho;refine wpOp_step rfl (fun K hK=>?_);rw[if_pos (by rfl)];have HK:=zH hK;clear hK;have h:(a1.tmps[5]?).getD undef=tPlain.v:=hdep ⟨4,.data⟩ (by simp) rfl;clear hdep;go_simp
   go_at_call 178
   refine (kAlways_any tPlain W).mono ?_;rintro e w' ⟨b,rfl,hb,hlo,hbw⟩;exact HK.out _ _ ⟨_,rfl,⟨_,rfl,rv3 _ _ b hb (Nat.le_trans HSW.out hlo)⟩,hbw⟩
  |6,ho=>
   injection ho with ho;subst ho;refine wpOp_step rfl (fun K hK=>?_);rw[if_pos (by rfl)];have HK:=zH hK;clear hK;have g0:=HLW.out.truth 0 _ rfl;have g1:=HLW.out.truth 1 _ rfl;have g2:=HLW.out.truth 2 _ rfl;unfold tTruth at g0 g1 g2;simp only at g0 g1 g2;clear hdep;go_simp;exact HK.out _ _ ⟨_,rfl,rfl,Below.refl _ _⟩
  |7,ho=>
   injection ho with ho;subst ho;refine wpOp_step rfl (fun K hK=>?_);rw[if_pos (by rfl)];have HK:=zH hK;clear hK;have h:(a1.tmps[7]?).getD undef=tTruth.v:=hdep ⟨6,.data⟩ (by simp) rfl;clear hdep;go_simp
   go_at_call 178
   refine (kAlways_any tTruth W).mono ?_;rintro e w' ⟨b,rfl,hb,hlo,hbw⟩;exact HK.out _ _ ⟨_,rfl,⟨_,rfl,rv4 _ _ b hb (Nat.le_trans HSW.out hlo)⟩,hbw⟩
  |8,ho=>
   injection ho with ho;subst ho;refine wpOp_step rfl (fun K hK=>?_);rw[if_pos (by rfl)];have HK:=zH hK;clear hK;clear hdep;go_simp
   go_at_call 179
   refine (kNamed_any W).mono ?_;rintro e w' ⟨rfl,hbw⟩;exact HK.out _ _ ⟨_,rfl,⟨_,rfl,rv5 _ _ _ (by omega)⟩,hbw⟩
  |9,ho=>
   injection ho with ho;subst ho;refine wpOp_step rfl (fun K hK=>?_);rw[if_pos (by rfl)];have HK:=zH hK;clear hK;clear hdep;go_simp
   go_at_call 179
   refine (kNamed_any W).mono ?_;rintro e w' ⟨rfl,hbw⟩;exact HK.out _ _ ⟨_,rfl,⟨_,rfl,rv5 _ _ _ (by omega)⟩,hbw⟩
  |10,ho=>
   injection ho with ho;subst ho;refine wpOp_step rfl (fun K hK=>?_);rw[if_pos (by rfl)];have HK:=zH hK;clear hK;clear hdep;go_simp
   go_at_call 179
   refine (kNamed_any W).mono ?_;rintro e w' ⟨rfl,hbw⟩;exact HK.out _ _ ⟨_,rfl,⟨_,rfl,rv5 _ _ _ (by omega)⟩,hbw⟩
  |11,ho=>
   injection ho with ho;subst ho;refine wpOp_step rfl (fun K hK=>?_);rw[if_pos (by rfl)];have HK:=zH hK;clear hK;clear hdep;go_simp
   go_at_call 179
   refine (kNamed_any W).mono ?_;rintro e w' ⟨rfl,hbw⟩;exact HK.out _ _ ⟨_,rfl,⟨_,rfl,rv5 _ _ _ (by omega)⟩,hbw⟩
  |12,ho=>
   injection ho with ho;subst ho;refine wpOp_step rfl (fun K hK=>?_);rw[if_pos (by rfl)];have HK:=zH hK;clear hK;clear hdep;go_simp
   go_at_call 180
   refine (kAlike_any _ W).mono ?_;rintro e w' ⟨b,rfl,hb,hlo,hbw⟩;exact HK.out _ _ ⟨_,rfl,⟨_,rfl,rv9 _ _ _ b (by omega) hb (Nat.le_trans HSW.out hlo)⟩,hbw⟩
  |13,ho=>
   injection ho with ho;subst ho;refine wpOp_step rfl (fun K hK=>?_);rw[if_pos (by rfl)];have HK:=zH hK;clear hK;clear hdep;go_simp
   go_at_call 180
   refine (kAlike_any _ W).mono ?_;rintro e w' ⟨b,rfl,hb,hlo,hbw⟩;exact HK.out _ _ ⟨_,rfl,⟨_,rfl,rv9 _ _ _ b (by omega) hb (Nat.le_trans HSW.out hlo)⟩,hbw⟩
  |14,ho=>
   injection ho with ho;subst ho;refine wpOp_step rfl (fun K hK=>?_);rw[if_pos (by rfl)];have HK:=zH hK;clear hK;clear hdep;go_simp
   go_at_call 180
   refine (kAlike_any _ W).mono ?_;rintro e w' ⟨b,rfl,hb,hlo,hbw⟩;exact HK.out _ _ ⟨_,rfl,⟨_,rfl,rv9 _ _ _ b (by omega) hb (Nat.le_trans HSW.out hlo)⟩,hbw⟩
  |15,ho=>
   injection ho with ho;subst ho;refine wpOp_step rfl (fun K hK=>?_);rw[if_pos (by rfl)];have HK:=zH hK;clear hK;clear hdep;go_simp
   go_at_call 180
   refine (kAlike_any _ W).mono ?_;rintro e w' ⟨b,rfl,hb,hlo,hbw⟩;exact HK.out _ _ ⟨_,rfl,⟨_,rfl,rv9 _ _ _ b (by omega) hb (Nat.le_trans HSW.out hlo)⟩,hbw⟩
  |16,ho=>
   injection ho with ho;subst ho;refine wpOp_step rfl (fun K hK=>?_);rw[if_pos (by rfl)];have HK:=zH hK;clear hK;clear hdep;go_simp
   go_at_call 182
   refine (kProduct_any _ W).mono ?_;rintro e w' ⟨b,rfl,hb,hlo,hbw⟩;exact HK.out _ _ ⟨_,rfl,⟨_,rfl,rv11 _ _ b hb (Nat.le_trans HSW.out hlo)⟩,hbw⟩
  |17,ho=>
   injection ho with ho;subst ho;refine wpOp_step rfl (fun K hK=>?_);rw[if_pos (by rfl)];have HK:=zH hK;clear hK;clear hdep;go_simp
   go_at_call 182
   refine (kProduct_any _ W).mono ?_;rintro e w' ⟨b,rfl,hb,hlo,hbw⟩;exact HK.out _ _ ⟨_,rfl,⟨_,rfl,rv12 _ _ b hb (Nat.le_trans HSW.out hlo)⟩,hbw⟩
  |18,ho=>
   injection ho with ho;subst ho;refine wpOp_step rfl (fun K hK=>?_);rw[if_pos (by rfl)];have HK:=zH hK;clear hK;clear hdep;go_simp;exact HK.out _ _ ⟨_,rfl,⟨_,rfl,rv15 _ _⟩,Below.refl _ _⟩
  |19,ho=>
   injection ho with ho;subst ho;refine wpOp_step rfl (fun K hK=>?_);rw[if_pos (by rfl)];have HK:=zH hK;clear hK;clear hdep;go_simp
   go_at_call 180
   refine (kAlike_any _ W).mono ?_;rintro e w' ⟨b,rfl,hb,hlo,hbw⟩;exact HK.out _ _ ⟨_,rfl,⟨_,rfl,rv16 _ _ b hb (Nat.le_trans HSW.out hlo)⟩,hbw⟩
  |20,ho=>
   injection ho with ho;subst ho;refine wpOp_step rfl (fun K hK=>?_);rw[if_pos (by rfl)];have HK:=zH hK;clear hK;clear hdep;go_simp;exact HK.out _ _ ⟨_,rfl,⟨_,rfl,rv17 _ _⟩,Below.refl _ _⟩
  |21,ho=>
   injection ho with ho;subst ho;refine wpOp_step rfl (fun K hK=>?_);rw[if_pos (by rfl)];have HK:=zH hK;clear hK;clear hdep;go_simp
   go_at_call 186
   refine (kTruths_any W).mono ?_;rintro e w' ⟨rfl,hbw⟩;exact HK.out _ _ ⟨_,rfl,⟨_,rfl,rv18 _ _ _ (by omega)⟩,hbw⟩
  |22,ho=>
   injection ho with ho;subst ho;refine wpOp_step rfl (fun K hK=>?_);rw[if_pos (by rfl)];have HK:=zH hK;clear hK;clear hdep;go_simp
   go_at_call 186
   refine (kTruths_any W).mono ?_;rintro e w' ⟨rfl,hbw⟩;exact HK.out _ _ ⟨_,rfl,⟨_,rfl,rv18 _ _ _ (by omega)⟩,hbw⟩
  |23,ho=>
   injection ho with ho;subst ho;refine wpOp_step rfl (fun K hK=>?_);rw[if_pos (by rfl)];have HK:=zH hK;clear hK;clear hdep;go_simp
   go_at_call 186
   refine (kTruths_any W).mono ?_;rintro e w' ⟨rfl,hbw⟩;exact HK.out _ _ ⟨_,rfl,⟨_,rfl,rv18 _ _ _ (by omega)⟩,hbw⟩
  |24,ho=>
   injection ho with ho;subst ho;refine wpOp_step rfl (fun K hK=>?_);rw[if_pos (by rfl)];have HK:=zH hK;clear hK;clear hdep;go_simp
   go_at_call 187
   refine (kRounded_any W).mono ?_;rintro e w' ⟨rfl,hbw⟩;exact HK.out _ _ ⟨_,rfl,⟨_,rfl,rv21 _ _ _ (by omega)⟩,hbw⟩
  |25,ho=>
   injection ho with ho;subst ho;refine wpOp_step rfl (fun K hK=>?_);rw[if_pos (by rfl)];have HK:=zH hK;clear hK;clear hdep;go_simp
   go_at_call 187
   refine (kRounded_any W).mono ?_;rintro e w' ⟨rfl,hbw⟩;exact HK.out _ _ ⟨_,rfl,⟨_,rfl,rv21 _ _ _ (by omega)⟩,hbw⟩
  |26,ho=>
   injection ho with ho;subst ho;refine wpOp_step rfl (fun K hK=>?_);rw[if_pos (by rfl)];have HK:=zH hK;clear hK;clear hdep;go_simp
   go_at_call 187
   refine (kRounded_any W).mono ?_;rintro e w' ⟨rfl,hbw⟩;exact HK.out _ _ ⟨_,rfl,⟨_,rfl,rv21 _ _ _ (by omega)⟩,hbw⟩
  |27,ho=>
   injection ho with ho;subst ho;refine wpOp_step rfl (fun K hK=>?_);rw[if_pos (by rfl)];have HK:=zH hK;clear hK;clear hdep;go_simp;exact HK.out _ _ ⟨_,rfl,⟨_,rfl,rv24 _ _⟩,Below.refl _ _⟩
  |28,ho=>
   injection ho with ho;subst ho;refine wpOp_step rfl (fun K hK=>?_);rw[if_pos (by rfl)];have HK:=zH hK;clear hK;obtain⟨f1,h1,r1⟩:RV w.heap.size 1 ((a1.tmps[2]?).getD undef) W:=hdep ⟨1,.data⟩ (by simp) rfl;obtain⟨f2,h2,r2⟩:RV w.heap.size 2 ((a1.tmps[4]?).getD undef) W:=hdep ⟨3,.data⟩ (by simp) rfl;obtain⟨f3,h3,r3⟩:RV w.heap.size 3 ((a1.tmps[6]?).getD undef) W:=hdep ⟨5,.data⟩ (by simp) rfl;obtain⟨f4,h4,r4⟩:RV w.heap.size 4 ((a1.tmps[8]?).getD undef) W:=hdep ⟨7,.data⟩ (by simp) rfl;obtain⟨f5,h5,r5⟩:RV w.heap.size 5 ((a1.tmps[9]?).getD undef) W:=hdep ⟨8,.data⟩ (by simp) rfl;obtain⟨f6,h6,r6⟩:RV w.heap.size 6 ((a1.tmps[10]?).getD undef) W:=hdep ⟨9,.data⟩ (by simp) rfl;obtain⟨f7,h7,r7⟩:RV w.heap.size 7 ((a1.tmps[11]?).getD undef) W:=hdep ⟨10,.data⟩ (by simp) rfl;obtain⟨f8,h8,r8⟩:RV w.heap.size 8 ((a1.tmps[12]?).getD undef) W:=hdep ⟨11,.data⟩ (by simp) rfl;obtain⟨f9,h9,r9⟩:RV w.heap.size 9 ((a1.tmps[13]?).getD undef) W:=hdep ⟨12,.data⟩ (by simp) rfl;obtain⟨f10,h10,r10⟩:RV w.heap.size 10 ((a1.tmps[14]?).getD undef) W:=hdep ⟨13,.data⟩ (by simp) rfl;obtain⟨f13,h13,r13⟩:RV w.heap.size 13 ((a1.tmps[15]?).getD undef) W:=hdep ⟨14,.data⟩ (by simp) rfl;obtain⟨f14,h14,r14⟩:RV w.heap.size 14 ((a1.tmps[16]?).getD undef) W:=hdep ⟨15,.data⟩ (by simp) rfl;obtain⟨f11,h11,r11⟩:RV w.heap.size 11 ((a1.tmps[17]?).getD undef) W:=hdep ⟨16,.data⟩ (by simp) rfl;obtain⟨f12,h12,r12⟩:RV w.heap.size 12 ((a1.tmps[18]?).getD undef) W:=hdep ⟨17,.data⟩ (by simp) rfl;obtain⟨f15,h15,r15⟩:RV w.heap.size 15 ((a1.tmps[19]?).getD undef) W:=hdep ⟨18,.data⟩ (by simp) rfl;obtain⟨f16,h16,r16⟩:RV w.heap.size 16 ((a1.tmps[20]?).getD undef) W:=hdep ⟨19,.data⟩ (by simp) rfl;obtain⟨f17,h17,r17⟩:RV w.heap.size 17 ((a1.tmps[21]?).getD undef) W:=hdep ⟨20,.data⟩ (by simp) rfl;obtain⟨f18,h18,r18⟩:RV w.heap.size 18 ((a1.tmps[22]?).getD undef) W:=hdep ⟨21,.data⟩ (by simp) rfl;obtain⟨f19,h19,r19⟩:RV w.heap.size 19 ((a1.tmps[23]?).getD undef) W:=hdep ⟨22,.data⟩ (by simp) rfl;obtain⟨f20,h20,r20⟩:RV w.heap.size 20 ((a1.tmps[24]?).getD undef) W:=hdep ⟨23,.data⟩ (by simp) rfl;obtain⟨f21,h21,r21⟩:RV w.heap.size 21 ((a1.tmps[25]?).getD undef) W:=hdep ⟨24,.data⟩ (by simp) rfl;obtain⟨f22,h22,r22⟩:RV w.heap.size 22 ((a1.tmps[26]?).getD undef) W:=hdep ⟨25,.data⟩ (by simp) rfl;obtain⟨f23,h23,r23⟩:RV w.heap.size 23 ((a1.tmps[27]?).getD undef) W:=hdep ⟨26,.data⟩ (by simp) rfl;obtain⟨f24,h24,r24⟩:RV w.heap.size 24 ((a1.tmps[28]?).getD undef) W:=hdep ⟨27,.data⟩ (by simp) rfl;clear hdep;go_simp;have hbe:=fun o=>(Below.refl W.heap.size W).alloc (Nat.le_refl _) o
   refine HK.out _ _ ⟨_,rfl,⟨_,rfl,HSW.out,by rw[World.size_alloc];omega,fun k h1 h2=>?_⟩,hbe _⟩
   match k,h1,h2 with
   |0,h1,_=>omega
   |1,_,_=>exact⟨f1,(Blk.new W _ _).cells 2,(Blk.new W _ _).cells 3,r1.keeps (Keeps.of (hbe _) _)⟩
   |2,_,_=>exact⟨f2,(Blk.new W _ _).cells 4,(Blk.new W _ _).cells 5,r2.keeps (Keeps.of (hbe _) _)⟩
   |3,_,_=>exact⟨f3,(Blk.new W _ _).cells 6,(Blk.new W _ _).cells 7,r3.keeps (Keeps.of (hbe _) _)⟩
   |4,_,_=>exact⟨f4,(Blk.new W _ _).cells 8,(Blk.new W _ _).cells 9,r4.keeps (Keeps.of (hbe _) _)⟩
   |5,_,_=>exact⟨f5,(Blk.new W _ _).cells 10,(Blk.new W _ _).cells 11,r5.keeps (Keeps.of (hbe _) _)⟩
   |6,_,_=>exact⟨f6,(Blk.new W _ _).cells 12,(Blk.new W _ _).cells 13,r6.keeps (Keeps.of (hbe _) _)⟩
   |7,_,_=>exact⟨f7,(Blk.new W _ _).cells 14,(Blk.new W _ _).cells 15,r7.keeps (Keeps.of (hbe _) _)⟩
   |8,_,_=>exact⟨f8,(Blk.new W _ _).cells 16,(Blk.new W _ _).cells 17,r8.keeps (Keeps.of (hbe _) _)⟩
   |9,_,_=>exact⟨f9,(Blk.new W _ _).cells 18,(Blk.new W _ _).cells 19,r9.keeps (Keeps.of (hbe _) _)⟩
   |10,_,_=>exact⟨f10,(Blk.new W _ _).cells 20,(Blk.new W _ _).cells 21,r10.keeps (Keeps.of (hbe _) _)⟩
   |11,_,_=>exact⟨f11,(Blk.new W _ _).cells 22,(Blk.new W _ _).cells 23,r11.keeps (Keeps.of (hbe _) _)⟩
   |12,_,_=>exact⟨f12,(Blk.new W _ _).cells 24,(Blk.new W _ _).cells 25,r12.keeps (Keeps.of (hbe _) _)⟩
   |13,_,_=>exact⟨f13,(Blk.new W _ _).cells 26,(Blk.new W _ _).cells 27,r13.keeps (Keeps.of (hbe _) _)⟩
   |14,_,_=>exact⟨f14,(Blk.new W _ _).cells 28,(Blk.new W _ _).cells 29,r14.keeps (Keeps.of (hbe _) _)⟩
   |15,_,_=>exact⟨f15,(Blk.new W _ _).cells 30,(Blk.new W _ _).cells 31,r15.keeps (Keeps.of (hbe _) _)⟩
   |16,_,_=>exact⟨f16,(Blk.new W _ _).cells 32,(Blk.new W _ _).cells 33,r16.keeps (Keeps.of (hbe _) _)⟩
   |17,_,_=>exact⟨f17,(Blk.new W _ _).cells 34,(Blk.new W _ _).cells 35,r17.keeps (Keeps.of (hbe _) _)⟩
   |18,_,_=>exact⟨f18,(Blk.new W _ _).cells 36,(Blk.new W _ _).cells 37,r18.keeps (Keeps.of (hbe _) _)⟩
   |19,_,_=>exact⟨f19,(Blk.new W _ _).cells 38,(Blk.new W _ _).cells 39,r19.keeps (Keeps.of (hbe _) _)⟩
   |20,_,_=>exact⟨f20,(Blk.new W _ _).cells 40,(Blk.new W _ _).cells 41,r20.keeps (Keeps.of (hbe _) _)⟩
   |21,_,_=>exact⟨f21,(Blk.new W _ _).cells 42,(Blk.new W _ _).cells 43,r21.keeps (Keeps.of (hbe _) _)⟩
   |22,_,_=>exact⟨f22,(Blk.new W _ _).cells 44,(Blk.new W _ _).cells 45,r22.keeps (Keeps.of (hbe _) _)⟩
   |23,_,_=>exact⟨f23,(Blk.new W _ _).cells 46,(Blk.new W _ _).cells 47,r23.keeps (Keeps.of (hbe _) _)⟩
   |24,_,_=>exact⟨f24,(Blk.new W _ _).cells 48,(Blk.new W _ _).cells 49,r24.keeps (Keeps.of (hbe _) _)⟩
   |k+25,_,h2=>omega
  |29,ho=>
   injection ho with ho;subst ho;refine wpOp_step rfl (fun K hK=>?_);rw[if_pos (by rfl)];have HK:=zH hK;clear hK;obtain⟨b,h,hr⟩:∃b,(a1.tmps[29]?).getD undef=.slice (some ⟨b,0,none⟩) 25 25∧RulesAt w.heap.size W b:=hdep ⟨28,.data⟩ (by simp) rfl;clear hdep;go_simp;exact HK.out _ _ ⟨_,rfl,⟨b,rfl,hr⟩,Below.refl _ _⟩
  |i+30,ho=>cases ho
 ·intro a1 W hsz hdf hb hall;obtain⟨b,h,hr⟩:∃b,(a1.tmps[0]?).getD undef=.slice (some ⟨b,0,none⟩) 25 25∧RulesAt w.heap.size W b:=hall 29 (by decide);clear hall;go_wp2;exact bodyPost_ret (v:=.slice (some ⟨b,0,none⟩) 25 25) (by simp[results,Tryz.results146,go_sem,h]) hdf ⟨⟨b,rfl,hr⟩,hb⟩
end Go.Proofs.YtmmbjngbeiokeaaGreatDoor
