/- A part of the proof: Ul YA Yt Us Uu. -/
import Derived.Deep.RegionHeld3
import Derived.BigQuiet
import Derived.Test.YtgfeadgafdijaaaGreatDoorJ01
import Derived.Test.YtgfeadgafdijaaaGreatDoorJ03
import Derived.Test.YtgfeadgafdijaaaGreatDoorJ19
import Derived.Test.YtgfeadgafdijaaaGreatDoorJ24
import Derived.Test.YtgfeadgafdijaaaGreatDoorJ28
import Derived.Test.YtgfeadgafdijaaaGreatDoorJ32
import Derived.Test.YtgfeadgafdijaaaGreatDoorJ33
import Derived.Test.YtgfeadgafdijaaaGreatDoorJ34
import Derived.Test.YtgfeadgafdijaaaGreatDoorJ35
import Derived.Test.YtgfeadgafdijaaaGreatDoorJ36
import Derived.Test.YtgfeadgafdijaaaGreatDoorJ37
set_option linter.unusedVariables false
set_option linter.unusedSimpArgs false
set_option maxRecDepth 100000
set_option maxHeartbeats 40000000
namespace Go.Proofs.YtgfeadgafdijaaaGreatDoor
open Go.RowKit
theorem y8:(Tryz.prog.info? 34).map (fun i=>(i.zero,i.size,i.bytes))=some (some (.agg #[.string ⟨#[]⟩,.bool false,.int .i64 0,.int .i64 0]),4,40):=by kernel_rfl
theorem XV (w0 w:World) (R g c:Nat) (l:Lw) (ss:List (Sc × Hd)) (ps:List (Pv × Hd)) (fv sv pv:Value) (nm s rest:ByteArray) (t:Ty) (h:PT w0 w R l ss ps fv sv pv) (hL:bZ w) (ht:Eo t=true) (hs:s=bV t) (hn:l.facts.length≤1000) (hg:∃cs,aj w g 9 cs∧cs[1]?=some (.string nm)∧cs[2]?=some (.string s)):
  Calls Tryz.prog 94 #[.pointer (some ⟨R,0,none⟩),.slice (some ⟨g,1,none⟩) 2 c,.string rest] w fun e w'=>e=.returned (.tuple #[])∧(∃v',PT w0 w' R ⟨l.facts++[⟨nm,t⟩],l.bI,l.aP⟩ ss ps v' sv pv)∧FR R w w':=by
 obtain⟨cs,hg0,hg1,hg2⟩:=hg;have HT:=zH (fun W (hb:Below w.heap.size w W)=>hs ▸ zI t W (hL.below hb) ht);have tZ:=zH h;have dW:Hid (∀W,Below w.heap.size w W→W.cell? ⟨g,1,none⟩=some (.string nm)∧W.cell? ⟨g,2,none⟩=some (.string s)):=fun W hb=>⟨((hg0.below hb hg0.lt).cells 1).trans hg1,((hg0.below hb hg0.lt).cells 2).trans hg2⟩
 have I5:Hid (∀W W',Below w.heap.size w W→TF 34 W W'→W'.cell? ⟨g,1,none⟩=some (.string nm)∧W'.cell? ⟨g,2,none⟩=some (.string s)):=fun W W' hb ht=>⟨((ht.blk (hg0.below hb hg0.lt) (by decide)).cells 1).trans hg1,((ht.blk (hg0.below hb hg0.lt) (by decide)).cells 2).trans hg2⟩
 have HM:=zH (qR w)
 have Ce:Hid (R≠g):=by
  rintro rfl;have e1:(Obj.cells _ _ _:Obj)=Obj.cells _ _ _:=Option.some.inj (h.blk.symm.trans hg0);injection e1 with _ e2 _;exact absurd e2 (by decide)
 obtain⟨tt,tm,td⟩:=t;unfold Ty.v at HT;simp only at HT;clear h hL ht hs hg0 hg1 hg2;go_enter Tryz.func94,Tryz.ntmps94;go_wp2_with fail;refine HM.out.mono ?_;rintro e w1 ⟨rfl,hw1⟩;have hw2:=hw1.symm;clear hw1;subst hw2
 go_upto_region 1 with fail
 refine wp_region_noPanic ?_;refine wp_region_held_drew (S:=(fun w'=>w'.cell? ⟨g,1,none⟩=some (.string nm)∧w'.cell? ⟨g,2,none⟩=some (.string s))) (by kernel_rfl) (dW.out _ (Below.drew (Below.refl _ w))) (fun hHeld=>?_);refine ay 0 ?_;refine ay 1 ?_;refine ay 2 ?_;refine ay 3 ?_;refine ay 5 ?_;refine ay 6 ?_;refine ay 8 ?_;refine ay 9 ?_;refine ay 10 ?_;refine ay 7 ?_;refine Ap 4 11 (fun K hK=>?_) fun K hK=>?_
 ·have hc4:(w).cell? ⟨R,0,none⟩=some fv:=(tZ.out.blk.cells 0)
  go_simp;go_wp2_with fail;refine aT hK (dW.out _ (ak w.heap.size w 1)) fun hHeld=>?_
  clear hK K;refine bJ 11 fun K hK=>?_
  go_simp;refine (HT.out _ (ak w.heap.size w 1)).mono ?_;rintro e w10 ⟨rfl,dA⟩;have aY:=zH (ah (ak w.heap.size w 1) dA);go_wp2_with fail;refine aT hK (dW.out _ aY.out) fun hHeld=>?_
  clear hK K;refine ay 12 ?_;refine bJ 13 fun K hK=>?_
  go_simp;go_wp2_with fail;refine aT hK (dW.out _ (aY.out.alloc aY.out.size _)) fun hHeld=>?_
  clear hK K;refine bJ 14 fun K hK=>?_
  have HP:=zH (tZ.out.below aY.out);refine gG w10 #[.string nm,.bool tt,.int .i64 tm,.int .i64 td] (by rfl) _ _ 22 (by rfl) (R+1) 34 (.agg #[.string ⟨#[]⟩,.bool false,.int .i64 0,.int .i64 0]) 4 40 1 Tryz.underlying22 y8 rfl (by decide) fv l.facts.length (l.facts.flatMap Dc.cells) (by rfl) HP.out.f (by rfl) rfl ?_ ?_ ?_ ?_ ?_
  any_goals first|(unfold maxLen;omega)|omega
  ·intro u hu;simp only[List.mem_cons,List.not_mem_nil,or_false] at hu;rcases hu with rfl|rfl|rfl|rfl<;>rfl
  ·have h1:=HP.out.bl.size;have h2:=HP.out.blk.lt;omega
  intro v' lW hown hgr _;obtain⟨Av,cv,rfl,_⟩:=bM hown;have HQ:=zH (HP.out.MO ⟨nm,⟨tt,tm,td⟩⟩ hown hgr);have HK:=zH ((TF.grown HP.out.f hgr).blk HP.out.blk (by decide));have HG2:Hid (lW.cell? ⟨g,1,none⟩=some (.string nm)∧lW.cell? ⟨g,2,none⟩=some (.string s)):=I5.out _ _ aY.out (TF.grown HP.out.f hgr);have qB:Hid (FR R w _):=FR.grown (i:=0) (u:=.slice Av (l.facts.length+1) cv) aY.out HP.out.f (.inl rfl) hgr;clear hown hgr;refine aT hK (HG2.out) fun hHeld=>?_
  clear hK K;refine ay 15 ?_;refine ay 16 ?_;refine bJ 17 fun K hK=>?_
  have hkc:=HK.out.cells;have rO:=HK.out.aF;go_simp;go_wp2_with fail;refine aT hK (⟨by rw[World.cell?_setCell_other _ _ _ _ (by simp[Ce.out])];exact HG2.out.1,by rw[World.cell?_setCell_other _ _ _ _ (by simp[Ce.out])];exact HG2.out.2⟩) fun hHeld=>?_
  clear hK K;refine wpAnyH_done (by kernel_rfl) ?_ _;refine NoPanic.normal ?_;go_wp2;go_end0;exact⟨rfl,⟨_,HQ.out⟩,qB.out⟩
 ·go_simp;refine (HT.out _ (ak w.heap.size w 1)).mono ?_;rintro e w10 ⟨rfl,dA⟩;have aY:=zH (ah (ak w.heap.size w 1) dA);go_wp2_with fail;refine aT hK (dW.out _ aY.out) fun hHeld=>?_
  clear hK K;refine ay 12 ?_;refine Ap 4 13 (fun K hK=>?_) fun K hK=>?_
  ·have hc4:(w10).cell? ⟨R,0,none⟩=some fv:=((tZ.out.below aY.out).blk.cells 0)
   go_simp;go_wp2_with fail;refine aT hK (dW.out _ aY.out) fun hHeld=>?_
   clear hK K;refine bJ 13 fun K hK=>?_
   go_simp;go_wp2_with fail;refine aT hK (dW.out _ (aY.out.alloc aY.out.size _)) fun hHeld=>?_
   clear hK K;refine bJ 14 fun K hK=>?_
   have HP:=zH (tZ.out.below aY.out);refine gG w10 #[.string nm,.bool tt,.int .i64 tm,.int .i64 td] (by rfl) _ _ 22 (by rfl) (R+1) 34 (.agg #[.string ⟨#[]⟩,.bool false,.int .i64 0,.int .i64 0]) 4 40 1 Tryz.underlying22 y8 rfl (by decide) fv l.facts.length (l.facts.flatMap Dc.cells) (by rfl) HP.out.f (by rfl) rfl ?_ ?_ ?_ ?_ ?_
   any_goals first|(unfold maxLen;omega)|omega
   ·intro u hu;simp only[List.mem_cons,List.not_mem_nil,or_false] at hu;rcases hu with rfl|rfl|rfl|rfl<;>rfl
   ·have h1:=HP.out.bl.size;have h2:=HP.out.blk.lt;omega
   intro v' lW hown hgr _;obtain⟨Av,cv,rfl,_⟩:=bM hown;have HQ:=zH (HP.out.MO ⟨nm,⟨tt,tm,td⟩⟩ hown hgr);have HK:=zH ((TF.grown HP.out.f hgr).blk HP.out.blk (by decide));have HG2:Hid (lW.cell? ⟨g,1,none⟩=some (.string nm)∧lW.cell? ⟨g,2,none⟩=some (.string s)):=I5.out _ _ aY.out (TF.grown HP.out.f hgr);have qB:Hid (FR R w _):=FR.grown (i:=0) (u:=.slice Av (l.facts.length+1) cv) aY.out HP.out.f (.inl rfl) hgr;clear hown hgr;refine aT hK (HG2.out) fun hHeld=>?_
   clear hK K;refine ay 15 ?_;refine ay 16 ?_;refine bJ 17 fun K hK=>?_
   have hkc:=HK.out.cells;have rO:=HK.out.aF;go_simp;go_wp2_with fail;refine aT hK (⟨by rw[World.cell?_setCell_other _ _ _ _ (by simp[Ce.out])];exact HG2.out.1,by rw[World.cell?_setCell_other _ _ _ _ (by simp[Ce.out])];exact HG2.out.2⟩) fun hHeld=>?_
   clear hK K;refine wpAnyH_done (by kernel_rfl) ?_ _;refine NoPanic.normal ?_;go_wp2;go_end0;exact⟨rfl,⟨_,HQ.out⟩,qB.out⟩
  ·go_simp;go_wp2_with fail;refine aT hK (dW.out _ (aY.out.alloc aY.out.size _)) fun hHeld=>?_
   clear hK K;refine bJ 4 fun K hK=>?_
   have hc4:(w10.alloc (.cells #[.string nm,.bool tt,.int .i64 tm,.int .i64 td] 34)).cell? ⟨R,0,none⟩=some fv:=((tZ.out.below (aY.out.alloc aY.out.size (.cells #[.string nm,.bool tt,.int .i64 tm,.int .i64 td] 34))).blk.cells 0)
   go_simp;go_wp2_with fail;refine aT hK (dW.out _ (aY.out.alloc aY.out.size _)) fun hHeld=>?_
   clear hK K;refine bJ 14 fun K hK=>?_
   have HP:=zH (tZ.out.below aY.out);refine gG w10 #[.string nm,.bool tt,.int .i64 tm,.int .i64 td] (by rfl) _ _ 22 (by rfl) (R+1) 34 (.agg #[.string ⟨#[]⟩,.bool false,.int .i64 0,.int .i64 0]) 4 40 1 Tryz.underlying22 y8 rfl (by decide) fv l.facts.length (l.facts.flatMap Dc.cells) (by rfl) HP.out.f (by rfl) rfl ?_ ?_ ?_ ?_ ?_
   any_goals first|(unfold maxLen;omega)|omega
   ·intro u hu;simp only[List.mem_cons,List.not_mem_nil,or_false] at hu;rcases hu with rfl|rfl|rfl|rfl<;>rfl
   ·have h1:=HP.out.bl.size;have h2:=HP.out.blk.lt;omega
   intro v' lW hown hgr _;obtain⟨Av,cv,rfl,_⟩:=bM hown;have HQ:=zH (HP.out.MO ⟨nm,⟨tt,tm,td⟩⟩ hown hgr);have HK:=zH ((TF.grown HP.out.f hgr).blk HP.out.blk (by decide));have HG2:Hid (lW.cell? ⟨g,1,none⟩=some (.string nm)∧lW.cell? ⟨g,2,none⟩=some (.string s)):=I5.out _ _ aY.out (TF.grown HP.out.f hgr);have qB:Hid (FR R w _):=FR.grown (i:=0) (u:=.slice Av (l.facts.length+1) cv) aY.out HP.out.f (.inl rfl) hgr;clear hown hgr;refine aT hK (HG2.out) fun hHeld=>?_
   clear hK K;refine ay 15 ?_;refine ay 16 ?_;refine bJ 17 fun K hK=>?_
   have hkc:=HK.out.cells;have rO:=HK.out.aF;go_simp;go_wp2_with fail;refine aT hK (⟨by rw[World.cell?_setCell_other _ _ _ _ (by simp[Ce.out])];exact HG2.out.1,by rw[World.cell?_setCell_other _ _ _ _ (by simp[Ce.out])];exact HG2.out.2⟩) fun hHeld=>?_
   clear hK K;refine wpAnyH_done (by kernel_rfl) ?_ _;refine NoPanic.normal ?_;go_wp2;go_end0;exact⟨rfl,⟨_,HQ.out⟩,qB.out⟩
def SV (w0:World) (R:Nat) (fv sv pv:Value) (X:World):Prop:=aj X R 26 [fv,sv,pv]∧Below w0.heap.size w0 X
section
variable {w0 X X':World} {R:Nat} {l:Lw} {ss:List (Sc × Hd)} {ps:List (Pv × Hd)} {fv sv pv v:Value} {e:TypeId} {s n:Nat} {xs:List Value}
theorem PT.svd (h:PT w0 X R l ss ps fv sv pv):SV w0 R fv sv pv X.drew:=⟨h.blk.drew,h.bl.drew⟩
theorem PT.hR (h:PT w0 X R l ss ps fv sv pv):R+1≤X.heap.size:=h.blk.lt
theorem PT.grow (h:PT w0 X R l ss ps fv sv pv) (ho:X.ownsRow (R+1) e s v n xs) (he:26≠e) (hg:X.grownBy X' v.ownBlock):SV w0 R fv sv pv X':=
 ⟨(TF.grown ho hg).blk h.blk he,h.bl.grown hg h.bl.size (fun k hk=>by have h1:=(ho.lt k hk).1;have h2:=h.r;omega)⟩
end
theorem SV.alloc {w0 X:World} {R:Nat} {fv sv pv:Value} (h:SV w0 R fv sv pv X) (o:Obj):SV w0 R fv sv pv (X.alloc o):=⟨h.1.alloc o,h.2.alloc h.2.size o⟩
structure IS (W X:World) (t:TypeId) (cs:List Value) (e:TypeId) (s:Nat) (v:Value) (n:Nat) (xs:List Value):Prop where
 bl:Below W.heap.size W X
 b:aj X W.heap.size t cs
 o:X.ownsRow (W.heap.size+1) e s v n xs
section
variable {W X X':World} {t:TypeId} {cs:List Value} {e:TypeId} {s n:Nat} {v v':Value} {xs ys:List Value}
theorem IS.below (h:IS W X t cs e s v n xs) (hb:Below X.heap.size X X'):IS W X' t cs e s v n xs:=⟨ah h.bl hb,h.b.below hb h.b.lt,own_below h.o hb⟩
theorem IS.hW (h:IS W X t cs e s v n xs):W.heap.size+1≤X.heap.size:=h.b.lt
theorem IS.blk (h:IS W X t cs e s v n xs) (he:t≠e) (hg:X.grownBy X' v.ownBlock):aj X' W.heap.size t cs:=(TF.grown h.o hg).blk h.b he
theorem IS.blg (h:IS W X t cs e s v n xs) (hg:X.grownBy X' v.ownBlock):Below W.heap.size W X':=h.bl.grown hg h.bl.size (fun k hk=>by have h1:=(h.o.lt k hk).1;omega)
theorem IS.push (h:IS W X t cs e s v n xs) (he:t≠e) (hg:X.grownBy X' v.ownBlock) (ho:X'.ownsRow (W.heap.size+1) e s v' (n+1) ys) (i:Nat):IS W (X'.setCell ⟨W.heap.size,i,none⟩ v') t (cs.set i v') e s v' (n+1) ys:=
 ⟨(h.blg hg).setCell (p:=⟨W.heap.size,i,none⟩) (Nat.le_refl _) _,(h.blk he hg).set i v',eU ho i v'⟩
theorem IS.put (h:IS W X t cs e s v n xs) (i:Nat) (u:Value):IS W (X.setCell ⟨W.heap.size,i,none⟩ u) t (cs.set i u) e s v n xs:=
 ⟨h.bl.setCell (p:=⟨W.heap.size,i,none⟩) (Nat.le_refl _) _,h.b.set i u,eU h.o i u⟩
end
theorem ad6 {w w':World} {b:Nat} {t:TypeId} {cs:List Value} {v:Option Nat} (hb:aj w b t cs) (hg:w.grownBy w' v) (hl:∀k,v=some k→k<b):aj w' b t cs:=hb.of_block (hg.block b hb.lt (fun e=>Nat.lt_irrefl _ (hl b e.symm)))
theorem ad7 {w:World} {A:Option Addr} {n c j:Nat} {xs:List Bk} (k:aU w Bk.cells xs ⟨A,n,c⟩) (hj:j<n):∃b off a1 a2 a3 b1 b2 b3,A=some ⟨b,off,none⟩∧∃hx:j<xs.length,xs[j]=⟨⟨a1,a2,a3⟩,⟨b1,b2,b3⟩⟩∧∀X,Below w.heap.size w X→X.cell? ⟨b,off+j*6,none⟩=some (.bool a1)∧X.cell? ⟨b,off+j*6+1,none⟩=some (.string a2)∧X.cell? ⟨b,off+j*6+2,none⟩=some (.string a3)∧X.cell? ⟨b,off+j*6+3,none⟩=some (.bool b1)∧X.cell? ⟨b,off+j*6+4,none⟩=some (.string b2)∧X.cell? ⟨b,off+j*6+5,none⟩=some (.string b3):=by
 obtain⟨b,off,hA,hb,hx,hc⟩:=k.at 6 (fun _=>rfl) (by omega) hj;exact⟨b,off,_,_,_,_,_,_,hA,hx,rfl,fun X hX=>⟨hc X hX 0 _ rfl,hc X hX 1 _ rfl,hc X hX 2 _ rfl,hc X hX 3 _ rfl,hc X hX 4 _ rfl,hc X hX 5 _ rfl⟩⟩
theorem ad8 {w:World} {A:Option Addr} {n c j:Nat} {xs:List Nd} (k:aU w Nd.cells xs ⟨A,n,c⟩) (hj:j<n):∃b off op a1 a2 a3 nm,A=some ⟨b,off,none⟩∧∃hx:j<xs.length,xs[j]=⟨op,⟨a1,a2,a3⟩,nm⟩∧∀X,Below w.heap.size w X→X.cell? ⟨b,off+j*5,none⟩=some (.int .i64 op)∧X.cell? ⟨b,off+j*5+1,none⟩=some (.bool a1)∧X.cell? ⟨b,off+j*5+2,none⟩=some (.string a2)∧X.cell? ⟨b,off+j*5+3,none⟩=some (.string a3)∧X.cell? ⟨b,off+j*5+4,none⟩=some (.string nm):=by
 obtain⟨b,off,hA,hb,hx,hc⟩:=k.at 5 (fun _=>rfl) (by omega) hj;exact⟨b,off,_,_,_,_,_,hA,hx,rfl,fun X hX=>⟨hc X hX 0 _ rfl,hc X hX 1 _ rfl,hc X hX 2 _ rfl,hc X hX 3 _ rfl,hc X hX 4 _ rfl⟩⟩
theorem yF {α:Type} {xs:List α} {k n m:Nat} (hn:n=xs.length) (h:decide (k<n∧k<m)=false) (h1:k≤n) (h2:k≤m):xs.take k=xs.take m:=by
 have h:=of_decide_eq_false h;rcases Nat.lt_or_ge k m with h3|h3
 ·rw[List.take_of_length_le (by omega),List.take_of_length_le (by omega)]
 ·obtain rfl:k=m:=by omega
  rfl
theorem dt {j n m:Nat} {b:Bool} (h:decide (j<n∧j<m)=b):(j<n→j<m→b=true)∧(¬j<n→b=false)∧(j<n→¬j<m→b=false):=by
 subst h;exact⟨fun a c=>decide_eq_true ⟨a,c⟩,fun a=>decide_eq_false (fun h=>a h.1),fun _ c=>decide_eq_false (fun h=>c h.2)⟩
theorem XW (s:ByteArray) (w:World):Calls Tryz.prog 79 #[.string s] w fun e w'=>e=.returned (.bool (fO s))∧w=w':=by
 unfold fO;obtain⟨z,hz⟩:=zF (nameB s.data.toList);have HG:=zH (fun W=>KL s W);rw[hz] at HG⊢;clear hz;go_enter Tryz.func79,Tryz.ntmps79;go_wp2_with fail;refine (HG.out _).mono ?_;rintro e w1 ⟨rfl,rfl⟩;go_wp2;go_ret;exact⟨rfl,rfl⟩
theorem Eu {w:World} {A:Option Addr} {n c j:Nat} {xs:List ByteArray} (k:aU w iG xs ⟨A,n,c⟩) (hj:j<n):∃b off,A=some ⟨b,off,none⟩∧∃hx:j<xs.length,∀X,Below w.heap.size w X→X.cell? ⟨b,off+j,none⟩=some (.string xs[j]):=by
 obtain⟨b,off,hA,_,hx,hc⟩:=k.at 1 (fun _=>rfl) (by omega) hj;exact⟨b,off,hA,hx,fun X hX=>by have h:=hc X hX 0 _ rfl;rwa[Nat.mul_one,Nat.add_zero] at h⟩
theorem RG {NS:List (List ByteArray)} {k:Nat} (h:k<NS.length):(NS.take (k+1)).flatten=(NS.take k).flatten++NS.getD k []:=by
 rw[List.take_succ_eq_append_getElem h,List.flatten_append,List.getD_eq_getElem?_getD,List.getElem?_eq_getElem h];simp
theorem ad9 {NS:List (List ByteArray)} {k:Nat} (h:k<NS.length) (i:Nat):((NS.take k).flatten++(NS.getD k []).take i).length≤NS.flatten.length:=by
 have h1:NS.flatten=(NS.take (k+1)).flatten++(NS.drop (k+1)).flatten:=by rw[←List.flatten_append,List.take_append_drop]
 rw[h1,RG h];simp only[List.length_append,List.length_take];omega
theorem RH {s:ByteArray} {l:List ByteArray} (h:s∈l):0<iQ s l:=by
 unfold iQ;exact List.length_pos_of_mem (List.mem_filter.2 ⟨h,decide_eq_true rfl⟩)
theorem abY {l:List ByteArray} {i k:Nat} (hi:i<l.length) (hk:k<i) (h:l[i]=l[k]'(by omega)):Gw l=true:=by
 refine List.any_eq_true.2 ⟨l[i],List.getElem_mem hi,decide_eq_true ?_⟩;have h1:=zy l[i] (l.take i) (l.drop i);rw[List.take_append_drop] at h1;have h2:0<iQ l[i] (l.drop i):=RH (by rw[List.drop_eq_getElem_cons hi];exact List.mem_cons_self ..);have h3:0<iQ l[i] (l.take i):=RH (by rw[h];exact List.mem_take_iff_getElem.2 ⟨k,by omega,rfl⟩);omega
theorem RI:∀{l:List ByteArray},(∀i k,∀hi:i<l.length,∀hk:k<i,l[i]≠l[k]'(by omega))→∀s,iQ s l≤1
 |[],_,s=>by unfold iQ;exact Nat.zero_le _
 |x::t,h,s=>by
  have h1:=zy s [x] t;rw[OZ,List.singleton_append] at h1
  have h2:=RI (l:=t) (fun i k hi hk=>by
   have:=h (i+1) (k+1) (by simp;omega) (by omega);simpa using this) s
  by_cases hx:x=s
  ·have h3:iQ s t=0:=by
    by_cases h0:iQ s t=0
    ·exact h0
    ·obtain⟨j,hj,e⟩:=List.getElem_of_mem (O4 (show 0<iQ s t by omega));exact absurd (by simp[e,hx]) (h (j+1) 0 (by simp;omega) (by omega))
   rw[if_pos hx] at h1;omega
  ·rw[if_neg hx] at h1;omega
theorem aea {l:List ByteArray} (h:∀i k,∀hi:i<l.length,∀hk:k<i,l[i]≠l[k]'(by omega)):Gw l=false:=by
 cases hd:Gw l
 ·rfl
 ·obtain⟨s,_,h1⟩:=List.any_eq_true.1 hd;have:=of_decide_eq_true h1;have:=RI h s;omega
theorem Pm (l:Lw) (ss:List (Sc × Hd)) (ps:List (Pv × Hd)) (f s p:Hd) (w:World) (h:fG w l ss ps f s p) (hF:lU l):
  Calls Tryz.prog 35 #[dQ f s p] w fun e w'=>e=.returned (.int .i64 (lq l))∧Below w.heap.size w w':=by
 have mY:=zH (fun W (hb:Below w.heap.size w W)=>UK l ss ps f s p W (h.below hb) hF)
 have hlen:(yx l).flatten.length≤3000:=by
  have h1:=hF.fn;have h2:=hF.sn;have h3:=hF.pn;unfold yx;simp only[List.flatten_cons,List.flatten_nil,List.length_append,List.length_map,List.length_nil];omega
 obtain⟨y,hy⟩:=zE (lq l);rw[←hy];have HY:Hid (y=Ai (yx l)):=hy
 have HR:Hid (∀(W:World) (h0 h1 h2:Hd),aU W iG (l.facts.map Dc.name) h0→aU W iG (l.bI.map Sc.name) h1→aU W iG (l.aP.map Pv.name) h2→∀k,k<3→aU W iG ((yx l).getD k []) (if k=0 then h0 else if k=1 then h1 else h2)):=fun W h0 h1 h2 a b c k hk=>by
  rcases (by omega:k=0∨k=1∨k=2) with rfl|rfl|rfl
  ·exact a
  ·exact b
  ·exact c
 have Ij:Hid ((yx l).length=3):=rfl;clear hy h hF;obtain⟨fa,fn,fc⟩:=f;obtain⟨sa,sn,sc⟩:=s;obtain⟨pa,pn,pc⟩:=p;unfold dQ at mY⊢;simp only at mY⊢;go_enter Tryz.func35,Tryz.ntmps35
 go_upto_region 1 with fail
 generalize hX:w.alloc _=W0;obtain⟨hk,hb0⟩:=zA hX;have hc0:=hk.cells;clear hX;go_wp2_with fail;refine (mY.out _ hb0).mono ?_;rintro e w1 ⟨h0,h1,h2,rfl,r0,r1,r2,hb1⟩
 go_upto_region 2 with fail
 generalize hX:w1.alloc _=W;obtain⟨hk3,hb3⟩:=zA hX;have hrow:=HR.out W h0 h1 h2 (r0.below hb3) (r1.below hb3) (r2.below hb3);have hbW:=ah (ah hb0 hb1) hb3;generalize w1.heap.size=N at hk3⊢
 have hcell:∀k,k<3→∀X,Below W.heap.size W X→X.cell? ⟨N,k,none⟩=some (.slice (if k=0 then h0 else if k=1 then h1 else h2).a (if k=0 then h0 else if k=1 then h1 else h2).n (if k=0 then h0 else if k=1 then h1 else h2).c):=fun k hk X h=>by
  rcases (by omega:k=0∨k=1∨k=2) with rfl|rfl|rfl
  ·exact (hk3.below h hk3.lt).cells 0
  ·exact (hk3.below h hk3.lt).cells 1
  ·exact (hk3.below h hk3.lt).cells 2
 clear hX hc0 hk hk3 r0 r1 r2 hb0 hb1 hb3 mY HR;obtain⟨H,hH⟩:∃H:Nat→Hd,H=fun k=>if k=0 then h0 else if k=1 then h1 else h2:=⟨_,rfl⟩
 have hrow':∀k,k<3→aU W iG ((yx l).getD k []) (H k):=by rw[hH];exact hrow
 have hcell':∀k,k<3→∀X,Below W.heap.size W X→X.cell? ⟨N,k,none⟩=some (.slice (H k).a (H k).n (H k).c):=by rw[hH];exact hcell
 have HRW:=zH hrow';have HCL:=zH hcell';clear hrow hcell hH hrow' hcell';generalize yx l=NS at*;go_wp2
 go_loopg [4,5] 3 (fun g av kv X=>∃k:Nat,k+g=3∧kv=.int .i64 k∧X.ownsRow W.heap.size 9 1 av (NS.take k).flatten.length (strs (NS.take k).flatten)∧Below W.heap.size W X∧Hid ((NS.take k).flatten.all fO=true))
 case atStart=>exact⟨0,by omega,rfl,World.ownsRow_nil _ _ _ _,Below.refl _ _,rfl⟩
 case round=>
  obtain⟨k,hk,rfl,hown,hb,HA⟩:=hrel;by_cases hlt:k<3
  ·have hk3:k<NS.length:=by rw[Ij.out];exact hlt
   have hro:=HRW.out k hlt;have hce:=HCL.out k hlt;have HFL:=zH (ad9 hk3);have vP:=zH (RG hk3)
   have HIN:Hid (∀s∈NS.getD k [],s∈NS.flatten):=fun s hs=>by
    rw[List.getD_eq_getElem?_getD,List.getElem?_eq_getElem hk3] at hs;exact List.mem_flatten.2 ⟨_,List.getElem_mem hk3,hs⟩
   generalize NS.getD k []=nm at*;generalize (NS.take k).flatten=acc at*;generalize H k=hh at*;obtain⟨A,n,c⟩:=hh;simp only at hce;have HN:Hid (n=nm.length):=hro.len;have hmx:n≤9223372036854775807:=by have h1:=hro.cap;have h2:=hro.max;unfold maxLen at h2;simp only at h1 h2;omega
   have hlt3:(k:Int)<3:=by omega
   clear hk3;go_wp2
   go_loopg [4,6] n (fun g av iv X=>∃i:Nat,i+g=n∧iv=.int .i64 i∧X.ownsRow W.heap.size 9 1 av (acc++nm.take i).length (strs (acc++nm.take i))∧Below W.heap.size W X∧Hid ((acc++nm.take i).all fO=true))
   case atStart=>exact⟨0,by omega,rfl,by rw[List.take_zero,List.append_nil];exact hown,hb,by show _=_;rw[List.take_zero,List.append_nil];exact HA.out⟩
   case round=>
    clear hown hb HA;obtain⟨i,hi,rfl,hown,hb,HA⟩:=hrel;have hc1:=hce _ hb;by_cases Af:i<n
    ·obtain⟨b,off,rfl,hx,hs⟩:=Eu hro Af;have hs1:=hs _ hb;have ny:=zH (List.take_succ_eq_append_getElem hx);have HM:=zH (HIN.out _ (List.getElem_mem hx));have hlb:=HFL.out i;generalize nm[i]=st at*;obtain⟨z,hz⟩:=zF (fO st);have LH:=zH (fun W=>XW st W);rw[hz] at LH;have HZ:=zH hz;clear hz hs;go_wp2_with fail;refine (LH.out _).mono ?_;rintro e w5 ⟨rfl,rfl⟩;cases z
     ·have HE:Hid (y=12):=by
       show _=_;rw[HY.out];unfold Ai;rw[if_neg];intro hall;have:=List.all_eq_true.1 hall _ HM.out;rw[HZ.out] at this;cases this
      clear hs1 hc1;have rU:=ah hbW hb;go_wp2;go_ret;exact⟨by rw[HE.out];rfl,rU⟩
     ·have HA2:Hid ((acc++nm.take (i+1)).all fO=true):=by
       show _=_;rw[ny.out,←List.append_assoc,List.all_append,HA.out,List.all_cons,HZ.out];rfl
      have HTS:Hid (strs (acc++nm.take (i+1))=strs (acc++nm.take i)++[.string st]):=by
       show _=_;rw[ny.out,←List.append_assoc,qC];rfl
      have zS:Hid ((acc++nm.take (i+1)).length=(acc++nm.take i).length+1):=by
       show _=_;rw[ny.out,←List.append_assoc,List.length_append (bs:=[st])];rfl
      clear HA LH ny;generalize (acc++nm.take i).length=m at*;generalize strs (acc++nm.take i)=XS at*;go_wp2_with (at_builtin;go_must (refine zP o9 Tryz.underlying97 hown (by omega) hb.size (fun v' w' ho hb'=>?_)));clear hs1 hc1;go_wp2
      go_roundg (n-(i+1))
      case measure=>omega
      case rel=>exact⟨i+1,by omega,by go_num,by rw[HTS.out,zS.out];exact ho,hb.trans hb',HA2.out⟩
    ·have aec:Hid ((NS.take (k+1)).flatten=acc++nm.take i):=by show _=_;rw[vP.out,List.take_of_length_le (by have:=HN.out;omega)]
     clear hc1;go_wp2
     go_roundg (3-(k+1))
     case measure=>omega
     case rel=>exact⟨k+1,by omega,by go_num,by rw[aec.out];exact hown,hb,by show _=_;rw[aec.out];exact HA.out⟩
  ·have HF:Hid ((NS.take k).flatten=NS.flatten):=by show _=_;rw[List.take_of_length_le (by have:=Ij.out;omega)]
   have h:=hown;rw[HF.out] at h;obtain⟨hh,rfl,hRA⟩:=jC.mP (enc:=iG) (xs:=NS.flatten) h rfl;clear h;have vO:Hid (NS.flatten.all fO=true):=by show _=_;rw[←HF.out];exact HA.out
   have HRA:=zH hRA.1;clear hown hRA HA
   rename World=>X1
   have pI:Hid (y=if NS.all sortedB then (if Gw NS.flatten then 14 else 0) else 11):=by show _=_;rw[HY.out];unfold Ai;rw[if_pos vO.out]
   go_wp2
   go_loopg [7] 3 (fun g kv X=>∃k:Nat,k+g=3∧kv=.int .i64 k∧Below X1.heap.size X1 X∧Hid (∀j,j<k→sortedB (NS.getD j [])=true))
   case atStart=>exact⟨0,by omega,rfl,Below.refl _ _,fun _ h=>by omega⟩
   case round=>
    obtain⟨k',hk',rfl,hb',HS⟩:=hrel;by_cases hlt':k'<3
    ·have hro:=HRW.out k' hlt';have hce:=HCL.out k' hlt';have hlt3:(k':Int)<3:=by omega
     have yS:Hid (sortedB (NS.getD k' [])=false→y=11):=fun hf=>by
      rw[pI.out,if_neg];intro hall;have hk9:k'<NS.length:=by rw[Ij.out];exact hlt'
      rw[List.getD_eq_getElem?_getD,List.getElem?_eq_getElem hk9] at hf;have:=List.all_eq_true.1 hall _ (List.getElem_mem hk9);rw[show sortedB NS[k']=false from hf] at this;cases this
     generalize hnm:NS.getD k' []=nm at*;have ahj:=zH hnm;clear hnm;generalize H k'=h9 at*;obtain⟨A,n,c⟩:=h9;simp only at hce;have HN:Hid (n=nm.length):=hro.len;have hmx:n≤9223372036854775807:=by have h1:=hro.cap;have h2:=hro.max;unfold maxLen at h2;simp only at h1 h2;omega
     go_wp2
     go_loopg [8] (n-1) (fun g iv X=>∃i:Nat,i+g=n-1∧iv=.int .i64 ((i:Int)+1)∧Below X1.heap.size X1 X∧Hid (∀j,∀h:j+1<nm.length,j<i→Op.bytesLess (nm[j]'(by omega)).toList nm[j+1].toList=true))
     case atStart=>exact⟨0,by omega,rfl,hb',fun _ _ h=>by omega⟩
     case round=>
      clear hb';obtain⟨i,hi,rfl,hb',HD⟩:=hrel;have hbX:=ah hb hb';have hc1:=hce _ hbX;by_cases Af:i+1<n
      ·obtain⟨b,off,rfl,hx,hs⟩:=Eu hro (show i<n by omega);obtain⟨b',off',e,hx',hs'⟩:=Eu hro Af;obtain⟨rfl,rfl⟩:b=b'∧off=off':=by injection e with e;injection e with e1 e2;exact⟨e1,e2⟩
       obtain⟨z,hz⟩:=zF (Op.bytesLess (nm[i]).toList (nm[i+1]).toList);have HZ:=zH hz;generalize hg1:nm[i]=st1 at*;generalize hg2:nm[i+1]=st2 at*;have HG1:=zH hg1;have HG2:=zH hg2;have hwj:IntKind.i64.wrap (i:Int)=i:=IntWalk.i64_in _ (by omega);have hwp:(0:Int)≤(i:Int)+1:=by omega
       have hin:i<n:=by omega
       have hcc:=fun X (h:Below X1.heap.size X1 X)=>And.intro (hce X (ah hb h)) (And.intro (hs X (ah hb h)) (hs' X (ah hb h)))
       clear hg1 hg2 e hs hs'
       go_upto_region 18 with fail
       clear hc1;refine gy (Below X1.heap.size X1) 99 hb'.drew (fun w4 h4 hS=>?_)
       iterate 14 refine bU ?_
       refine dY ?_;clear hcc hb' h4 hbX;cases z
       ·have HE:Hid (y=11):=yS.out (by
         cases hsb:sortedB nm
         ·rfl
         ·have h1:=(zx nm).1 hsb i hx';have h2:=HZ.out;rw[←HG1.out,←HG2.out] at h2;rw[h1] at h2;cases h2)
        have rU:=ah hbW (ah hb hS);go_wp2;go_ret;exact⟨by rw[HE.out];rfl,rU⟩
       ·go_wp2
        go_roundg (n-1-(i+1))
        case measure=>omega
        case rel=>exact⟨i+1,by omega,by go_num,hS,fun j h hj=>by
         rcases (by omega:j<i∨j=i) with h1|rfl
         ·exact HD.out j h h1
         ·have h2:=HZ.out;rw[←HG1.out,←HG2.out] at h2;exact h2⟩
      ·have jh:Hid (sortedB nm=true):=(zx nm).2 fun j h=>HD.out j h (by have:=HN.out;omega)
       clear hc1;go_wp2
       go_roundg (3-(k'+1))
       case measure=>omega
       case rel=>exact⟨k'+1,by omega,by go_num,hb',fun j hj=>by
        rcases (by omega:j<k'∨j=k') with h1|rfl
        ·exact HS.out j h1
        ·rw[ahj.out];exact jh.out⟩
    ·have HY3:Hid (y=if Gw NS.flatten then 14 else 0):=by
      show _=_;rw[pI.out,if_pos];refine List.all_eq_true.2 fun x hx=>?_
      obtain⟨j,hj,rfl⟩:=List.getElem_of_mem hx;have h1:=HS.out j (by have:=Ij.out;omega);rwa[List.getD_eq_getElem?_getD,List.getElem?_eq_getElem hj] at h1
     clear HRW HCL HS;clear HY Ij HF vO pI;obtain⟨A,n,c⟩:=hh;have hro:=HRA.out;have HN:Hid (n=NS.flatten.length):=hro.len;have hmx:n≤3000:=by have:=HN.out;omega
     generalize NS.flatten=L at*;clear hlen;go_wp2
     go_loopg [9] n (fun g iv X=>∃i:Nat,i+g=n∧iv=.int .i64 i∧Below X1.heap.size X1 X∧Hid (∀j k,∀h:j<L.length,∀hk:k<j,j<i→L[j]≠L[k]'(by omega)))
     case atStart=>exact⟨0,by omega,rfl,hb',fun _ _ _ _ h=>by omega⟩
     case round=>
      clear hb';obtain⟨i,hi,rfl,hb',HD⟩:=hrel;by_cases Af:i<n
      ·go_wp2
       go_loopg [10] i (fun g kv X=>∃k:Nat,k+g=i∧kv=.int .i64 k∧Below X1.heap.size X1 X∧Hid (∀m,∀h:i<L.length,∀hm:m<i,m<k→L[i]≠L[m]'(by omega)))
       case atStart=>exact⟨0,by omega,rfl,hb',fun _ _ _ h=>by omega⟩
       case round=>
        clear hb';obtain⟨k,hk,rfl,hb',HE⟩:=hrel;by_cases hki:k<i
        ·obtain⟨b,off,rfl,hx,hs⟩:=Eu hro Af;obtain⟨b',off',e,hx',hs'⟩:=Eu hro (show k<n by omega);obtain⟨rfl,rfl⟩:b=b'∧off=off':=by injection e with e;injection e with e1 e2;exact⟨e1,e2⟩
         have wJ:=zH (fun (h:L[i]=L[k])=>abY hx hki h)
         have HNQ:Hid (L[i]≠L[k]→∀m,∀h:i<L.length,∀hm:m<i,m<k+1→L[i]≠L[m]'(by omega)):=fun hn m h hm hm1=>by
          rcases (by omega:m<k∨m=k) with h1|rfl
          ·exact HE.out m h hm h1
          ·exact hn
         generalize L[i]=st1 at*;generalize L[k]=st2 at*;have hcc:=fun X (h:Below X1.heap.size X1 X)=>And.intro (hs X h) (hs' X h)
         have hkn:k<n:=by omega
         clear e hs hs'
         go_upto_region 26 with fail
         refine gy (Below X1.heap.size X1) 99 hb'.drew (fun w4 h4 hS=>?_)
         iterate 9 refine bU ?_
         refine dY ?_;clear hcc hb' h4;by_cases hq:st1=st2
         ·have HE:Hid (y=14):=by show _=_;rw[HY3.out,wJ.out hq];rfl
          have rU:=ah hbW (ah hb hS);rw[show (st1.toList==st2.toList)=true by rw[hq];exact beq_iff_eq.2 rfl];clear hq;go_wp2;go_ret;exact⟨by rw[HE.out];rfl,rU⟩
         ·have Ji:=zH (HNQ.out hq);rw[show (st1.toList==st2.toList)=false from beq_eq_false_iff_ne.2 fun h=>hq (by rw[ByteArray.toList_eq,ByteArray.toList_eq] at h;exact ByteArray.ext (Array.toList_inj.1 h))];clear hq;go_wp2
          go_roundg (i-(k+1))
          case measure=>omega
          case rel=>exact⟨k+1,by omega,by go_num,hS,Ji.out⟩
        ·have Ji:Hid (∀j k,∀h:j<L.length,∀hk:k<j,j<i+1→L[j]≠L[k]'(by omega)):=fun j m h hm hj=>by
          rcases (by omega:j<i∨j=i) with h1|rfl
          ·exact HD.out j m h hm h1
          ·exact HE.out m h hm (by omega)
         go_wp2
         go_roundg (n-(i+1))
         case measure=>omega
         case rel=>exact⟨i+1,by omega,by go_num,hb',Ji.out⟩
      ·have HE:Hid (y=0):=by
        show _=_;rw[HY3.out,aea (fun j k h hk=>HD.out j k h hk (by have:=HN.out;omega))];rfl
       have rU:=ah hbW (ah hb hb');go_wp2;go_ret;exact⟨by rw[HE.out];rfl,rU⟩
theorem PT.tf {w0 w w':World} {R:Nat} {l:Lw} {ss:List (Sc × Hd)} {ps:List (Pv × Hd)} {fv sv pv:Value} {t:TypeId} (h:PT w0 w R l ss ps fv sv pv) (ht:TF t w w') (hb:Below w0.heap.size w0 w') (h1:26≠t) (h2:34≠t) (h3:37≠t) (h4:46≠t) (h5:42≠t) (h6:48≠t):PT w0 w' R l ss ps fv sv pv:=
 ⟨h.r,hb,ht.blk h.blk h1,ht.own h.f h2,ht.own h.s h3,ht.own h.p h4,h.sl,h.pl,fun x hx=>⟨(h.sb x hx).1,ht.own (h.sb x hx).2 h5⟩,fun x hx=>⟨(h.pb x hx).1,ht.own (h.pb x hx).2 h6⟩⟩
def PX (w0 w:World) (R:Nat) (l:Lw):Prop:=∃ss ps fv sv pv,PT w0 w R l ss ps fv sv pv
theorem PX.below {w0 w w':World} {R:Nat} {l:Lw} (h:PX w0 w R l) (hb:Below w.heap.size w w'):PX w0 w' R l:=by
 obtain⟨ss,ps,fv,sv,pv,h⟩:=h;exact⟨ss,ps,fv,sv,pv,h.below hb⟩
theorem PX.setB {w0 w:World} {R B:Nat} {l:Lw} {cs:List Value} (h:PX w0 w R l) (hB:aj w B 4 cs) (h0:w0.heap.size≤B) (u:Value):PX w0 (w.setCell ⟨B,0,none⟩ u) R l:=by
 obtain⟨ss,ps,fv,sv,pv,h⟩:=h;exact⟨ss,ps,fv,sv,pv,h.tf (TF.set (e:=4) hB 0 u) (h.bl.setCell (p:=⟨B,0,none⟩) h0 u) (by decide) (by decide) (by decide) (by decide) (by decide) (by decide)⟩
structure MP (s:ByteArray) (ws:List ByteArray) (rest:ByteArray) (col:Bool):Prop where
 size:s.size≤1000000
 hd:∃h:List UInt8,Lib.cut s.data.toList [58,32]=(h,rest.data.toList,col)∧h.length≤1000000∧Lib.countB ⟨h.toArray⟩ ⟨#[32]⟩+1=ws.length∧Lib.splitB ⟨#[32]⟩ 0 (Lib.countB ⟨h.toArray⟩ ⟨#[32]⟩) ⟨h.toArray⟩=ws
theorem JU {R B:Nat} {w w8 w9:World} {u:Value} (h:FR R w w8) (hB:w.heap.size≤B) (hb:Below (w8.setCell ⟨B,0,none⟩ u).heap.size (w8.setCell ⟨B,0,none⟩ u) w9):FR R w w9:=by
 refine FR.trans (b:=w8.setCell ⟨B,0,none⟩ u) ⟨by have:=h.size;simpa [World.setCell] using this,fun k o hk hr ht=>(Below.heap_setCell w8 _ u k (fun e=>?_)).trans (h.keep k o hk hr ht)⟩ (FR.below hb);have h1:=lt_of_some hk;have h2:k=B:=e;omega
theorem Ew (w0 w:World) (R:Nat) (l l':Lw) (s rest wd nm:ByteArray) (more:List ByteArray) (k:Nat) (col:Bool) (h:PX w0 w R l) (hL:bZ w) (hw:MP s (wd::nm::more) rest col) (hk:more.length=k+1) (hnm:fO nm=true) (idx fn:Nat)
  (hid:(idx=0∧wd=⟨#[102,97,99,116]⟩∧fn=94∧col=false)∨(idx=1∧wd=⟨#[115,99,104,101,100,117,108,101]⟩∧fn=96∧col=true)∨(idx=2∧wd=⟨#[112,114,111,118,105,115,105,111,110]⟩∧fn=98∧col=true))
  (hR:∀W G,Below w.heap.size w W→aj W G 9 (strs (wd::nm::more))→Calls Tryz.prog fn #[.pointer (some ⟨R,0,none⟩),.slice (some ⟨G,1,none⟩) (k+2:Nat) (k+2:Nat),.string rest] W fun e w'=>e=.returned (.tuple #[])∧PX w0 w' R l'∧FR R W w'):
  Calls Tryz.prog 21 #[.pointer (some ⟨R,0,none⟩),.string s] w fun e w'=>e=.returned (.bool true)∧PX w0 w' R l'∧FR R w w':=by
 have hmf:∀(fn:Fn) (first cap:Array Value) (w:World),(Instr.makeFunc fn first cap).run Tryz.prog w=.ok (.func fn first cap) w:=fun _ _ _ _=>rfl
 have hsf:=uD;obtain⟨hsz,hd,hcut,hhl,hcnt,aed⟩:=hw;obtain⟨ss0,ps0,fv0,sv0,pv0,vV⟩:=h;have HW0:Hid (w0.heap.size≤w.heap.size):=vV.bl.size;have HRW:Hid (R<w.heap.size):=vV.blk.lt;obtain⟨W1,hW1⟩:=zE (w.alloc (.cells #[.bool false] 4));obtain⟨B,hB⟩:=zE w.heap.size;have HKB:Hid (aj W1 B 4 [.bool false]):=by show aj _ _ _ _;rw[hW1,hB];exact aj.new w _ _
 have HB1:Hid (Below w.heap.size w W1):=by show Below _ _ _;rw[hW1];exact zB _ _
 have cO:Hid (w.heap.size≤B):=Nat.le_of_eq hB.symm;have kD:Hid (∀W,Below w.heap.size w W→bZ W):=fun W hb=>hL.below hb
 obtain⟨m,hm⟩:=(kD.out _ HB1.out).e.base.cut.2;have FU:=zH (Tryz.strings_Cut s ⟨#[58,32]⟩ m W1 (by omega) hm);rw[show (⟨#[58,32]⟩:ByteArray).data.toList=[58,32] from rfl,hcut] at FU;simp only at FU;have hrest:(⟨rest.data.toList.toArray⟩:ByteArray)=rest:=by cases rest;rfl
 rw[hrest] at FU
 have Hw:Hid (∀W,Below w.heap.size w W→Calls Tryz.prog 45 #[.string ⟨hd.toArray⟩,.string ⟨#[32]⟩] W fun e w'=>e=.returned (.slice (some ⟨W.heap.size,0,none⟩) (k+3:Nat) (k+3:Nat))∧w'=W.alloc (.cells ((wd::nm::more).map Value.string).toArray 9)):=fun W hb=>by
  obtain⟨m',hm'⟩:=(kD.out _ hb).e.base.cut.2;have k':=Tryz.strings_Split ⟨hd.toArray⟩ ⟨#[32]⟩ m' W (by show hd.toArray.size<_;simp;omega) hm' (by decide);rw[aed,hcnt] at k';simp only[List.length_cons,hk] at k';exact k'
 have mY:Hid (∀W,Below w.heap.size w W→Calls Tryz.prog 15 #[.string nm] W fun e w'=>e=.returned (.bool true)∧Below W.heap.size W w'):=fun W hb=>by
  have k':=yX nm W (kD.out _ hb).e;rw[hnm] at k';exact k'
 have HR:=zH hR;have Pn:=zH hid;have HM:=zH qR;have qw:=zH QB;have HMR:Hid (more.length=k+1):=hk;have aji:Hid (R<w.heap.size):=HRW.out;clear hL hm hrest hsz hcut hhl hcnt aed hR hnm hid vV hk;generalize (⟨hd.toArray⟩:ByteArray)=hb at*
 go_enter_defers Tryz.func21,Tryz.ntmps21
 go_wp2_with fail;simp only[←hW1,←hB]
 clear hW1 hB;refine FU.out.mono ?_;rintro e w2 ⟨rfl,nd,hw2⟩;obtain⟨W2,hW2⟩:=zE (W1.drewN nd);rw[←hW2] at hw2;subst hw2;have HA2:Below W1.heap.size W1 w2:=by rw[hW2];exact ak _ _ _
 have HB2:=zH (ah HB1.out HA2);have HKB2:Hid (aj w2 B 4 [.bool false]):=HKB.out.below HA2 HKB.out.lt;clear hW2 HA2 HKB FU HB1;go_wp2_with fail;refine (Hw.out _ HB2.out).mono ?_;rintro e w3 ⟨rfl,hw3⟩;obtain⟨G,hG⟩:=zE w2.heap.size;have HG:Hid (aj w3 G 9 (strs (wd::nm::more))):=by show aj _ _ _ _;rw[hw3,hG,Gy];exact aj.new w2 _ _
 have RF:Below w2.heap.size w2 w3:=by rw[hw3];exact zB _ _
 have HB3:=zH (ah HB2.out RF);have HKB3:Hid (aj w3 B 4 [.bool false]):=HKB2.out.below RF HKB2.out.lt;simp only[←hG]
 clear hG hw3 RF HKB2 HB2 Hw;go_wp2_with fail;refine (qw.out w3).mono ?_;rintro e w4 ⟨rfl,hk4,hb4⟩;obtain⟨D,hD⟩:=zE w3.heap.size;rw[←hD] at hk4;have HD:=zH hk4;have HB4:=zH (ah HB3.out hb4);have HKB4:Hid (aj w4 B 4 [.bool false]):=HKB3.out.below hb4 HKB3.out.lt;have HG4:Hid (aj w4 G 9 (strs (wd::nm::more))):=HG.out.below hb4 HG.out.lt;simp only[←hD]
 clear hD hk4 hb4 HKB3 HB3 HG qw;go_wp2_with fail
 go_loopg [22] 3 (fun q iv wr=>∃i:Nat,i+q=3∧iv=.int .i64 i∧Hid (i≤idx)∧Hid (Below w.heap.size w wr)∧Hid (aj wr B 4 [.bool false])∧Hid (aj wr G 9 (strs (wd::nm::more)))∧Hid (aj wr D 103 JO))
 case atStart=>exact⟨0,by omega,rfl,Nat.zero_le _,HB4,HKB4,HG4,HD⟩
 case round=>
  obtain⟨i,hi,rfl,hidx,hbr,hkB,uf,LW⟩:=hrel;clear HB4 HKB4 HG4 HD;have hd0:=LW.out.cells;have hg0:wr.cell? ⟨G,0,none⟩=some (.string wd):=uf.out.cells 0;have hg1:wr.cell? ⟨G,1,none⟩=some (.string nm):=uf.out.cells 1;have HI2:Hid (i≤2):=by have h1:=hidx.out;have h2:idx≤2:=by {rcases Pn.out with h|h|h<;>omega};show i≤2;omega
  obtain hi0|hi1|hi2:i=0∨i=1∨i=2:=by have:=HI2.out;omega
  ·obtain rfl:i=0:=hi0;have e1:wr.cell? ⟨D,0,none⟩=some (.string ⟨#[102,97,99,116]⟩):=hd0 0;have e2:wr.cell? ⟨D,1,none⟩=some (.func (Fn.func 94) #[] #[]):=hd0 1;have tN:Hid (∀o,aj (wr.alloc (.cells o 103)) wr.heap.size 103 o.toList):=fun o=>aj.new wr _ o
   have aK:Hid (∀o,Below w.heap.size w (wr.alloc o)):=fun o=>hbr.out.alloc hbr.out.size o
   by_cases hix:idx=0
   ·obtain⟨rfl,rfl,rfl⟩:wd=⟨#[102,97,99,116]⟩∧fn=94∧col=false:=by rcases Pn.out with⟨h,h'⟩|⟨h,h'⟩|⟨h,h'⟩<;>first|exact h'|(exfalso;omega)
    clear hd0 hidx;obtain⟨wt,hwt⟩:=zE (wr.alloc (.cells #[.string ⟨#[102,97,99,116]⟩,.func (Fn.func 94) #[] #[]] 103));obtain⟨T,hT⟩:=zE wr.heap.size;have Po:Hid (w.heap.size≤T):=by show _≤T;rw[hT];exact hbr.out.size
    have HT:Hid (aj wt T 103 [.string ⟨#[102,97,99,116]⟩,.func (Fn.func 94) #[] #[]]):=by show aj _ _ _ _;rw[hwt,hT];exact aj.new wr _ _
    have dO:Hid (Below w.heap.size w wt):=by show Below _ _ _;rw[hwt];exact aK.out _
    have vW:Hid (aj wt B 4 [.bool false]):=by show aj _ _ _ _;rw[hwt];exact hkB.out.alloc _
    have nU:Hid (aj wt G 9 (strs (⟨#[102,97,99,116]⟩::nm::more))):=by show aj _ _ _ _;rw[hwt];exact uf.out.alloc _
    go_upto_region 7 with fail
    simp only[←hwt,←hT]
    clear hwt hT hg0 hg1 e1 e2 tN aK hbr hkB uf LW;have t0:=HT.out.cells;have hg0:wt.cell? ⟨G,0,none⟩=some (.string ⟨#[102,97,99,116]⟩):=nU.out.cells 0;have hg1:wt.cell? ⟨G,1,none⟩=some (.string nm):=nU.out.cells 1;go_quiet (fail);go_wp2_with fail;generalize hwq:wt.drewN _=wq;have mX:Hid (Below wt.heap.size wt wq):=by show Below _ _ _;rw[←hwq];exact ak _ _ _
    clear hwq;refine (mY.out wq (ah dO.out mX.out)).mono ?_;rintro e w5 ⟨rfl,hb5⟩;have eF:=zH (ah (ah dO.out mX.out) hb5);have vX:=zH (HT.out.below (ah mX.out hb5) HT.out.lt);have gZ:Hid (aj w5 B 4 [.bool false]):=vW.out.below (ah mX.out hb5) vW.out.lt;have LX:=zH (nU.out.below (ah mX.out hb5) nU.out.lt);clear t0 hg0 hg1 hb5 HT dO vW nU;have t0:=vX.out.cells;have XY:=zH (HM.out w5);go_wp2_with fail;refine XY.out.mono ?_;rintro e w6 ⟨rfl,hw6⟩;have hw7:=hw6.symm;clear hw6;subst hw7;clear t0;have xW:Hid (∀W',Below w5.heap.size w5 W'→W'.cell? ⟨T,1,none⟩=some (.func (Fn.func 94) #[] #[])):=fun W' hb=>(vX.out.below hb vX.out.lt).cells 1
    have aee:(1:Int)≤(k:Int)+3:=by omega
    go_upto_region 9 with fail
    refine wp_region_noPanic ?_;refine wp_region_held_drew (S:=(fun w'=>w'.cell? ⟨T,1,none⟩=some (.func (Fn.func 94) #[] #[]))) (by kernel_rfl) (xW.out _ (ak w5.heap.size w5 1)) (fun hHeld=>?_);refine ay 0 ?_;refine ay 1 ?_;refine ay 2 ?_;refine ay 3 ?_;refine ay 4 ?_;refine ay 5 ?_;refine bJ 6 fun K hK=>?_
    go_simp;refine (HR.out _ G (ah eF.out (ak w5.heap.size w5 1)) (LX.out.below (ak w5.heap.size w5 1) LX.out.lt)).mono ?_;rintro e w8 ⟨rfl,hpx,hfr⟩;go_wp2_with fail;refine aT hK ((show aj w8 T _ _ from hfr.keep T _ (vX.out.below (ak w5.heap.size w5 1) vX.out.lt) (fun e=>by have h1:=HRW.out;have h2:=Po.out;omega) (fun cs t fr e=>by injection e with _ e2 _;subst e2;decide)).cells 1) fun hHeld=>?_
    clear hK K;refine wpAnyH_done (by kernel_rfl) ?_ _;refine NoPanic.normal ?_;have jJ:Hid (aj w8 B 4 [.bool false]):=hfr.keep B _ (gZ.out.below (ak w5.heap.size w5 1) gZ.out.lt) (by have h1:=HRW.out;have h2:=cO.out;omega) (fun cs t fr e=>by injection e with _ e2 _;subst e2;decide);have qB:Hid (FR R w w8):=FR.trans (FR.below (ah eF.out (ak w5.heap.size w5 1))) hfr;have Ea:=zH hpx;clear hpx hfr;have hk8:=jJ.out.cells;have hf8:=jJ.out.aF;go_wp2;refine leaves_cons (f:=43) (args:=#[.pointer (some ⟨B,0,none⟩)]) (by simp) (by simp[go_sem]) ?_;refine (zJ B _).mono ?_;rintro e u' w9 ⟨rfl,rfl,eP⟩;have hKS:=(jJ.out.set 0 (.bool true)).below eP (jJ.out.set 0 (.bool true)).lt;have BU:w9.cell? ⟨B,0,none⟩=some (.bool true):=hKS.cells 0;simp[Leaves,settle,results,Tryz.results21,go_sem,BU];exact⟨(Ea.out.setB jJ.out (Nat.le_trans HW0.out cO.out) _).below eP,JU qB.out cO.out eP⟩
   ·have hne:(([102,97,99,116]:List UInt8)==wd.toList)=false:=by rcases Pn.out with⟨h,h',_⟩|⟨h,h',_⟩|⟨h,h',_⟩<;>first|(exfalso;omega)|(subst h';simp only[ByteArray.toList_eq];decide)
    have yR:Hid (0+1≤idx):=by have h1:=hidx.out;show 0+1≤idx;omega
    clear hidx;obtain⟨wt,hwt⟩:=zE (wr.alloc (.cells #[.string ⟨#[102,97,99,116]⟩,.func (Fn.func 94) #[] #[]] 103));obtain⟨T,hT⟩:=zE wr.heap.size;have Po:Hid (w.heap.size≤T):=by show _≤T;rw[hT];exact hbr.out.size
    have HT:Hid (aj wt T 103 [.string ⟨#[102,97,99,116]⟩,.func (Fn.func 94) #[] #[]]):=by show aj _ _ _ _;rw[hwt,hT];exact aj.new wr _ _
    have dO:Hid (Below w.heap.size w wt):=by show Below _ _ _;rw[hwt];exact aK.out _
    have vW:Hid (aj wt B 4 [.bool false]):=by show aj _ _ _ _;rw[hwt];exact hkB.out.alloc _
    have nU:Hid (aj wt G 9 (strs (wd::nm::more))):=by show aj _ _ _ _;rw[hwt];exact uf.out.alloc _
    have Lh:Hid (aj wt D 103 JO):=by show aj _ _ _ _;rw[hwt];exact LW.out.alloc _
    clear hd0
    go_upto_region 7 with fail
    simp only[←hwt,←hT]
    clear hwt hT hg0 hg1 e1 e2 tN aK hbr hkB uf LW;have t0:=HT.out.cells;have hg0:wt.cell? ⟨G,0,none⟩=some (.string wd):=nU.out.cells 0;go_quiet (fail);go_wp2;generalize hwq:wt.drewN _=wq;have mX:Hid (Below wt.heap.size wt wq):=by show Below _ _ _;rw[←hwq];exact ak _ _ _
    clear hwq
    go_roundg 2
    case rel=>exact⟨0+1,by omega,by go_num,yR,ah dO.out mX.out,vW.out.below mX.out vW.out.lt,nU.out.below mX.out nU.out.lt,Lh.out.below mX.out Lh.out.lt⟩
    all_goals omega
  ·obtain rfl:i=1:=hi1;have e1:wr.cell? ⟨D,2,none⟩=some (.string ⟨#[115,99,104,101,100,117,108,101]⟩):=hd0 2;have e2:wr.cell? ⟨D,3,none⟩=some (.func (Fn.func 96) #[] #[]):=hd0 3;have tN:Hid (∀o,aj (wr.alloc (.cells o 103)) wr.heap.size 103 o.toList):=fun o=>aj.new wr _ o
   have aK:Hid (∀o,Below w.heap.size w (wr.alloc o)):=fun o=>hbr.out.alloc hbr.out.size o
   by_cases hix:idx=1
   ·obtain⟨rfl,rfl,rfl⟩:wd=⟨#[115,99,104,101,100,117,108,101]⟩∧fn=96∧col=true:=by rcases Pn.out with⟨h,h'⟩|⟨h,h'⟩|⟨h,h'⟩<;>first|exact h'|(exfalso;omega)
    clear hd0 hidx;obtain⟨wt,hwt⟩:=zE (wr.alloc (.cells #[.string ⟨#[115,99,104,101,100,117,108,101]⟩,.func (Fn.func 96) #[] #[]] 103));obtain⟨T,hT⟩:=zE wr.heap.size;have Po:Hid (w.heap.size≤T):=by show _≤T;rw[hT];exact hbr.out.size
    have HT:Hid (aj wt T 103 [.string ⟨#[115,99,104,101,100,117,108,101]⟩,.func (Fn.func 96) #[] #[]]):=by show aj _ _ _ _;rw[hwt,hT];exact aj.new wr _ _
    have dO:Hid (Below w.heap.size w wt):=by show Below _ _ _;rw[hwt];exact aK.out _
    have vW:Hid (aj wt B 4 [.bool false]):=by show aj _ _ _ _;rw[hwt];exact hkB.out.alloc _
    have nU:Hid (aj wt G 9 (strs (⟨#[115,99,104,101,100,117,108,101]⟩::nm::more))):=by show aj _ _ _ _;rw[hwt];exact uf.out.alloc _
    go_upto_region 7 with fail
    simp only[←hwt,←hT]
    clear hwt hT hg0 hg1 e1 e2 tN aK hbr hkB uf LW;have t0:=HT.out.cells;have hg0:wt.cell? ⟨G,0,none⟩=some (.string ⟨#[115,99,104,101,100,117,108,101]⟩):=nU.out.cells 0;have hg1:wt.cell? ⟨G,1,none⟩=some (.string nm):=nU.out.cells 1;go_quiet (fail);go_wp2_with fail;generalize hwq:wt.drewN _=wq;have mX:Hid (Below wt.heap.size wt wq):=by show Below _ _ _;rw[←hwq];exact ak _ _ _
    clear hwq;refine (mY.out wq (ah dO.out mX.out)).mono ?_;rintro e w5 ⟨rfl,hb5⟩;have eF:=zH (ah (ah dO.out mX.out) hb5);have vX:=zH (HT.out.below (ah mX.out hb5) HT.out.lt);have gZ:Hid (aj w5 B 4 [.bool false]):=vW.out.below (ah mX.out hb5) vW.out.lt;have LX:=zH (nU.out.below (ah mX.out hb5) nU.out.lt);clear t0 hg0 hg1 hb5 HT dO vW nU;have t0:=vX.out.cells;have XY:=zH (HM.out w5);go_wp2_with fail;refine XY.out.mono ?_;rintro e w6 ⟨rfl,hw6⟩;have hw7:=hw6.symm;clear hw6;subst hw7;clear t0;have xW:Hid (∀W',Below w5.heap.size w5 W'→W'.cell? ⟨T,1,none⟩=some (.func (Fn.func 96) #[] #[])):=fun W' hb=>(vX.out.below hb vX.out.lt).cells 1
    have aee:(1:Int)≤(k:Int)+3:=by omega
    go_upto_region 9 with fail
    refine wp_region_noPanic ?_;refine wp_region_held_drew (S:=(fun w'=>w'.cell? ⟨T,1,none⟩=some (.func (Fn.func 96) #[] #[]))) (by kernel_rfl) (xW.out _ (ak w5.heap.size w5 1)) (fun hHeld=>?_);refine ay 0 ?_;refine ay 1 ?_;refine ay 2 ?_;refine ay 3 ?_;refine ay 4 ?_;refine ay 5 ?_;refine bJ 6 fun K hK=>?_
    go_simp;refine (HR.out _ G (ah eF.out (ak w5.heap.size w5 1)) (LX.out.below (ak w5.heap.size w5 1) LX.out.lt)).mono ?_;rintro e w8 ⟨rfl,hpx,hfr⟩;go_wp2_with fail;refine aT hK ((show aj w8 T _ _ from hfr.keep T _ (vX.out.below (ak w5.heap.size w5 1) vX.out.lt) (fun e=>by have h1:=HRW.out;have h2:=Po.out;omega) (fun cs t fr e=>by injection e with _ e2 _;subst e2;decide)).cells 1) fun hHeld=>?_
    clear hK K;refine wpAnyH_done (by kernel_rfl) ?_ _;refine NoPanic.normal ?_;have jJ:Hid (aj w8 B 4 [.bool false]):=hfr.keep B _ (gZ.out.below (ak w5.heap.size w5 1) gZ.out.lt) (by have h1:=HRW.out;have h2:=cO.out;omega) (fun cs t fr e=>by injection e with _ e2 _;subst e2;decide);have qB:Hid (FR R w w8):=FR.trans (FR.below (ah eF.out (ak w5.heap.size w5 1))) hfr;have Ea:=zH hpx;clear hpx hfr;have hk8:=jJ.out.cells;have hf8:=jJ.out.aF;go_wp2;refine leaves_cons (f:=43) (args:=#[.pointer (some ⟨B,0,none⟩)]) (by simp) (by simp[go_sem]) ?_;refine (zJ B _).mono ?_;rintro e u' w9 ⟨rfl,rfl,eP⟩;have hKS:=(jJ.out.set 0 (.bool true)).below eP (jJ.out.set 0 (.bool true)).lt;have BU:w9.cell? ⟨B,0,none⟩=some (.bool true):=hKS.cells 0;simp[Leaves,settle,results,Tryz.results21,go_sem,BU];exact⟨(Ea.out.setB jJ.out (Nat.le_trans HW0.out cO.out) _).below eP,JU qB.out cO.out eP⟩
   ·have hne:(([115,99,104,101,100,117,108,101]:List UInt8)==wd.toList)=false:=by rcases Pn.out with⟨h,h',_⟩|⟨h,h',_⟩|⟨h,h',_⟩<;>first|(exfalso;omega)|(subst h';simp only[ByteArray.toList_eq];decide)
    have yR:Hid (1+1≤idx):=by have h1:=hidx.out;show 1+1≤idx;omega
    clear hidx;obtain⟨wt,hwt⟩:=zE (wr.alloc (.cells #[.string ⟨#[115,99,104,101,100,117,108,101]⟩,.func (Fn.func 96) #[] #[]] 103));obtain⟨T,hT⟩:=zE wr.heap.size;have Po:Hid (w.heap.size≤T):=by show _≤T;rw[hT];exact hbr.out.size
    have HT:Hid (aj wt T 103 [.string ⟨#[115,99,104,101,100,117,108,101]⟩,.func (Fn.func 96) #[] #[]]):=by show aj _ _ _ _;rw[hwt,hT];exact aj.new wr _ _
    have dO:Hid (Below w.heap.size w wt):=by show Below _ _ _;rw[hwt];exact aK.out _
    have vW:Hid (aj wt B 4 [.bool false]):=by show aj _ _ _ _;rw[hwt];exact hkB.out.alloc _
    have nU:Hid (aj wt G 9 (strs (wd::nm::more))):=by show aj _ _ _ _;rw[hwt];exact uf.out.alloc _
    have Lh:Hid (aj wt D 103 JO):=by show aj _ _ _ _;rw[hwt];exact LW.out.alloc _
    clear hd0
    go_upto_region 7 with fail
    simp only[←hwt,←hT]
    clear hwt hT hg0 hg1 e1 e2 tN aK hbr hkB uf LW;have t0:=HT.out.cells;have hg0:wt.cell? ⟨G,0,none⟩=some (.string wd):=nU.out.cells 0;go_quiet (fail);go_wp2;generalize hwq:wt.drewN _=wq;have mX:Hid (Below wt.heap.size wt wq):=by show Below _ _ _;rw[←hwq];exact ak _ _ _
    clear hwq
    go_roundg 1
    case rel=>exact⟨1+1,by omega,by go_num,yR,ah dO.out mX.out,vW.out.below mX.out vW.out.lt,nU.out.below mX.out nU.out.lt,Lh.out.below mX.out Lh.out.lt⟩
    all_goals omega
  ·obtain rfl:i=2:=hi2;have e1:wr.cell? ⟨D,4,none⟩=some (.string ⟨#[112,114,111,118,105,115,105,111,110]⟩):=hd0 4;have e2:wr.cell? ⟨D,5,none⟩=some (.func (Fn.func 98) #[] #[]):=hd0 5;have tN:Hid (∀o,aj (wr.alloc (.cells o 103)) wr.heap.size 103 o.toList):=fun o=>aj.new wr _ o
   have aK:Hid (∀o,Below w.heap.size w (wr.alloc o)):=fun o=>hbr.out.alloc hbr.out.size o
   by_cases hix:idx=2
   ·obtain⟨rfl,rfl,rfl⟩:wd=⟨#[112,114,111,118,105,115,105,111,110]⟩∧fn=98∧col=true:=by rcases Pn.out with⟨h,h'⟩|⟨h,h'⟩|⟨h,h'⟩<;>first|exact h'|(exfalso;omega)
    clear hd0 hidx;obtain⟨wt,hwt⟩:=zE (wr.alloc (.cells #[.string ⟨#[112,114,111,118,105,115,105,111,110]⟩,.func (Fn.func 98) #[] #[]] 103));obtain⟨T,hT⟩:=zE wr.heap.size;have Po:Hid (w.heap.size≤T):=by show _≤T;rw[hT];exact hbr.out.size
    have HT:Hid (aj wt T 103 [.string ⟨#[112,114,111,118,105,115,105,111,110]⟩,.func (Fn.func 98) #[] #[]]):=by show aj _ _ _ _;rw[hwt,hT];exact aj.new wr _ _
    have dO:Hid (Below w.heap.size w wt):=by show Below _ _ _;rw[hwt];exact aK.out _
    have vW:Hid (aj wt B 4 [.bool false]):=by show aj _ _ _ _;rw[hwt];exact hkB.out.alloc _
    have nU:Hid (aj wt G 9 (strs (⟨#[112,114,111,118,105,115,105,111,110]⟩::nm::more))):=by show aj _ _ _ _;rw[hwt];exact uf.out.alloc _
    go_upto_region 7 with fail
    simp only[←hwt,←hT]
    clear hwt hT hg0 hg1 e1 e2 tN aK hbr hkB uf LW;have t0:=HT.out.cells;have hg0:wt.cell? ⟨G,0,none⟩=some (.string ⟨#[112,114,111,118,105,115,105,111,110]⟩):=nU.out.cells 0;have hg1:wt.cell? ⟨G,1,none⟩=some (.string nm):=nU.out.cells 1;go_quiet (fail);go_wp2_with fail;generalize hwq:wt.drewN _=wq;have mX:Hid (Below wt.heap.size wt wq):=by show Below _ _ _;rw[←hwq];exact ak _ _ _
    clear hwq;refine (mY.out wq (ah dO.out mX.out)).mono ?_;rintro e w5 ⟨rfl,hb5⟩;have eF:=zH (ah (ah dO.out mX.out) hb5);have vX:=zH (HT.out.below (ah mX.out hb5) HT.out.lt);have gZ:Hid (aj w5 B 4 [.bool false]):=vW.out.below (ah mX.out hb5) vW.out.lt;have LX:=zH (nU.out.below (ah mX.out hb5) nU.out.lt);clear t0 hg0 hg1 hb5 HT dO vW nU;have t0:=vX.out.cells;have XY:=zH (HM.out w5);go_wp2_with fail;refine XY.out.mono ?_;rintro e w6 ⟨rfl,hw6⟩;have hw7:=hw6.symm;clear hw6;subst hw7;clear t0;have xW:Hid (∀W',Below w5.heap.size w5 W'→W'.cell? ⟨T,1,none⟩=some (.func (Fn.func 98) #[] #[])):=fun W' hb=>(vX.out.below hb vX.out.lt).cells 1
    have aee:(1:Int)≤(k:Int)+3:=by omega
    go_upto_region 9 with fail
    refine wp_region_noPanic ?_;refine wp_region_held_drew (S:=(fun w'=>w'.cell? ⟨T,1,none⟩=some (.func (Fn.func 98) #[] #[]))) (by kernel_rfl) (xW.out _ (ak w5.heap.size w5 1)) (fun hHeld=>?_);refine ay 0 ?_;refine ay 1 ?_;refine ay 2 ?_;refine ay 3 ?_;refine ay 4 ?_;refine ay 5 ?_;refine bJ 6 fun K hK=>?_
    go_simp;refine (HR.out _ G (ah eF.out (ak w5.heap.size w5 1)) (LX.out.below (ak w5.heap.size w5 1) LX.out.lt)).mono ?_;rintro e w8 ⟨rfl,hpx,hfr⟩;go_wp2_with fail;refine aT hK ((show aj w8 T _ _ from hfr.keep T _ (vX.out.below (ak w5.heap.size w5 1) vX.out.lt) (fun e=>by have h1:=HRW.out;have h2:=Po.out;omega) (fun cs t fr e=>by injection e with _ e2 _;subst e2;decide)).cells 1) fun hHeld=>?_
    clear hK K;refine wpAnyH_done (by kernel_rfl) ?_ _;refine NoPanic.normal ?_;have jJ:Hid (aj w8 B 4 [.bool false]):=hfr.keep B _ (gZ.out.below (ak w5.heap.size w5 1) gZ.out.lt) (by have h1:=HRW.out;have h2:=cO.out;omega) (fun cs t fr e=>by injection e with _ e2 _;subst e2;decide);have qB:Hid (FR R w w8):=FR.trans (FR.below (ah eF.out (ak w5.heap.size w5 1))) hfr;have Ea:=zH hpx;clear hpx hfr;have hk8:=jJ.out.cells;have hf8:=jJ.out.aF;go_wp2;refine leaves_cons (f:=43) (args:=#[.pointer (some ⟨B,0,none⟩)]) (by simp) (by simp[go_sem]) ?_;refine (zJ B _).mono ?_;rintro e u' w9 ⟨rfl,rfl,eP⟩;have hKS:=(jJ.out.set 0 (.bool true)).below eP (jJ.out.set 0 (.bool true)).lt;have BU:w9.cell? ⟨B,0,none⟩=some (.bool true):=hKS.cells 0;simp[Leaves,settle,results,Tryz.results21,go_sem,BU];exact⟨(Ea.out.setB jJ.out (Nat.le_trans HW0.out cO.out) _).below eP,JU qB.out cO.out eP⟩
   ·exfalso;have h1:=hidx.out;rcases Pn.out with h|h|h<;>omega
inductive Ln
 |f (d:Dc)
 |s (x:Sc)
 |p (x:Pv)
def Lw.add (l:Lw):Ln→Lw
 |.f d=>⟨l.facts++[d],l.bI,l.aP⟩
 |.s x=>⟨l.facts,l.bI++[x],l.aP⟩
 |.p x=>⟨l.facts,l.bI,l.aP++[x]⟩
def aa5:ByteArray:=⟨#[102,97,99,116]⟩
def XZ:ByteArray:=⟨#[115,99,104,101,100,117,108,101]⟩
def U5:ByteArray:=⟨#[112,114,111,118,105,115,105,111,110]⟩
def tJ (s:ByteArray):Ln→Prop
 |.f d=>∃rest,MP s [aa5,d.name,bV d.ty] rest false∧fO d.name=true∧Eo d.ty=true
 |.s x=>∃rest,MP s [XZ,x.name,bV ⟨false,x.aH,x.days⟩] rest true∧fO x.name=true∧Eo ⟨false,x.aH,x.days⟩=true∧Jh rest x.bQ
 |.p x=>∃(rest:ByteArray) (sp:Bool) (a b:ByteArray),MP s (U5::x.name::bV x.ty::Aj x.jI sp a b) rest true∧fO x.name=true∧Eo x.ty=true∧rest.data.toList.length≤1048576∧IU rest.data.toList=(x.body,0)∧
   (sp=true→a.size≤1048576∧b.size≤1048576∧fM a=(x.step,true)∧fM b=(x.cap,true))∧(sp=false→x.step=zR∧x.cap=zR)
theorem ZW (w0 w:World) (R:Nat) (l:Lw) (s:ByteArray) (ln:Ln) (h:PX w0 w R l) (hL:bZ w) (hf:l.facts.length≤1000) (hs:l.bI.length≤1000) (hp:l.aP.length≤1000) (ho:tJ s ln):
  Calls Tryz.prog 21 #[.pointer (some ⟨R,0,none⟩),.string s] w fun e w'=>e=.returned (.bool true)∧PX w0 w' R (l.add ln)∧FR R w w':=by
 have hpx:=h;obtain⟨ss,ps,fv,sv,pv,vV⟩:=h;have hsn:ss.length=l.bI.length:=by rw[←vV.sl,List.length_map]
 have hpn:ps.length=l.aP.length:=by rw[←vV.pl,List.length_map]
 cases ln with
 |f d=>
  obtain⟨rest,hw,hn,ht⟩:=ho;obtain⟨nm,t⟩:=d;refine Ew w0 w R l _ s rest aa5 nm [bV t] 0 false hpx hL hw rfl hn 0 _ (.inl ⟨rfl,rfl,rfl,rfl⟩) (fun W G hb hG=>?_);refine (XV w0 W R G 2 l ss ps fv sv pv nm (bV t) rest t (vV.below hb) (hL.below hb) ht rfl hf ⟨_,hG,rfl,rfl⟩).mono ?_;rintro e w' ⟨h1,⟨v',h2⟩,h3⟩;exact⟨h1,⟨_,_,_,_,_,h2⟩,h3⟩
 |s x=>
  obtain⟨rest,hw,hn,ht,hr⟩:=ho;obtain⟨nm,tm,td,bQ⟩:=x;refine Ew w0 w R l _ s rest XZ nm [bV ⟨false,tm,td⟩] 0 true hpx hL hw rfl hn 1 _ (.inr (.inl ⟨rfl,rfl,rfl,rfl⟩)) (fun W G hb hG=>?_);refine (UZ w0 W R G 2 l ss ps fv sv pv nm (bV ⟨false,tm,td⟩) rest tm td bQ (vV.below hb) (hL.below hb) ht rfl (by omega) hr ⟨_,hG,rfl,rfl⟩).mono ?_;rintro e w' ⟨h1,⟨v',hd,h2⟩,h3⟩;exact⟨h1,⟨_,_,_,_,_,h2⟩,h3⟩
 |p x=>
  obtain⟨rest,sp,a,b,hw,hn,ht,hr,hb',hx,hz⟩:=ho;obtain⟨nm,t,ch,st,cp,body⟩:=x;refine Ew w0 w R l _ s rest U5 nm (bV t::Aj ch sp a b) (Aj ch sp a b).length true hpx hL hw rfl hn 2 _ (.inr (.inr ⟨rfl,rfl,rfl,rfl⟩)) (fun W G hb hG=>?_);refine (XU w0 W R G l ss ps fv sv pv U5 nm (bV t) rest a b t ch sp st cp body (vV.below hb) (hL.below hb) ht rfl (by omega) hr hb' hx hz _ rfl hG).mono ?_;rintro e w' ⟨h1,⟨v',hd,h2⟩,h3⟩;exact⟨h1,⟨_,_,_,_,_,h2⟩,h3⟩
end Go.Proofs.YtgfeadgafdijaaaGreatDoor
