/- Part: Eq Eu. -/
import Derived.Test.YtjpbmbgincdjaaaGreatDoorK29
set_option linter.all false
set_option maxRecDepth 100000
set_option maxHeartbeats 0
namespace Go.Proofs.YtjpbmbgincdjaaaGreatDoor
open Go.RowKit List Tryz
theorem BK {α:Type} [Inhabited α] (eq:α->α->Bool) (x:α):∀(l:List α) (i:Nat),Lib.idxByFrom eq x l i= -1∨∃k,k<l.length/\Lib.idxByFrom eq x l i=((i+k:Nat):Int)/\eq x l[k]! =true:=by
 intro l
 induction l with
 |nil=>intro i;exact .inl rfl
 |cons y l ih=>
  intro i;rw[Lib.idxByFrom];cases h:eq x y
  ·simp only[Bool.false_eq_true,if_false]
   rcases ih (i+1) with h1|⟨k,h1,h2,h3⟩
   ·exact .inl h1
   ·refine .inr ⟨k+1,by simp;omega,by rw[h2];congr 1;omega,?_⟩;simpa using h3
  ·simp only[if_true]
   exact .inr ⟨0,by simp,by simp,by simpa using h⟩
theorem VA {q:List UInt8} {k:Nat} (h:placeOf ⟨q.toArray⟩=(k:Int)):k<25/\(aG (k:Int)).word=q/\q≠[]:=by
 have hl:iV.length=25:=rfl;rcases BK (fun (_:Sh) y=>uy ⟨q.toArray⟩ y) default iV 0 with h1|⟨j,h1,h2,h3⟩
 ·have:placeOf ⟨q.toArray⟩= -1:=h1;omega
 ·have h4:placeOf ⟨q.toArray⟩=((0+j:Nat):Int):=h2;have hjk:j=k:=by omega
  subst hjk
  have hj:iV[j]! =aG (j:Int):=by
   have:=Dh j (by omega);rw[getElem!_pos iV j h1];rw[getElem?_eq_getElem h1] at this;exact Option.some.inj this
  rw[hj] at h3;unfold uy at h3;simp only[Bool.and_eq_true,decide_eq_true_eq,Bool.not_eq_true',decide_eq_false_iff_not] at h3;refine⟨by omega,?_,fun he=>h3.2 (by rw[he])⟩;have h5:=congrArg (fun b:ByteArray=>b.data.toList) h3.1;simpa using h5
theorem YA (q:ByteArray):placeOf q= -1∨∃k:Nat,placeOf q=(k:Int):=by
 rcases BK (fun (_:Sh) y=>uy q y) default iV 0 with h1|⟨j,_,h2,_⟩
 ·exact .inl h1
 ·exact .inr ⟨0+j,h2⟩
theorem aej (s p:List UInt8) (w:World):Calls prog 249 #[.string ⟨s.toArray⟩,.string ⟨p.toArray⟩] w fun e w'=>e=.returned (.bool (Lib.hasPrefix s p))/\w'=w:=Tryz.strings_HasPrefix ⟨s.toArray⟩ ⟨p.toArray⟩ w
theorem acT {a b:List UInt8} (h:a≠b):((⟨a.toArray⟩:ByteArray).toList==b)=false:=by
 rw[ByteArray.toList_eq,beq_eq_false_iff_ne];simpa using h
theorem YB {w:World} (hL:eX w):∀j,j<iV.length->∀i v,(Sh.cells iV[j]!)[i]?=some v->w.cell? ⟨1,0+j*5+i,none⟩=some v:=by
 intro j hj i v hv
 have hi:i<5:=by
  have:=(List.getElem?_eq_some_iff.1 hv).1;exact this
 have hs:iV[j]! =aG (j:Int):=by
  have:=Dh j hj;rw[getElem!_pos iV j hj];rw[getElem?_eq_getElem hj] at this;exact Option.some.inj this
 rw[Nat.zero_add,hL.cell j i hj hi,<-hs];exact hv
theorem eX.row {w:World} {k oo:Nat} {Oz:List UInt8} {lit eH fQ:Bool} (h:eX w) (hk:k<25) (e:aG (k:Int)=⟨Oz,oo,lit,eH,fQ⟩):w.cell? ⟨1,k*5,none⟩=some (.string ⟨Oz.toArray⟩)/\w.cell? ⟨1,k*5+1,none⟩=some (.int .i64 (oo:Int))/\w.cell? ⟨1,k*5+2,none⟩=some (.bool lit)/\w.cell? ⟨1,k*5+3,none⟩=some (.bool eH)/\w.cell? ⟨1,k*5+4,none⟩=some (.bool fQ):=by
 have h1:=fun i hi=>h.cell k i hk hi
 rw[e] at h1;exact⟨h1 0 (by omega),h1 1 (by omega),h1 2 (by omega),h1 3 (by omega),h1 4 (by omega)⟩
theorem OJ {s:List UInt8} (h1:Lib.hasPrefix s [91]=true):zo true s=(jE (s.drop 1)).bind fun q=>if Lib.hasPrefix q.2 [93] then some (q.1,q.2.drop 1) else none:=by unfold zo;rw[if_pos rfl,if_pos h1]
def G5 (oo:Nat) (n:Nd) (t:PS):Option PS:=if 0<oo then (if Lib.hasPrefix t.1 [41] then some (t.1.drop 1,t.2.1++[n],t.2.2) else none) else some (t.1,t.2.1++[n],t.2.2)
theorem aa6 (w0:World) (hL:eX w0) (R:Nat) (hR0:w0.heap.size<=R) (f:Nat):∀(s:List UInt8) (ns:List Nd) (b:Nat) (v:Value) (w:World),Below w0.heap.size w0 w->aj w R 246 [.string ⟨s.toArray⟩,v,.int .i64 (b:Int)]->
  w.ownsRow (R+1) 104 5 v ns.length (mW ns)->s.length<=1048576->ns.length<=b->b<=60->61<=b+f->Calls prog 200 #[.pointer (some ⟨R,0,none⟩)] w (OD (nY f s ns b) R v w):=by
 induction f with
 |zero=>intro s ns b v w _ _ _ _ _ h1 h2;omega
 |succ f ih=>
  intro s ns b v w hw0 hR hown hs hns hb hbf;have hz:∀X,Below R w X->Below w0.heap.size w0 X:=fun X k=>hw0.trans (k.mono hR0)
  have hU:∀X,Below R w X->Under R X:=fun X k=>aa4 hL hR0 (hz X k)
  have H:XA w R v [] s ns (b+1) v (w.setCell ⟨R,2,none⟩ (.int .i64 ((b:Int)+1))):=⟨hR.set 2 _,fJ hown 2 _,PF.OC ((bW.refl R w).set 2 _),(Below.refl R w).setCell (p:=⟨R,2,none⟩) (Nat.le_refl _) _,fun _ h=>(by cases h),hs,by omega⟩
  have hc:=hR.cells;have hf:=hR.bH;obtain⟨T,hT⟩:=zE (nY (f+1) s ns b);rw[<-hT];rw[nY] at hT;have HT:=zH hT;clear hR hown hs hT;obtain⟨B,hB⟩:=zF (b+1);rw[hB] at H HT;have hB1:B<=b+1:=Nat.le_of_eq hB.symm;have hB2:b<B:=by omega
  go_enter func200,ntmps200;rcases (by omega:b=60∨b<60) with rfl|hb
  ·go_wp2;exact⟨rfl,vk (by rw[HT.out,if_pos hB2]) H.e⟩
  ·have hb1:((b:Int)+1)<=60:=by omega
   go_wp2_with fail;generalize w.setCell _ _=W1 at H⊢;refine (aeg s R _ [v,.int .i64 (B:Int)] W1 H.k (hU _ H.e) H.s).mono ?_;have hT:=HT.out;rw[if_neg (by omega)] at hT;clear HT;cases hq:zl s with
   |none=>
    rw[hq] at hT;rintro e w2 ⟨rfl,ho⟩;have HT:=zH hT;clear hT;go_wp2;exact⟨rfl,vk HT.out (H.e.trans (ho.below (Nat.le_refl _) (Nat.le_of_lt H.k.lt)))⟩
   |some o=>
    rw[hq] at hT;cases o with
    |some q=>
     obtain⟨⟨op,⟨neg,num,den⟩,nm⟩,r⟩:=q;rintro e w2 ⟨⟨rfl,hk⟩,ho⟩;replace H:=H.lJ hk ho (OE hq);clear hk ho hq;have HT:=zH hT;clear hT;unfold Nd.v;go_wp2_with fail;generalize hX:w2.alloc _=X;replace H:=H.new hX;generalize w2.heap.size=N at H⊢;clear hX;have hc:=H.sp.all;refine jL (SP R N _ _) 10 H.sp (fun w3 h3 hS=>?_);replace H:=H.grow h3
     iterate 6 refine dR ?_
     refine ng 6 (fun _=>hS.alloc _) (fun _=>?_);refine OI 7 xg underlying54 H.o (by omega) (Nat.succ_le_of_lt H.k.lt) (fun v5 w5 ho hg h4 _=>?_);obtain⟨g5,c5,rfl,_⟩:=y7 ho (by omega);refine⟨H.grown hg,fun hS=>?_⟩
     iterate 2 refine dR ?_
     refine nZ 10 (fun h=>absurd rfl h) (fun _=>?_);refine iW ?_;go_wp2;go_end0;exact H.fin (n:=⟨op,⟨neg,num,den⟩,nm⟩) hg ho h4 HT.out
    |none=>
     rintro e w2 ⟨⟨rfl,hk⟩,ho⟩;replace H:=H.lJ hk ho (Nat.le_refl _);clear hk ho hq;replace HT:=zH hT;clear hT;unfold nd Nd.v zR;simp only
     go_wp2_with fail;generalize hX:w2.alloc _=X;replace H:=H.grow (zA hX).2;clear hX;have hs0:=H.s;refine (H.span dF).mono ?_;clear H;rintro e w3 ⟨rfl,H⟩;obtain⟨D,hD⟩:=zF (⟨(gu dF s).toArray⟩:ByteArray);rw[hD]
     go_upto_region 7 with fail
     generalize hW:w3.alloc _=W4;replace H:=H.new hW;generalize w3.heap.size=N4 at H⊢;clear hW;by_cases hy:gu dF s=Vy
     ·have hT:=HT.out;simp only[Option.bind_some,if_pos hy] at hT;replace HT:=zH hT;obtain rfl:(⟨#[121,101,115]⟩:ByteArray)=D:=by rw[<-hD,hy];rfl
      have hc4:=H.b0.cells;clear hT hD hy;go_wp2_with fail;refine (mV 0 _ (by omega) (by omega)).mono ?_;rintro e w4 ⟨rfl,hb⟩;clear hc4;replace H:=H.grow hb;have hlt:=H.b0.lt;generalize aK 0=q0 at HT⊢;obtain⟨an,au,ad⟩:=q0;unfold Ra.v
      go_upto_region 9 with fail
      generalize hX:w4.alloc _=X;replace H:=H.new hX;generalize w4.heap.size=N at H hlt⊢;have hc4:=H.tl.b0.cells;clear hX hb;have hne:∀q∈([(N4,9,[.string (⟨#[121,101,115]⟩:ByteArray)])]:List (Nat × TypeId × List Value)),q.1≠N:=fun q hq=>by rw[mem_singleton.1 hq];exact Nat.ne_of_lt hlt
      go_wp2_with fail;refine (mV 1 _ (by omega) (by omega)).mono ?_;rintro e w5 ⟨rfl,hb⟩;clear hc4;replace H:=H.grow hb;generalize aK 1=q1 at HT⊢;obtain⟨bn,bu,bd⟩:=q1;unfold Ra.v;have hcn:=H.b0.cells;have hfn:=H.b0.bH;replace H:=((H.set 1 (.bool bn) hne).set 2 (.string bu) hne).set 3 (.string bd) hne;simp only[List.set] at H
      go_upto_region 11 with fail
      clear hcn hfn hb;have hc:=H.sp.all;refine jL (SP R N _ _) 10 H.sp (fun w9 h9 hS=>?_);replace H:=H.grow h9
      iterate 6 refine dR ?_
      refine ng 6 (fun _=>hS.alloc _) (fun _=>?_);refine OI 7 xg underlying54 H.o (by omega) (Nat.succ_le_of_lt H.k.lt) (fun v5 w5 ho hg h4 _=>?_);obtain⟨g5,c5,rfl,_⟩:=y7 ho (by omega);refine⟨H.grown hg,fun hS=>?_⟩
      iterate 2 refine dR ?_
      refine nZ 10 (fun h=>absurd rfl h) (fun _=>?_);refine iW ?_;go_wp2;go_end0;exact H.fin (n:=⟨4,⟨bn,bu,bd⟩,⟨#[]⟩⟩) hg ho h4 HT.out
     ·by_cases hn:gu dF s=noL
      ·have hT:=HT.out;simp only[Option.bind_some,if_neg hy,if_pos hn] at hT;replace HT:=zH hT;obtain rfl:(⟨#[110,111]⟩:ByteArray)=D:=by rw[<-hD,hn];rfl
       have hc4:=H.b0.cells;clear hT hD hy hn;go_wp2_with fail;refine (mV 0 _ (by omega) (by omega)).mono ?_;rintro e w4 ⟨rfl,hb⟩;clear hc4;replace H:=H.grow hb;have hlt:=H.b0.lt;generalize aK 0=q0 at HT⊢;obtain⟨an,au,ad⟩:=q0;unfold Ra.v
       go_upto_region 9 with fail
       generalize hX:w4.alloc _=X;replace H:=H.new hX;generalize w4.heap.size=N at H hlt⊢;have hc4:=H.tl.b0.cells;clear hX hb
       go_upto_region 11 with fail
       clear hc4;have hc:=H.sp.all;refine jL (SP R N _ _) 10 H.sp (fun w9 h9 hS=>?_);replace H:=H.grow h9
       iterate 6 refine dR ?_
       refine ng 6 (fun _=>hS.alloc _) (fun _=>?_);refine OI 7 xg underlying54 H.o (by omega) (Nat.succ_le_of_lt H.k.lt) (fun v5 w5 ho hg h4 _=>?_);obtain⟨g5,c5,rfl,_⟩:=y7 ho (by omega);refine⟨H.grown hg,fun hS=>?_⟩
       iterate 2 refine dR ?_
       refine nZ 10 (fun h=>absurd rfl h) (fun _=>?_);refine iW ?_;go_wp2;go_end0;exact H.fin (n:=⟨4,⟨an,au,ad⟩,⟨#[]⟩⟩) hg ho h4 HT.out
      ·have hT:=HT.out;simp only[Option.bind_some,if_neg hy,if_neg hn] at hT;replace HT:=zH hT;clear hT;have hy1:(D.toList==[121,101,115])=false:=by rw[<-hD];exact acT hy
       have hy2:(D.toList==[110,111])=false:=by rw[<-hD];exact acT hn
       have hy3:(D.toList==(⟨#[121,101,115]⟩:ByteArray).toList)=false:=by rw[show (⟨#[121,101,115]⟩:ByteArray).toList=[121,101,115] by rw[ByteArray.toList_eq]];exact hy1
       have hy4:(D.toList==(⟨#[110,111]⟩:ByteArray).toList)=false:=by rw[show (⟨#[110,111]⟩:ByteArray).toList=[110,111] by rw[ByteArray.toList_eq]];exact hy2
       have hDs:D.size<=1048576:=by rw[<-hD];have:=BJ dF s;show (gu dF s).length<=_;omega
       have hc4:=H.b0.cells;have hcr:=H.k.cells;have HD:=zH hD;clear hD hy hn;go_wp2_with fail;refine (aej (jc dF s) [46] W4).mono ?_;rintro e w4 ⟨rfl,rfl⟩;clear hc4 hcr hy1 hy2 hy3 hy4;obtain⟨xd,hx⟩:=zF (Lib.hasPrefix (jc dF s) [46]);rw[hx]
       go_upto_if 68 with fail
       go_cut [] from 64 to 72 (fun X=>XA w R v [(N4,9,[.string ⟨(kY s).1.toArray⟩])] (kY s).2 ns B v X)
       case first=>
        cases xd
        ·have HA:Hid (kY s=(gu dF s,jc dF s)):=by unfold kY;rw[hx];rfl
         go_wp2
         go_meet
         case rel=>rw[HA.out,HD.out];exact H
        ·have HA:Hid (kY s=(gu dF s++[46],(jc dF s).drop 1)):=by unfold kY;rw[hx];rfl
         have hQ:D++(⟨#[46]⟩:ByteArray)=⟨(gu dF s++[46]).toArray⟩:=ba_eq (by rw[agx,<-HD.out]);have hsm:¬(9223372036854775807<D.size+1):=by omega
         go_wp2_with fail;refine (H.want [46]).mono ?_;rintro e w5 (⟨_,rfl,H⟩|⟨h1,_⟩)
         ·have hc4:=H.b0.cells;have hf4:=H.b0.bH;have h5:=H.set 0 (.string (D++(⟨#[46]⟩:ByteArray))) (fun _ h=>by cases h);simp only[hQ] at h5;have H5:=zH h5;clear h5 H;go_wp2
          go_meet
          case rel=>rw[HA.out];exact H5.out
         ·rw[hx] at h1;cases h1
       case rest=>
        clear H hx;have H:=hcut;clear hcut;have hl:=hL.below (hz _ H.e);go_wp2_with fail;refine (Vx ⟨(kY s).1.toArray⟩ N4 _ 1 0 25 _ H.b0 hl.glob (YB hl)).mono ?_;rintro e w7 ⟨rfl,hb7⟩;replace H:=H.tl.grow hb7;replace hl:=hl.below hb7;clear hb7;have hT:=HT.out;rcases YA ⟨(kY s).1.toArray⟩ with hp|⟨k,hp⟩
        ·rw[hp] at hT⊢;rw[if_pos (by decide)] at hT;have HT:=zH hT;clear hT hp;go_wp2;exact⟨rfl,vk HT.out H.e⟩
        ·obtain⟨al8,_,_⟩:=VA hp;rw[hp] at hT⊢;rw[if_neg (by omega)] at hT;unfold tailA at hT;generalize hsh:aG (k:Int)=sh at hT;obtain⟨Oz,oo,lit,eH,fQ⟩:=sh;have hop:=y5 (k:Int);rw[hsh] at hop;simp only at hT hop;replace HT:=zH hT;have hc:=fun (X:World) (hX:eX X)=>hX.row al8 hsh
         have ha:=fun o=>hl.alloc o
         have hb:=fun o o'=>(hl.alloc o).alloc o'
         generalize (kY s).2=sd at*;generalize (⟨Oz.toArray⟩:ByteArray)=wd at hc;clear hT hp hsh
         go_upto_region 18 with fail
         go_cut [7,8] from 80 to 84 (fun v7 v8 X=>∃N M,v7=.pointer (some ⟨N,0,none⟩)/\v8=.pointer (some ⟨M,0,none⟩)/\N≠M/\XA w R v [(N,104,[.int .i64 (k:Int),.bool false,.string ⟨#[]⟩,.string ⟨#[]⟩,.string ⟨#[]⟩]),(M,176,[.string wd,.int .i64 (oo:Int),.bool lit,.bool eH,.bool fQ])] sd ns B v X)
         case first=>
          go_region
          ·go_wp2
           go_meet
           case rel=>refine⟨_,_,rfl,rfl,by omega,XA.sw (XA.two H ?_ ?_)⟩<;>rfl
          ·go_wp2
           go_meet
           case rel=>refine⟨_,_,rfl,rfl,by omega,XA.two H ?_ ?_⟩<;>rfl
         case rest=>
          clear H hl hc ha hb;obtain⟨N,M,rfl,rfl,hne,H⟩:=hcut;have hcs:=H.tl.b0.cells;obtain⟨s1,hs1⟩:=zF (if eH=true then jc jm sd else sd);obtain⟨nm,hnm⟩:=zF (if eH=true then gu jm sd else []);have hT:T=(zo fQ s1).bind fun q=>(wE (nY f) oo 0 q.2 ns B).bind (G5 oo (nd (k:Int) q.1 nm)):=by rw[<-hs1,<-hnm];exact HT.out
          replace HT:=zH hT;clear hT;have hne2:∀q∈([(M,176,[.string wd,.int .i64 (oo:Int),.bool lit,.bool eH,.bool fQ])]:List (Nat × TypeId × List Value)),q.1≠N:=fun q hq=>by rw[mem_singleton.1 hq];exact Ne.symm hne
          go_upto_if 86 with fail
          go_cut [] from 85 to 89 (fun X=>XA w R v [(N,104,[.int .i64 (k:Int),.bool false,.string ⟨#[]⟩,.string ⟨#[]⟩,.string ⟨nm.toArray⟩]),(M,176,[.string wd,.int .i64 (oo:Int),.bool lit,.bool eH,.bool fQ])] s1 ns B v X)
          case first=>
           cases eH
           ·obtain rfl:sd=s1:=hs1;obtain rfl:[]=nm:=hnm;go_wp2
            go_meet
            case rel=>exact H
           ·obtain rfl:jc jm sd=s1:=hs1;obtain rfl:gu jm sd=nm:=hnm;go_wp2_with fail;refine (H.span jm).mono ?_;rintro e w9 ⟨rfl,H⟩;have hcn:=H.b0.cells;have hfn:=H.b0.bH;have h4:=zH (H.set 4 (.string ⟨(gu jm sd).toArray⟩) hne2);go_wp2
            go_meet
            case rel=>exact h4.out
          case rest=>
           clear H hcs hs1 hnm;have H:=hcut;clear hcut;have hcs:=H.tl.b0.cells
           go_upto_if 91 with fail
           go_cut [] from 90 to 98 (fun X=>∃(a:Ra) (r:List UInt8),Hid (T=(wE (nY f) oo 0 r ns B).bind (G5 oo (nd (k:Int) a nm)))/\XA w R v [(N,104,[.int .i64 (k:Int),.bool a.neg,.string a.num,.string a.den,.string ⟨nm.toArray⟩]),(M,176,[.string wd,.int .i64 (oo:Int),.bool lit,.bool eH,.bool fQ])] r ns B v X)
           case first=>
            cases fQ
            ·go_wp2
             go_meet
             case rel=>exact⟨zR,s1,HT.out,H⟩
            ·go_wp2_with fail;refine (H.want [91]).mono ?_;rintro e w5 (⟨h1,rfl,H⟩|⟨h1,rfl,hb⟩)
             ·clear hcs;go_wp2_with fail;refine (H.num (hU _ H.e)).mono ?_;rintro e w6 (⟨⟨neg,num,den⟩,r,h2,rfl,H⟩|⟨h2,rfl,hb⟩)
              ·unfold Ra.v;have hcn:=H.b0.cells;have hfn:=H.b0.bH;have h4:=((H.set 1 (.bool neg) hne2).set 2 (.string num) hne2).set 3 (.string den) hne2;go_wp2_with fail;refine (h4.want [93]).mono ?_;rintro e w7 (⟨h3,rfl,H⟩|⟨h3,rfl,hb⟩)
               ·have hT:Hid (T=(wE (nY f) oo 0 (r.drop 1) ns B).bind (G5 oo (nd (k:Int) ⟨neg,num,den⟩ nm))):=by show T=_;rw[HT.out,OJ h1,show jE (s1.drop 1)=_ from h2];simp only[Option.bind_some,h3,if_true,Bool.false_eq_true,if_false,Option.bind_none]
                clear h1 h2 h3 hcn hfn h4;go_wp2
                go_meet
                case rel=>exact⟨_,_,hT.out,H⟩
               ·have hT:Hid (T=none):=by show T=_;rw[HT.out,OJ h1,show jE (s1.drop 1)=_ from h2];simp only[Option.bind_some,h3,if_true,Bool.false_eq_true,if_false,Option.bind_none]
                clear h1 h2 h3 hcn hfn h4;go_wp2;exact⟨rfl,vk hT.out hb⟩
              ·have hT:Hid (T=none):=by show T=_;rw[HT.out,OJ h1,show jE (s1.drop 1)=_ from h2];rfl
               clear h1 h2;go_wp2;exact⟨rfl,vk hT.out hb⟩
             ·have hT:Hid (T=none):=by show T=_;rw[HT.out];unfold zo;rw[h1];rfl
              clear h1;go_wp2;exact⟨rfl,vk hT.out hb⟩
           case rest=>
            clear H hcs HT;obtain⟨a,r,HT,H⟩:=hcut;have hcs:=H.tl.b0.cells;have aoZ:b<B:=by omega
            have hii:=fun (X:World) (i:Nat) (hi:i<3)=>show (X.alloc (.cells #[.string ⟨#[40]⟩,.string ⟨#[44,32]⟩,.string ⟨#[44,32]⟩] 9)).cell? ⟨X.heap.size,i,none⟩=some (.string ⟨(l7 i).toArray⟩) from by
             rw[(aj.new X _ _).cells i];rcases (by omega:i=0∨i=1∨i=2) with rfl|rfl|rfl<;>rfl
            go_wp2;clear hcs
            go_loopg [101] oo (fun g iv X=>∃(i:Nat) (s':List UInt8) (ns':List Nd) (b':Nat) (u:Value),i+g=oo/\iv=.int .i64 (i:Int)/\Hid (T=(wE (nY f) g i s' ns' b').bind (G5 oo (nd (k:Int) a nm)))/\XA w R v [(N,104,[.int .i64 (k:Int),.bool a.neg,.string a.num,.string a.den,.string ⟨nm.toArray⟩]),(M,176,[.string wd,.int .i64 (oo:Int),.bool lit,.bool eH,.bool fQ])] s' ns' b' u X/\Hid (B<=b'/\b'<=60))
            case atStart=>exact⟨0,r,ns,B,v,by omega,rfl,HT.out,H,by omega,by omega⟩
            case round=>
             clear H HT;obtain⟨i,s',ns',b',u,hi,rfl,HT,H,HB⟩:=hrel;by_cases hlt:i<oo
             ·obtain⟨m,rfl⟩:∃m,gk=m+1:=⟨gk-1,by omega⟩
              have hT:T=(if Lib.hasPrefix s' (l7 i) then (nY f (s'.drop (l7 i).length) ns' b').bind fun q=>wE (nY f) m (i+1) q.1 q.2.1 q.2.2 else none).bind (G5 oo (nd (k:Int) a nm)):=HT.out;replace HT:=zH hT;have hi3:i<3:=by omega
              have hi4:(i:Int)<3:=by omega
              have OL:=hii wr i hi3;clear hT hii;go_wp2_with fail;refine ((H.grow (zB _ _)).want (l7 i)).mono ?_;clear OL H;rintro e w5 (⟨h1,rfl,H⟩|⟨h1,rfl,hb⟩)
              ·have hT:=HT.out;rw[if_pos h1] at hT;replace HT:=zH hT;clear h1 hT;go_wp2_with fail;refine (ih _ _ _ _ _ (hz _ H.e) H.k H.o H.s H.n HB.out.2 (by have:=HB.out.1;omega)).mono ?_;cases hq:nY f (s'.drop (l7 i).length) ns' b' with
               |none=>
                have hT:=HT.out;rw[hq] at hT;replace HT:=zH hT;clear hT hq;rintro e w6 ⟨rfl,hb⟩;go_wp2;exact⟨rfl,vk HT.out (H.e.trans hb)⟩
               |some q=>
                have hT:=HT.out;rw[hq] at hT;replace HT:=zH hT;have hpb:=(SL _ _ _ _ _ hq).1;clear hT hq;rintro e w6 ⟨rfl,u',hk,ho,hp⟩;replace H:=H.to hp hk ho hpb.rest (by have:=hpb.nodes;have:=H.n;omega);have HB:Hid (B<=q.2.2/\q.2.2<=60):=⟨by have:=HB.out;have:=hpb.begun;omega,hpb.most⟩
                clear hk ho hp hpb;go_wp2
                go_roundg m
                case measure=>omega
                case rel=>exact⟨i+1,q.1,q.2.1,q.2.2,u',by omega,by go_num,HT.out,H,HB.out⟩
              ·have hT:=HT.out;rw[if_neg (by rw[h1];decide)] at hT;replace HT:=zH hT;clear hT h1;go_wp2;exact⟨rfl,vk HT.out hb⟩
             ·obtain rfl:gk=0:=by omega
              have hT:T=G5 oo (nd (k:Int) a nm) (s',ns',b'):=HT.out;have hx1:decide ((i:Int)<oo)=false:=decide_eq_false (by omega);replace HT:=zH hT;have hcs:=H.tl.b0.cells;clear hT hii
              go_upto_if 115 with fail
              go_cut [] from 113 to 117 (fun X=>∃s2,Hid (T=some (s2,ns'++[nd (k:Int) a nm],b'))/\XA w R v [(N,104,[.int .i64 (k:Int),.bool a.neg,.string a.num,.string a.den,.string ⟨nm.toArray⟩]),(M,176,[.string wd,.int .i64 (oo:Int),.bool lit,.bool eH,.bool fQ])] s2 ns' b' u X)
              case first=>
               clear hx1 hcs;rcases Nat.eq_zero_or_pos oo with ho|ho
               ·have hT:Hid (T=some (s',ns'++[nd (k:Int) a nm],b')):=by show T=_;rw[HT.out];unfold G5;rw[if_neg (by omega)]
                go_wp2
                go_meet
                case rel=>exact⟨s',hT.out,H⟩
               ·go_wp2_with fail;refine (H.want [41]).mono ?_;rintro e w8 (⟨h1,rfl,H⟩|⟨h1,rfl,hb⟩)
                ·have hT:Hid (T=some (s'.drop 1,ns'++[nd (k:Int) a nm],b')):=by show T=_;rw[HT.out];unfold G5;rw[if_pos ho,if_pos h1]
                 clear h1;go_wp2
                 go_meet
                 case rel=>exact⟨_,hT.out,H⟩
                ·have hT:Hid (T=none):=by show T=_;rw[HT.out];unfold G5;rw[if_pos ho,if_neg (by rw[h1];decide)]
                 clear h1;go_wp2;exact⟨rfl,vk hT.out hb⟩
              case rest=>
               clear hx1 hcs H HT;obtain⟨s2,HT,H⟩:=hcut;obtain⟨neg,num,den⟩:=a;have hc:=H.sp.all;have hbb:=HB.out.2
               go_upto_region 33 with fail
               refine jL (SP R N _ _) 10 H.sp (fun w3 h3 hS=>?_);replace H:=H.grow h3
               iterate 6 refine dR ?_
               refine ng 6 (fun _=>hS.alloc _) (fun _=>?_);refine OI 7 xg underlying54 H.o (by have:=H.n;omega) (Nat.succ_le_of_lt H.k.lt) (fun v5 w5 ho hg h4 _=>?_);obtain⟨g5,c5,rfl,_⟩:=y7 ho (by omega);refine⟨H.grown hg,fun hS=>?_⟩
               iterate 2 refine dR ?_
               refine nZ 10 (fun h=>absurd rfl h) (fun _=>?_);refine iW ?_;go_wp2;go_end0;exact H.fin (n:=nd (k:Int) ⟨neg,num,den⟩ nm) hg ho h4 HT.out
theorem BL {s:List UInt8} {a:Ra} {r:List UInt8} (h:jE s=some (a,r)) (hs:s.length<=1048576):a.num.size<=1048576/\a.den.size<=1048576:=by
 unfold jE at h;split at h
 ·next hp=>
  injection h with h;injection h with h1 _;have hw:=BJ zh s;rw[<-h1];generalize gu zh s=x at*;unfold fG at*;simp only at*;split
  ·obtain⟨hc1,hc2⟩:=RI (Lib.trimPrefix x [45]) [47];have htl:=yx x [45];have h1:=qc (yY x).2.1;have h2:=qc (yY x).2.2;have e1:(yY x).2.1.length<=1048576:=by unfold yY;simp only;omega
   have e2:(yY x).2.2.length<=1048576:=by
    unfold yY;simp only
    split
    ·omega
    ·simp
   exact ND _ _ _ 1048576 (by omega) (by omega)
  ·exact⟨Nat.zero_le _,Nat.zero_le _⟩
 ·cases h
theorem sD {k:Int} {a:Ra} {nm:List UInt8} (h:a.num.size<=1048576/\a.den.size<=1048576):Fine (nd k a nm):=h
theorem SN (n:Int) (h:n=0∨n=1):(aK n).num.size<=1048576/\(aK n).den.size<=1048576:=by
 rcases h with rfl|rfl<;>decide+kernel
theorem YC {s:List UInt8} {q:Nd × List UInt8} (h:zl s=some (some q)) (hs:s.length<=1048576):Fine q.1:=by
 unfold zl at h;split at h
 ·cases hn:jE (s.drop 1) with
  |none=>rw[hn] at h;cases h
  |some ar=>
   rw[hn] at h;injection h with h;injection h with h;rw[<-h];exact sD (BL (a:=ar.1) (r:=ar.2) hn (by have:=kZ s 1;omega))
 ·split at h
  ·cases h
  ·cases hn:jE s with
   |none=>rw[hn] at h;cases h
   |some ar=>
    rw[hn] at h;have h1:=BL (a:=ar.1) (r:=ar.2) hn hs;simp only[Option.map_some] at h;split at h
    ·injection h with h;injection h with h;rw[<-h];exact sD h1
    ·injection h with h;injection h with h;rw[<-h];exact sD h1
theorem YD {p:List UInt8->List Nd->Nat->Option PS} (hp:∀s ns b q,p s ns b=some q->s.length<=1048576->(∀n∈ns,Fine n)->q.1.length<=s.length/\∀n∈q.2.1,Fine n) (m:Nat):
  ∀k s ns b q,wE p m k s ns b=some q->s.length<=1048576->(∀n∈ns,Fine n)->q.1.length<=s.length/\∀n∈q.2.1,Fine n:=by
 induction m with
 |zero=>
  intro k s ns b q h hs hf;injection h with h;subst h;exact⟨Nat.le_refl _,hf⟩
 |succ m ih=>
  intro k s ns b q h hs hf;rw[wE] at h;split at h
  ·obtain⟨t,h1,h2⟩:=Option.bind_eq_some_iff.1 h;have hd:=kZ s (l7 k).length;have p1:=hp _ _ _ _ h1 (by omega) hf;have p2:=ih _ _ _ _ _ h2 (by omega) p1.2;exact⟨by omega,p2.2⟩
  ·cases h
theorem YE {y:Bool} {s:List UInt8} {q:Ra × List UInt8} (h:zo y s=some q) (hs:s.length<=1048576):q.1.num.size<=1048576/\q.1.den.size<=1048576:=by
 unfold zo at h;split at h
 ·split at h
  ·obtain⟨t,h1,h2⟩:=Option.bind_eq_some_iff.1 h;split at h2
   ·injection h2 with h2;have hd:=kZ s 1;rw[<-h2];exact BL (a:=t.1) (r:=t.2) h1 (by omega)
   ·cases h2
  ·cases h
 ·injection h with h;rw[<-h];exact⟨Nat.zero_le _,Nat.zero_le _⟩
theorem uF {ns:List Nd} {n:Nd} (h:∀m∈ns,Fine m) (hn:Fine n):∀m∈ns++[n],Fine m:=by
 intro m hm;rcases mem_append.1 hm with hm|hm
 ·exact h m hm
 ·obtain rfl:m=n:=by simpa using hm
  exact hn
theorem YF (f:Nat):∀s ns b q,nY f s ns b=some q->s.length<=1048576->(∀n∈ns,Fine n)->q.1.length<=s.length/\∀n∈q.2.1,Fine n:=by
 induction f with
 |zero=>intro s ns b q h;cases h
 |succ f ih=>
  intro s ns b q h hs hf;refine⟨(SL _ _ _ _ _ h).1.rest,?_⟩;rw[nY] at h;split at h
  ·cases h
  ·obtain⟨t,h1,h2⟩:=Option.bind_eq_some_iff.1 h;cases t with
   |some t=>
    injection h2 with h2;subst h2;exact uF hf (YC h1 hs)
   |none=>
    simp only at h2;split at h2
    ·injection h2 with h2;subst h2;exact uF hf (sD (SN 1 (.inr rfl)))
    ·split at h2
     ·injection h2 with h2;subst h2;exact uF hf (sD (SN 0 (.inl rfl)))
     ·split at h2
      ·cases h2
      ·have hd:=(OH s).1;unfold tailA at h2;obtain⟨u,h3,h4⟩:=Option.bind_eq_some_iff.1 h2;obtain⟨x,h5,h6⟩:=Option.bind_eq_some_iff.1 h4
       have a2:(if (aG (placeOf ⟨(kY s).1.toArray⟩)).eH=true then jc jm (kY s).2 else (kY s).2).length<=(kY s).2.length:=by
        split
        ·exact uD _ _
        ·exact Nat.le_refl _
       have a1:=OG h3;have a3:=YE h3 (by omega);have a4:=YD ih _ _ _ _ _ _ h5 (by omega) hf;split at h6
       ·split at h6
        ·injection h6 with h6;subst h6;exact uF a4.2 (sD a3)
        ·cases h6
       ·injection h6 with h6;subst h6;exact uF a4.2 (sD a3)
end Go.Proofs.YtjpbmbgincdjaaaGreatDoor
