/- A part of the proof: Eu. -/
import Derived.Deep.Cut
import Derived.Deep.CutRange
import Derived.Deep.LoopGhost
import Derived.Test.YtkgiaegmkncljaaGreatDoorS01
import Derived.Test.YtkgiaegmkncljaaGreatDoorS27
set_option linter.unusedVariables false
set_option linter.unusedSimpArgs false
set_option maxRecDepth 100000
set_option maxHeartbeats 40000000
namespace Go.Proofs.YtkgiaegmkncljaaGreatDoor
open Go.RowKit
theorem expr_any (w0:World) (hL:LaidE w0) (R:Nat) (hR0:w0.heap.size≤R) (f:Nat):∀(s:List UInt8) (ns:List Nd) (b:Nat) (v:Value) (w:World),Below w0.heap.size w0 w→Blk w R 272 [.string ⟨s.toArray⟩,v,.int .i64 (b:Int)]→
  w.ownsRow (R+1) 59 5 v ns.length (nds ns)→s.length≤1048576→ns.length≤b→b≤60→61≤b+f→Calls Tryz.prog 241 #[.pointer (some ⟨R,0,none⟩)] w (ExPost (parA f s ns b) R v w):=by
 induction f with
 |zero=>intro s ns b v w _ _ _ _ _ h1 h2;omega
 |succ f ih=>
  intro s ns b v w hw0 hR hown hs hns hb hbf;have hz:∀X,Below R w X→Below w0.heap.size w0 X:=fun X k=>hw0.trans (k.mono hR0)
  have hU:∀X,Below R w X→Under R X:=fun X k=>under_of hL hR0 (hz X k)
  have H:XA w R v [] s ns (b+1) v (w.setCell ⟨R,2,none⟩ (.int .i64 ((b:Int)+1))):=⟨hR.set 2 _,own_set hown 2 _,PF.of_onl ((Onl.refl R w).set 2 _),(Below.refl R w).setCell (p:=⟨R,2,none⟩) (Nat.le_refl _) _,fun _ h=>(by cases h),hs,by omega⟩
  have hc:=hR.cells;have hf:=hR.froz;obtain⟨T,hT⟩:=zE (parA (f+1) s ns b);rw[←hT];rw[parA] at hT;have HT:=zH hT;clear hR hown hs hT;obtain⟨B,hB⟩:=zF (b+1);rw[hB] at H HT;have hB1:B≤b+1:=Nat.le_of_eq hB.symm;have hB2:b<B:=by omega
  clear hB;go_enter Tryz.func241,Tryz.ntmps241;rcases (by omega:b=60∨b<60) with rfl|hb
  ·go_wp2;exact⟨rfl,xnone (by rw[HT.out,if_pos hB2]) H.e⟩
  ·have hb1:((b:Int)+1)≤60:=by omega
   go_wp2_with fail;generalize w.setCell _ _=W1 at H⊢;clear hc hf;refine (lit_any s R _ [v,.int .i64 (B:Int)] W1 H.k (hU _ H.e) H.s).mono ?_;have hT:=HT.out;rw[if_neg (by omega)] at hT;clear HT;cases hq:litA s with
   |none=>
    rw[hq] at hT;rintro e w2 ⟨rfl,ho⟩;have HT:=zH hT;clear hT;go_wp2;exact⟨rfl,xnone HT.out (H.e.trans (ho.below (Nat.le_refl _) (Nat.le_of_lt H.k.lt)))⟩
   |some o=>
    rw[hq] at hT;cases o with
    |some q=>
     obtain⟨⟨op,⟨neg,num,den⟩,nm⟩,r⟩:=q;rintro e w2 ⟨⟨rfl,hk⟩,ho⟩;replace H:=H.onl hk ho (litA_len hq);clear hk ho hq;have HT:=zH hT;clear hT;unfold Nd.v;go_wp2_with fail;generalize hX:w2.alloc _=X;replace H:=H.new hX;generalize w2.heap.size=N at H⊢;clear hX;have hc:=H.sp.all;refine reS (SP R N _ _) 10 H.sp (fun w3 h3 hS=>?_);replace H:=H.grow h3
     iterate 6 refine reA ?_
     refine reV 6 (fun _=>hS.alloc _) (fun _=>?_);refine reP 7 info_node Tryz.underlying41 H.o (by omega) (Nat.succ_le_of_lt H.k.lt) (fun v5 w5 ho hg h4 _=>?_);obtain⟨g5,c5,rfl,_⟩:=own_form ho (by omega);refine⟨H.grown hg,fun hS=>?_⟩
     iterate 2 refine reA ?_
     refine reW 10 (fun h=>absurd rfl h) (fun _=>?_);refine reE ?_;go_wp2;go_end0;exact H.fin (n:=⟨op,⟨neg,num,den⟩,nm⟩) hg ho h4 HT.out
    |none=>
     rintro e w2 ⟨⟨rfl,hk⟩,ho⟩;replace H:=H.onl hk ho (Nat.le_refl _);clear hk ho hq;replace HT:=zH hT;clear hT;unfold nd Nd.v zR;simp only
     go_wp2_with fail;generalize hX:w2.alloc _=X;replace H:=H.grow (zA hX).2;clear hX;have hs0:=H.s;refine (H.span lettersL).mono ?_;clear H;rintro e w3 ⟨rfl,H⟩;obtain⟨D,hD⟩:=zF (⟨(spanW lettersL s).toArray⟩:ByteArray);rw[hD]
     go_upto_region 7 with fail
     generalize hW:w3.alloc _=W4;replace H:=H.new hW;generalize w3.heap.size=N4 at H⊢;clear hW;by_cases hy:spanW lettersL s=yesL
     ·have hT:=HT.out;simp only[Option.bind_some,if_pos hy] at hT;replace HT:=zH hT;obtain rfl:(⟨#[121,101,115]⟩:ByteArray)=D:=by rw[←hD,hy];rfl
      have hc4:=H.b0.cells;clear hT hD hy;go_wp2_with fail;refine (qOf_any 0 _ (by omega) (by omega)).mono ?_;rintro e w4 ⟨rfl,hb⟩;clear hc4;replace H:=H.grow hb;have hlt:=H.b0.lt;generalize ofI 0=q0 at HT⊢;obtain⟨an,au,ad⟩:=q0;unfold Ra.v
      go_upto_region 9 with fail
      generalize hX:w4.alloc _=X;replace H:=H.new hX;generalize w4.heap.size=N at H hlt⊢;have hc4:=H.tl.b0.cells;clear hX hb;have hne:∀q∈([(N4,9,[.string (⟨#[121,101,115]⟩:ByteArray)])]:List (Nat × TypeId × List Value)),q.1≠N:=fun q hq=>by rw[List.mem_singleton.1 hq];exact Nat.ne_of_lt hlt
      go_wp2_with fail;refine (qOf_any 1 _ (by omega) (by omega)).mono ?_;rintro e w5 ⟨rfl,hb⟩;clear hc4;replace H:=H.grow hb;generalize ofI 1=q1 at HT⊢;obtain⟨bn,bu,bd⟩:=q1;unfold Ra.v;have hcn:=H.b0.cells;have hfn:=H.b0.froz;replace H:=((H.set 1 (.bool bn) hne).set 2 (.string bu) hne).set 3 (.string bd) hne;simp only[List.set] at H
      go_upto_region 11 with fail
      clear hcn hfn hb;have hc:=H.sp.all;refine reS (SP R N _ _) 10 H.sp (fun w9 h9 hS=>?_);replace H:=H.grow h9
      iterate 6 refine reA ?_
      refine reV 6 (fun _=>hS.alloc _) (fun _=>?_);refine reP 7 info_node Tryz.underlying41 H.o (by omega) (Nat.succ_le_of_lt H.k.lt) (fun v5 w5 ho hg h4 _=>?_);obtain⟨g5,c5,rfl,_⟩:=own_form ho (by omega);refine⟨H.grown hg,fun hS=>?_⟩
      iterate 2 refine reA ?_
      refine reW 10 (fun h=>absurd rfl h) (fun _=>?_);refine reE ?_;go_wp2;go_end0;exact H.fin (n:=⟨4,⟨bn,bu,bd⟩,⟨#[]⟩⟩) hg ho h4 HT.out
     ·by_cases hn:spanW lettersL s=noL
      ·have hT:=HT.out;simp only[Option.bind_some,if_neg hy,if_pos hn] at hT;replace HT:=zH hT;obtain rfl:(⟨#[110,111]⟩:ByteArray)=D:=by rw[←hD,hn];rfl
       have hc4:=H.b0.cells;clear hT hD hy hn;go_wp2_with fail;refine (qOf_any 0 _ (by omega) (by omega)).mono ?_;rintro e w4 ⟨rfl,hb⟩;clear hc4;replace H:=H.grow hb;have hlt:=H.b0.lt;generalize ofI 0=q0 at HT⊢;obtain⟨an,au,ad⟩:=q0;unfold Ra.v
       go_upto_region 9 with fail
       generalize hX:w4.alloc _=X;replace H:=H.new hX;generalize w4.heap.size=N at H hlt⊢;have hc4:=H.tl.b0.cells;clear hX hb
       go_upto_region 11 with fail
       clear hc4;have hc:=H.sp.all;refine reS (SP R N _ _) 10 H.sp (fun w9 h9 hS=>?_);replace H:=H.grow h9
       iterate 6 refine reA ?_
       refine reV 6 (fun _=>hS.alloc _) (fun _=>?_);refine reP 7 info_node Tryz.underlying41 H.o (by omega) (Nat.succ_le_of_lt H.k.lt) (fun v5 w5 ho hg h4 _=>?_);obtain⟨g5,c5,rfl,_⟩:=own_form ho (by omega);refine⟨H.grown hg,fun hS=>?_⟩
       iterate 2 refine reA ?_
       refine reW 10 (fun h=>absurd rfl h) (fun _=>?_);refine reE ?_;go_wp2;go_end0;exact H.fin (n:=⟨4,⟨an,au,ad⟩,⟨#[]⟩⟩) hg ho h4 HT.out
      ·have hT:=HT.out;simp only[Option.bind_some,if_neg hy,if_neg hn] at hT;replace HT:=zH hT;clear hT;have hy1:(D.toList==[121,101,115])=false:=by rw[←hD];exact ba_ne hy
       have hy2:(D.toList==[110,111])=false:=by rw[←hD];exact ba_ne hn
       have hy3:(D.toList==(⟨#[121,101,115]⟩:ByteArray).toList)=false:=by rw[show (⟨#[121,101,115]⟩:ByteArray).toList=[121,101,115] by rw[ByteArray.toList_eq]];exact hy1
       have hy4:(D.toList==(⟨#[110,111]⟩:ByteArray).toList)=false:=by rw[show (⟨#[110,111]⟩:ByteArray).toList=[110,111] by rw[ByteArray.toList_eq]];exact hy2
       have hDs:D.size≤1048576:=by rw[←hD];have:=spanW_len lettersL s;show (spanW lettersL s).length≤_;omega
       have hc4:=H.b0.cells;have hcr:=H.k.cells;have HD:=zH hD;clear hD hy hn;go_wp2_with fail;refine (hasp_at (spanR lettersL s) [46] W4).mono ?_;rintro e w4 ⟨rfl,rfl⟩;clear hc4 hcr hy1 hy2 hy3 hy4;obtain⟨xd,hx⟩:=zF (Lib.hasPrefix (spanR lettersL s) [46]);rw[hx]
       go_upto_if 68 with fail
       go_cut [] from 64 to 72 (fun X=>XA w R v [(N4,9,[.string ⟨(dotA s).1.toArray⟩])] (dotA s).2 ns B v X)
       case first=>
        cases xd
        ·have HA:Hid (dotA s=(spanW lettersL s,spanR lettersL s)):=by unfold dotA;rw[hx];rfl
         go_wp2
         go_meet
         case rel=>rw[HA.out,HD.out];exact H
        ·have HA:Hid (dotA s=(spanW lettersL s++[46],(spanR lettersL s).drop 1)):=by unfold dotA;rw[hx];rfl
         have hQ:D++(⟨#[46]⟩:ByteArray)=⟨(spanW lettersL s++[46]).toArray⟩:=ba_eq (by rw[ba_app,←HD.out]);have hsm:¬(9223372036854775807<D.size+1):=by omega
         go_wp2_with fail;refine (H.want [46]).mono ?_;rintro e w5 (⟨_,rfl,H⟩|⟨h1,_⟩)
         ·have hc4:=H.b0.cells;have hf4:=H.b0.froz;have h5:=H.set 0 (.string (D++(⟨#[46]⟩:ByteArray))) (fun _ h=>by cases h);simp only[hQ] at h5;have H5:=zH h5;clear h5 H;go_wp2
          go_meet
          case rel=>rw[HA.out];exact H5.out
         ·rw[hx] at h1;cases h1
       case rest=>
        clear H hx;have H:=hcut;clear hcut;have hl:=hL.below (hz _ H.e);go_wp2_with fail;refine (placeOf_at ⟨(dotA s).1.toArray⟩ N4 _ 1 0 25 _ H.b0 hl.glob (tab_cells hl)).mono ?_;rintro e w7 ⟨rfl,hb7⟩;replace H:=H.tl.grow hb7;replace hl:=hl.below hb7;clear hb7;have hT:=HT.out;rcases place_neg ⟨(dotA s).1.toArray⟩ with hp|⟨k,hp⟩
        ·rw[hp] at hT⊢;rw[if_pos (by decide)] at hT;have HT:=zH hT;clear hT hp;go_wp2;exact⟨rfl,xnone HT.out H.e⟩
        ·obtain⟨hk25,_,_⟩:=place_spec hp;rw[hp] at hT⊢;rw[if_neg (by omega)] at hT;unfold tailA at hT;generalize hsh:shp (k:Int)=sh at hT;obtain⟨wdl,oo,lit,nam,stp⟩:=sh;have hop:=shp_ops_le (k:Int);rw[hsh] at hop;simp only at hT hop;replace HT:=zH hT;have hc:=fun (X:World) (hX:LaidE X)=>hX.row hk25 hsh
         have ha:=fun o=>hl.alloc o
         have hb:=fun o o'=>(hl.alloc o).alloc o'
         generalize (dotA s).2=sd at*;generalize (⟨wdl.toArray⟩:ByteArray)=wd at hc;clear hT hp hsh
         go_upto_region 18 with fail
         go_cut [7,8] from 80 to 84 (fun v7 v8 X=>∃N M,v7=.pointer (some ⟨N,0,none⟩)∧v8=.pointer (some ⟨M,0,none⟩)∧N≠M∧XA w R v [(N,59,[.int .i64 (k:Int),.bool false,.string ⟨#[]⟩,.string ⟨#[]⟩,.string ⟨#[]⟩]),(M,208,[.string wd,.int .i64 (oo:Int),.bool lit,.bool nam,.bool stp])] sd ns B v X)
         case first=>
          go_region
          ·go_wp2
           go_meet
           case rel=>refine⟨_,_,rfl,rfl,by omega,XA.sw (XA.two H ?_ ?_)⟩<;>rfl
          ·go_wp2
           go_meet
           case rel=>refine⟨_,_,rfl,rfl,by omega,XA.two H ?_ ?_⟩<;>rfl
         case rest=>
          clear H hl hc ha hb;obtain⟨N,M,rfl,rfl,hne,H⟩:=hcut;have hcs:=H.tl.b0.cells;obtain⟨s1,hs1⟩:=zF (if nam=true then spanR namesL sd else sd);obtain⟨nm,hnm⟩:=zF (if nam=true then spanW namesL sd else []);have hT:T=(stpA stp s1).bind fun q=>(opsA (parA f) oo 0 q.2 ns B).bind (tl4 oo (nd (k:Int) q.1 nm)):=by rw[←hs1,←hnm];exact HT.out
          replace HT:=zH hT;clear hT;have hne2:∀q∈([(M,208,[.string wd,.int .i64 (oo:Int),.bool lit,.bool nam,.bool stp])]:List (Nat × TypeId × List Value)),q.1≠N:=fun q hq=>by rw[List.mem_singleton.1 hq];exact Ne.symm hne
          go_upto_if 86 with fail
          go_cut [] from 85 to 89 (fun X=>XA w R v [(N,59,[.int .i64 (k:Int),.bool false,.string ⟨#[]⟩,.string ⟨#[]⟩,.string ⟨nm.toArray⟩]),(M,208,[.string wd,.int .i64 (oo:Int),.bool lit,.bool nam,.bool stp])] s1 ns B v X)
          case first=>
           cases nam
           ·obtain rfl:sd=s1:=hs1;obtain rfl:[]=nm:=hnm;go_wp2
            go_meet
            case rel=>exact H
           ·obtain rfl:spanR namesL sd=s1:=hs1;obtain rfl:spanW namesL sd=nm:=hnm;go_wp2_with fail;refine (H.span namesL).mono ?_;rintro e w9 ⟨rfl,H⟩;have hcn:=H.b0.cells;have hfn:=H.b0.froz;have h4:=zH (H.set 4 (.string ⟨(spanW namesL sd).toArray⟩) hne2);go_wp2
            go_meet
            case rel=>exact h4.out
          case rest=>
           clear H hcs hs1 hnm;have H:=hcut;clear hcut;have hcs:=H.tl.b0.cells
           go_upto_if 91 with fail
           go_cut [] from 90 to 98 (fun X=>∃(a:Ra) (r:List UInt8),Hid (T=(opsA (parA f) oo 0 r ns B).bind (tl4 oo (nd (k:Int) a nm)))∧XA w R v [(N,59,[.int .i64 (k:Int),.bool a.neg,.string a.num,.string a.den,.string ⟨nm.toArray⟩]),(M,208,[.string wd,.int .i64 (oo:Int),.bool lit,.bool nam,.bool stp])] r ns B v X)
           case first=>
            cases stp
            ·go_wp2
             go_meet
             case rel=>exact⟨zR,s1,HT.out,H⟩
            ·go_wp2_with fail;refine (H.want [91]).mono ?_;rintro e w5 (⟨h1,rfl,H⟩|⟨h1,rfl,hb⟩)
             ·clear hcs;go_wp2_with fail;refine (H.num (hU _ H.e)).mono ?_;rintro e w6 (⟨⟨neg,num,den⟩,r,h2,rfl,H⟩|⟨h2,rfl,hb⟩)
              ·unfold Ra.v;have hcn:=H.b0.cells;have hfn:=H.b0.froz;have h4:=((H.set 1 (.bool neg) hne2).set 2 (.string num) hne2).set 3 (.string den) hne2;go_wp2_with fail;refine (h4.want [93]).mono ?_;rintro e w7 (⟨h3,rfl,H⟩|⟨h3,rfl,hb⟩)
               ·have hT:Hid (T=(opsA (parA f) oo 0 (r.drop 1) ns B).bind (tl4 oo (nd (k:Int) ⟨neg,num,den⟩ nm))):=by show T=_;rw[HT.out,stpA_t h1,show numA (s1.drop 1)=_ from h2];simp only[Option.bind_some,h3,if_true,Bool.false_eq_true,if_false,Option.bind_none]
                clear h1 h2 h3 hcn hfn h4;go_wp2
                go_meet
                case rel=>exact⟨_,_,hT.out,H⟩
               ·have hT:Hid (T=none):=by show T=_;rw[HT.out,stpA_t h1,show numA (s1.drop 1)=_ from h2];simp only[Option.bind_some,h3,if_true,Bool.false_eq_true,if_false,Option.bind_none]
                clear h1 h2 h3 hcn hfn h4;go_wp2;exact⟨rfl,xnone hT.out hb⟩
              ·have hT:Hid (T=none):=by show T=_;rw[HT.out,stpA_t h1,show numA (s1.drop 1)=_ from h2];rfl
               clear h1 h2;go_wp2;exact⟨rfl,xnone hT.out hb⟩
             ·have hT:Hid (T=none):=by show T=_;rw[HT.out];unfold stpA;rw[h1];rfl
              clear h1;go_wp2;exact⟨rfl,xnone hT.out hb⟩
           case rest=>
            clear H hcs HT;obtain⟨a,r,HT,H⟩:=hcut;have hcs:=H.tl.b0.cells;have hne3:b<B:=by omega
            have hii:=fun (X:World) (i:Nat) (hi:i<3)=>show (X.alloc (.cells #[.string ⟨#[40]⟩,.string ⟨#[44,32]⟩,.string ⟨#[44,32]⟩] 9)).cell? ⟨X.heap.size,i,none⟩=some (.string ⟨(sepW i).toArray⟩) from by
             rw[(Blk.new X _ _).cells i];rcases (by omega:i=0∨i=1∨i=2) with rfl|rfl|rfl<;>rfl
            go_wp2;clear hcs
            go_loopg [101] oo (fun g iv X=>∃(i:Nat) (s':List UInt8) (ns':List Nd) (b':Nat) (u:Value),i+g=oo∧iv=.int .i64 (i:Int)∧Hid (T=(opsA (parA f) g i s' ns' b').bind (tl4 oo (nd (k:Int) a nm)))∧XA w R v [(N,59,[.int .i64 (k:Int),.bool a.neg,.string a.num,.string a.den,.string ⟨nm.toArray⟩]),(M,208,[.string wd,.int .i64 (oo:Int),.bool lit,.bool nam,.bool stp])] s' ns' b' u X∧Hid (B≤b'∧b'≤60))
            case atStart=>exact⟨0,r,ns,B,v,by omega,rfl,HT.out,H,by omega,by omega⟩
            case round=>
             clear H HT;obtain⟨i,s',ns',b',u,hi,rfl,HT,H,HB⟩:=hrel;by_cases hlt:i<oo
             ·obtain⟨m,rfl⟩:∃m,gk=m+1:=⟨gk-1,by omega⟩
              have hT:T=(if Lib.hasPrefix s' (sepW i) then (parA f (s'.drop (sepW i).length) ns' b').bind fun q=>opsA (parA f) m (i+1) q.1 q.2.1 q.2.2 else none).bind (tl4 oo (nd (k:Int) a nm)):=HT.out;replace HT:=zH hT;have hi3:i<3:=by omega
              have hi4:(i:Int)<3:=by omega
              have hz9:=hii wr i hi3;clear hT hii;go_wp2_with fail;refine ((H.grow (zB _ _)).want (sepW i)).mono ?_;clear hz9 H;rintro e w5 (⟨h1,rfl,H⟩|⟨h1,rfl,hb⟩)
              ·have hT:=HT.out;rw[if_pos h1] at hT;replace HT:=zH hT;clear h1 hT;go_wp2_with fail;refine (ih _ _ _ _ _ (hz _ H.e) H.k H.o H.s H.n HB.out.2 (by have:=HB.out.1;omega)).mono ?_;cases hq:parA f (s'.drop (sepW i).length) ns' b' with
               |none=>
                have hT:=HT.out;rw[hq] at hT;replace HT:=zH hT;clear hT hq;rintro e w6 ⟨rfl,hb⟩;go_wp2;exact⟨rfl,xnone HT.out (H.e.trans hb)⟩
               |some q=>
                have hT:=HT.out;rw[hq] at hT;replace HT:=zH hT;have hpb:=(parA_pb _ _ _ _ _ hq).1;clear hT hq;rintro e w6 ⟨rfl,u',hk,ho,hp⟩;replace H:=H.to hp hk ho hpb.rest (by have:=hpb.nodes;have:=H.n;omega);have HB:Hid (B≤q.2.2∧q.2.2≤60):=⟨by have:=HB.out;have:=hpb.begun;omega,hpb.most⟩
                clear hk ho hp hpb;go_wp2
                go_roundg m
                case measure=>omega
                case rel=>exact⟨i+1,q.1,q.2.1,q.2.2,u',by omega,by go_num,HT.out,H,HB.out⟩
              ·have hT:=HT.out;rw[if_neg (by rw[h1];decide)] at hT;replace HT:=zH hT;clear hT h1;go_wp2;exact⟨rfl,xnone HT.out hb⟩
             ·obtain rfl:gk=0:=by omega
              have hT:T=tl4 oo (nd (k:Int) a nm) (s',ns',b'):=HT.out;have hx1:decide ((i:Int)<oo)=false:=decide_eq_false (by omega);replace HT:=zH hT;have hcs:=H.tl.b0.cells;clear hT hii
              go_upto_if 115 with fail
              go_cut [] from 113 to 117 (fun X=>∃s2,Hid (T=some (s2,ns'++[nd (k:Int) a nm],b'))∧XA w R v [(N,59,[.int .i64 (k:Int),.bool a.neg,.string a.num,.string a.den,.string ⟨nm.toArray⟩]),(M,208,[.string wd,.int .i64 (oo:Int),.bool lit,.bool nam,.bool stp])] s2 ns' b' u X)
              case first=>
               clear hx1 hcs;rcases Nat.eq_zero_or_pos oo with ho|ho
               ·have hT:Hid (T=some (s',ns'++[nd (k:Int) a nm],b')):=by show T=_;rw[HT.out];unfold tl4;rw[if_neg (by omega)]
                go_wp2
                go_meet
                case rel=>exact⟨s',hT.out,H⟩
               ·go_wp2_with fail;refine (H.want [41]).mono ?_;rintro e w8 (⟨h1,rfl,H⟩|⟨h1,rfl,hb⟩)
                ·have hT:Hid (T=some (s'.drop 1,ns'++[nd (k:Int) a nm],b')):=by show T=_;rw[HT.out];unfold tl4;rw[if_pos ho,if_pos h1]
                 clear h1;go_wp2
                 go_meet
                 case rel=>exact⟨_,hT.out,H⟩
                ·have hT:Hid (T=none):=by show T=_;rw[HT.out];unfold tl4;rw[if_pos ho,if_neg (by rw[h1];decide)]
                 clear h1;go_wp2;exact⟨rfl,xnone hT.out hb⟩
              case rest=>
               clear hx1 hcs H HT;obtain⟨s2,HT,H⟩:=hcut;obtain⟨neg,num,den⟩:=a;have hc:=H.sp.all;have hbb:=HB.out.2
               go_upto_region 33 with fail
               refine reS (SP R N _ _) 10 H.sp (fun w3 h3 hS=>?_);replace H:=H.grow h3
               iterate 6 refine reA ?_
               refine reV 6 (fun _=>hS.alloc _) (fun _=>?_);refine reP 7 info_node Tryz.underlying41 H.o (by have:=H.n;omega) (Nat.succ_le_of_lt H.k.lt) (fun v5 w5 ho hg h4 _=>?_);obtain⟨g5,c5,rfl,_⟩:=own_form ho (by omega);refine⟨H.grown hg,fun hS=>?_⟩
               iterate 2 refine reA ?_
               refine reW 10 (fun h=>absurd rfl h) (fun _=>?_);refine reE ?_;go_wp2;go_end0;exact H.fin (n:=nd (k:Int) ⟨neg,num,den⟩ nm) hg ho h4 HT.out
theorem numA_fine {s:List UInt8} {a:Ra} {r:List UInt8} (h:numA s=some (a,r)) (hs:s.length≤1048576):a.num.size≤1048576∧a.den.size≤1048576:=by
 unfold numA at h;split at h
 ·next hp=>
  injection h with h;injection h with h1 _;have hw:=spanW_len numL s;rw[←h1];generalize spanW numL s=x at*;unfold ratParse at*;simp only at*;split
  ·obtain⟨hc1,hc2⟩:=cut_len (Lib.trimPrefix x [45]) [47];have htl:=trimPrefix_len x [45];have h1:=natParse_size (cutR x).2.1;have h2:=natParse_size (cutR x).2.2;have e1:(cutR x).2.1.length≤1048576:=by unfold cutR;simp only;omega
   have e2:(cutR x).2.2.length≤1048576:=by
    unfold cutR;simp only
    split
    ·omega
    ·simp
   exact mkR_size _ _ _ 1048576 (by omega) (by omega)
  ·exact⟨Nat.zero_le _,Nat.zero_le _⟩
 ·cases h
theorem fine_nd {k:Int} {a:Ra} {nm:List UInt8} (h:a.num.size≤1048576∧a.den.size≤1048576):Fine (nd k a nm):=h
theorem fine_of (n:Int) (h:n=0∨n=1):(ofI n).num.size≤1048576∧(ofI n).den.size≤1048576:=by
 rcases h with rfl|rfl<;>decide+kernel
theorem litA_fine {s:List UInt8} {q:Nd × List UInt8} (h:litA s=some (some q)) (hs:s.length≤1048576):Fine q.1:=by
 unfold litA at h;split at h
 ·cases hn:numA (s.drop 1) with
  |none=>rw[hn] at h;cases h
  |some ar=>
   rw[hn] at h;injection h with h;injection h with h;rw[←h];exact fine_nd (numA_fine (a:=ar.1) (r:=ar.2) hn (by have:=drop_len s 1;omega))
 ·split at h
  ·cases h
  ·cases hn:numA s with
   |none=>rw[hn] at h;cases h
   |some ar=>
    rw[hn] at h;have h1:=numA_fine (a:=ar.1) (r:=ar.2) hn hs;simp only[Option.map_some] at h;split at h
    ·injection h with h;injection h with h;rw[←h];exact fine_nd h1
    ·injection h with h;injection h with h;rw[←h];exact fine_nd h1
theorem opsA_fine {p:List UInt8→List Nd→Nat→Option PS} (hp:∀s ns b q,p s ns b=some q→s.length≤1048576→(∀n∈ns,Fine n)→q.1.length≤s.length∧∀n∈q.2.1,Fine n) (m:Nat):
  ∀k s ns b q,opsA p m k s ns b=some q→s.length≤1048576→(∀n∈ns,Fine n)→q.1.length≤s.length∧∀n∈q.2.1,Fine n:=by
 induction m with
 |zero=>
  intro k s ns b q h hs hf;injection h with h;subst h;exact⟨Nat.le_refl _,hf⟩
 |succ m ih=>
  intro k s ns b q h hs hf;rw[opsA] at h;split at h
  ·obtain⟨t,h1,h2⟩:=Option.bind_eq_some_iff.1 h;have hd:=drop_len s (sepW k).length;have p1:=hp _ _ _ _ h1 (by omega) hf;have p2:=ih _ _ _ _ _ h2 (by omega) p1.2;exact⟨by omega,p2.2⟩
  ·cases h
theorem stpA_fine {y:Bool} {s:List UInt8} {q:Ra × List UInt8} (h:stpA y s=some q) (hs:s.length≤1048576):q.1.num.size≤1048576∧q.1.den.size≤1048576:=by
 unfold stpA at h;split at h
 ·split at h
  ·obtain⟨t,h1,h2⟩:=Option.bind_eq_some_iff.1 h;split at h2
   ·injection h2 with h2;have hd:=drop_len s 1;rw[←h2];exact numA_fine (a:=t.1) (r:=t.2) h1 (by omega)
   ·cases h2
  ·cases h
 ·injection h with h;rw[←h];exact⟨Nat.zero_le _,Nat.zero_le _⟩
theorem fine_snoc {ns:List Nd} {n:Nd} (h:∀m∈ns,Fine m) (hn:Fine n):∀m∈ns++[n],Fine m:=by
 intro m hm;rcases List.mem_append.1 hm with hm|hm
 ·exact h m hm
 ·obtain rfl:m=n:=by simpa using hm
  exact hn
theorem parA_fine (f:Nat):∀s ns b q,parA f s ns b=some q→s.length≤1048576→(∀n∈ns,Fine n)→q.1.length≤s.length∧∀n∈q.2.1,Fine n:=by
 induction f with
 |zero=>intro s ns b q h;cases h
 |succ f ih=>
  intro s ns b q h hs hf;refine⟨(parA_pb _ _ _ _ _ h).1.rest,?_⟩;rw[parA] at h;split at h
  ·cases h
  ·obtain⟨t,h1,h2⟩:=Option.bind_eq_some_iff.1 h;cases t with
   |some t=>
    injection h2 with h2;subst h2;exact fine_snoc hf (litA_fine h1 hs)
   |none=>
    simp only at h2;split at h2
    ·injection h2 with h2;subst h2;exact fine_snoc hf (fine_nd (fine_of 1 (.inr rfl)))
    ·split at h2
     ·injection h2 with h2;subst h2;exact fine_snoc hf (fine_nd (fine_of 0 (.inl rfl)))
     ·split at h2
      ·cases h2
      ·have hd:=(dotA_len s).1;unfold tailA at h2;obtain⟨u,h3,h4⟩:=Option.bind_eq_some_iff.1 h2;obtain⟨x,h5,h6⟩:=Option.bind_eq_some_iff.1 h4
       have a2:(if (shp (placeOf ⟨(dotA s).1.toArray⟩)).nam=true then spanR namesL (dotA s).2 else (dotA s).2).length≤(dotA s).2.length:=by
        split
        ·exact spanR_len _ _
        ·exact Nat.le_refl _
       have a1:=stpA_len h3;have a3:=stpA_fine h3 (by omega);have a4:=opsA_fine ih _ _ _ _ _ _ h5 (by omega) hf;split at h6
       ·split at h6
        ·injection h6 with h6;subst h6;exact fine_snoc a4.2 (fine_nd a3)
        ·cases h6
       ·injection h6 with h6;subst h6;exact fine_snoc a4.2 (fine_nd a3)
end Go.Proofs.YtkgiaegmkncljaaGreatDoor
