/- A part of the proof: Wi Wj Uo Up Uu Uf. -/
import Derived.Test.YtimokmplkpbmdaaGreatDoorQ35
set_option linter.all false
set_option maxRecDepth 100000
set_option maxHeartbeats 0
namespace Go.Proofs.YtimokmplkpbmdaaGreatDoor
open Go.RowKit
theorem Ig:(Tryz.prog.info? 36).map (fun i=>(i.zero,i.size,i.bytes))=some (some (.agg #[.string ⟨#[]⟩,.bool false,.int .i64 0,.int .i64 0]),4,40):=by kernel_rfl
theorem Yh:(Tryz.prog.info? 39).map (fun i=>(i.zero,i.size,i.bytes))=some (some (.agg #[.string ⟨#[]⟩,.int .i64 0,.int .i64 0,.slice none 0 0]),4,56):=by kernel_rfl
theorem La:(Tryz.prog.info? 45).map (fun i=>(i.zero,i.size,i.bytes))=some (some (.agg #[.string ⟨#[]⟩,.bool false,.int .i64 0,.int .i64 0,.slice none 0 0,.bool false,.bool false,.string ⟨#[]⟩,.string ⟨#[]⟩,.bool false,.string ⟨#[]⟩,.string ⟨#[]⟩]),12,152):=by kernel_rfl
theorem agk (fs:List Dc) (ss:List (Sc × Hd)) (ps:List (Pv × Hd)):fs.map jd++(mX ps 0++ss.map fun x=>kY x.1)=dW (zx fs ss ps):=by
 unfold mX dW zx;simp only[List.map_map,List.append_assoc]
 rfl
theorem aiT {x:Pv × Hd} (h:x.1.ty=bT∨(x.1.ty=bG/\x.1.name=Rl)):jh 5 x.1.ty.truth x.1.ty.aN x.1.ty.days:=by
 rcases h with h|⟨h,_⟩<;>rw[h]
 ·exact .inr ⟨rfl,.inl ⟨by omega,.inl ⟨rfl,rfl⟩⟩⟩
 ·exact .inl ⟨by omega,rfl,rfl,rfl⟩
def afz (w:World) (e:Ending) (w':World):Prop:=∃(l:Lw) (ss:List (Sc × Hd)) (ps:List (Pv × Hd)) (f s p:Hd),e=.returned (dR f s p)/\ET l/\LO w' w.heap.size l ss ps f s p/\Below w.heap.size w w'
theorem Qb (xs:List (List Int × Hd)) (hh:Hd) (w:World) (hr:aJ w vk xs hh) (hq:∀r∈xs,IR w w.heap.size r):
  Calls Tryz.prog 21 #[.slice hh.a hh.n hh.c] w (afz w):=by
 go_enter Tryz.func21,Tryz.ntmps21
 go_upto_region 1 with fail
 generalize hW:w.alloc _=W;obtain⟨h0,hb⟩:=zA hW;clear hW;go_wp2_with fail;refine (KA xs hh 0 w.heap.size W (hr.below hb) (fun r hm=>(hq r hm).below hb)).mono ?_;rintro e w1 ⟨r,rfl,hir,rfl⟩
 go_upto_region 2 with fail
 generalize hX:W.alloc _=W1;obtain⟨hd0,hg⟩:=zA hX;have hds:DS W1 W.heap.size (W.heap.size+1):=⟨_,_,_,_,0,⟨hd0,hir.len,Nat.le_trans hir.cap hir.max,hir.rd.below hg,hir.rng,fun hn ad e=>by have:=hir.lt hn ad e;have:=hb.size;omega,Nat.zero_le _⟩,Nat.lt_succ_self _,fun hn ad e=>by have:=hir.lt hn ad e;have:=hb.size;omega⟩
 have h0D:=h0.lt;replace h0:=h0.below hg h0.lt;have hb1:=ah hb hg;have Rn:=hd0.lt;clear hX hg hd0 hir;generalize W.heap.size=D at hds h0D Rn⊢;clear hb;go_wp2_with fail;refine (oM 1 0 W1).mono ?_;rintro e w2 ⟨rfl,hb2⟩
 go_upto_region 3 with fail
 generalize hX:w2.alloc _=W2;obtain⟨hm,hg⟩:=zA hX;have hb3:=ah hb2 hg;replace hds:=hds.below hb3;replace h0:=h0.below hb3 h0.lt;replace hb1:=ah hb1 hb3;replace Rn:D<w2.heap.size:=Nat.lt_of_lt_of_le Rn hb2.size;clear hX hg hb2 hb3;generalize w2.heap.size=M at hm Rn⊢;go_wp2_with fail;refine (oM 0 0 W2).mono ?_;rintro e w3 ⟨rfl,hb2⟩;replace hds:=hds.below hb2;replace h0:=h0.below hb2 h0.lt;replace hm:=hm.below hb2 hm.lt;replace hb1:=ah hb1 hb2;clear hb2
 go_upto_region 4 with fail
 generalize hX:(w3.alloc _).alloc _=X;have h:=MZ.first hds h0 hm hb1 h0D Rn ⟨⟨#[97,103,101]⟩,⟨false,0,0⟩⟩ hX
 clear hX hds h0 hm hb1 h0D Rn;generalize w3.heap.size+1=L at h⊢;generalize w3.heap.size+2=U at h;generalize (Value.slice (some ⟨w3.heap.size,0,none⟩) 1 1)=fv at h;go_wp2_with fail;refine (h.next 4 (by omega) (by omega)).mono ?_;rintro e w1 ⟨r1,hr1,rfl,h',_⟩;clear h hr1
 go_upto_if 28 with fail
 go_cut [] from 28 to 35 (fun X=>∃U fs fv,fs.length<=2/\Hid (ES (fs++[⟨tJ,bT⟩]))/\MZ w X D M L 0 U fs [] [] fv (.slice none 0 0) (.slice none 0 0))
 case first=>
  have hc:=h'.cells;go_wp2_with (at_builtin;go_must (refine zPg Ig Tryz.underlying24 h'.f (by simp) h'.hB ?_))
  ·intro v' w2 ho hg;obtain⟨A1,c1,rfl,_⟩:=bY ho;have kL:=(TF.grown h'.f hg).blk h'.b (by decide);have cL:=kL.cells;have fL:=kL.aI;go_wp2
   go_meet
   case rel=>exact⟨_,_,_,by simp,(show Hid (ES ([⟨⟨#[97,103,101]⟩,⟨false,0,0⟩⟩,⟨⟨#[114,101,110,116]⟩,⟨false,1,0⟩⟩]++[⟨tJ,bT⟩])) from aiQ),h'.DU ⟨⟨#[114,101,110,116]⟩,⟨false,1,0⟩⟩ ho hg⟩
  ·go_meet
   case rel=>exact⟨_,_,_,by simp,(show Hid (ES ([⟨⟨#[97,103,101]⟩,⟨false,0,0⟩⟩]++[⟨tJ,bT⟩])) from aiP),h'⟩
 case rest=>
  clear h';obtain⟨U,fs,fv,hf,pF,h⟩:=hcut;have hc:=h.cells;go_wp2_with (at_builtin;go_must (refine zPg Ig Tryz.underlying24 h.f (by omega) h.hB ?_));intro v' w2 ho hg;obtain⟨A1,c1,rfl,_⟩:=bY ho;have kL:=(TF.grown h.f hg).blk h.b (by decide);have cL:=kL.cells;have fL:=kL.aI
  go_upto_region 7 with fail
  have h':=h.DU ⟨⟨#[119,97,103,101]⟩,⟨false,1,0⟩⟩ ho hg;have hf3:(fs++[(⟨⟨#[119,97,103,101]⟩,⟨false,1,0⟩⟩:Dc)]).length<=3:=by rw[List.length_append];simp;omega
  generalize World.setCell w2 _ _=Y at h'⊢;replace pF:Hid (ES (fs++[(⟨⟨#[119,97,103,101]⟩,⟨false,1,0⟩⟩:Dc)])):=pF;generalize fs++[(⟨⟨#[119,97,103,101]⟩,⟨false,1,0⟩⟩:Dc)]=fs at h' hf3 pF;clear h hc kL cL fL ho hg hf;generalize (Value.slice A1 _ c1)=fv at h';generalize w2.heap.size=U at h';have hc:=fun X (h:MZ w X D M L 0 U fs [] [] fv (.slice none 0 0) (.slice none 0 0))=>h.cells
  refine dN (fun X=>MZ w X D M L 0 U fs [] [] fv (.slice none 0 0) (.slice none 0 0)) 7 (h'.below (ak _ _ 1)) (fun w1 _ h=>?_);have Bj:=zH h.hB
  iterate 3 refine aW ?_
  refine cO 3 (Bh D (D+1) true w1 h.ds h.Ye) ?_;rintro e w2 ⟨b1,l1,rfl,hg1,hq1,hd1,ho1⟩;have rU:=zH (bW hq1 Bj.out);have xZ:Hid (KC [(⟨⟨#[98,97,115,105,99]⟩,1,0,l1⟩,b1)]):=aiR hg1 b1;have HG1:=zH hg1;clear hg1 hq1;refine⟨_,rfl,h.dG hd1 ho1,fun h=>?_⟩;refine aG 4 ?_;refine iy 5 (fun _=>h.below (zB _ _)) (fun _=>?_);refine aG 6 ?_;generalize hX:w2.alloc _=X;have hx:=(h.below (zA hX).2).b;have cL:=hx.cells;have fL:=hx.aI;refine iL 7 (fun h=>absurd rfl h) (fun _=>?_);refine dH ?_;have k:=h.agh (⟨⟨#[98,97,115,105,99]⟩,1,0,l1⟩,b1) rU.out hX;generalize World.setCell X _ _=Y at k⊢;generalize w2.heap.size+1=U2 at k;generalize (Value.slice (some ⟨w2.heap.size,0,none⟩) 1 1)=sv at k;clear hc h' h hX hx cL fL hd1 ho1;go_wp2_with fail;refine (k.next 2 (by omega) (by omega)).mono ?_;rintro e w3 ⟨r2,hr2,rfl,h,_⟩;clear k hr2
  go_upto_if 52 with fail
  go_cut [] from 52 to 62 (fun X=>∃U ss sv,ss.length<=2/\Hid (KC ss)/\MZ w X D M L 0 U fs ss [] fv sv (.slice none 0 0))
  case first=>
   go_wp2
   ·have hc:=fun X (h:SZ L M fv sv (.slice none 0 0) X)=>h.cells
    refine dN (SZ L M fv sv (.slice none 0 0)) 10 (h.below (ak _ _ 1)).sz (fun w1 h1 hS=>?_);replace h:=h.below h1;have Bj:=zH h.hB
    iterate 5 refine aW ?_
    refine cO 5 (Bh D (D+1) false w1 h.ds h.Ye) ?_;rintro e w2 ⟨b2,l2,rfl,hg2,hq2,hd1,ho1⟩;have xK:=zH (bW hq2 Bj.out);have HS2:=zH (aiS HG1.out hg2 b1 b2);clear hg2 hq2;replace h:=h.dG hd1 ho1;refine⟨_,rfl,h.sz,fun hS=>?_⟩;refine aG 6 ?_;refine iy 7 (fun _=>(h.below (zB _ _)).sz) (fun _=>?_);refine y9 8 Yh Tryz.underlying25 h.s (by simp) h.hB (fun v' w4 ho hg _ _=>⟨h.sz.tf (TF.grown h.s hg) (by decide) (by decide),fun hS=>?_⟩);obtain⟨A1,c1,rfl,_⟩:=bY ho;have cL:=hS.1.cells;have fL:=hS.1.aI;refine aG 9 ?_;refine iL 10 (fun h=>absurd rfl h) (fun _=>?_);refine dH ?_;go_wp2
    go_meet
    case rel=>exact⟨_,_,_,by simp,HS2,h.UU (⟨⟨#[101,120,116,114,97]⟩,1,0,l2⟩,b2) xK.out ho hg⟩
   ·go_meet
    case rel=>exact⟨_,_,_,by simp,xZ,h⟩
  case rest=>
   clear h xZ HG1 rU;obtain⟨U,ss,sv,hs2,xZ,h⟩:=hcut
   go_upto_region 11 with fail
   generalize hX:wc.alloc _=X;have h':=h.names hX;have hN0:wc.heap.size≠0:=by have:=h.hL;have:=h.hU;have:=h.hW;omega
   generalize wc.heap.size=N at h' hN0⊢;clear h hX;go_wp2
   go_loopg [7] 6 (fun g iv wr=>∃(i:Nat) (ps:List (Pv × Hd)) (pv:Value) (U:Nat),i+g=6/\iv=.int .i64 i/\MZ w wr D M L N U fs ss ps fv sv pv/\Pk i ps/\Hid (∀x∈ps,dZ x.1=true))
   case atStart=>exact⟨0,[],_,_,by omega,rfl,h',Pk.zero,fun _ h=>by cases h⟩
   case round=>
    clear h';obtain⟨i,ps,pv,U,hi,rfl,h,hp,CX⟩:=hrel;by_cases hlt:i<6
    ·have GH:i<six.length:=hlt;have hc:=fun X (h:MZ w X D M L N U fs ss ps fv sv pv)=>And.intro (h.nm hN0 GH) h.cells
     obtain⟨s,hs⟩:=zE (six[i]'GH);rw[<-hs] at hc;have HS:=zH hs;clear hs;have i0:(0:Int)<=(i:Int):=by omega
     have i1:(i:Int)<6:=by omega
     go_upto_region 14 with fail
     refine dN (fun X=>MZ w X D M L N U fs ss ps fv sv pv) 6 (h.below (ak _ _ 1)) (fun w1 _ h=>?_)
     iterate 5 refine aW ?_
     refine iy 5 (fun _=>h.below (zB _ _)) (fun _=>?_);refine iL 6 (fun h=>absurd rfl h) (fun _=>?_);refine dH ?_;clear hc;generalize hX:w1.alloc _=X;obtain⟨hP0,hb⟩:=zA hX;have k:=h.up.low hb;clear hX h hb;generalize w1.heap.size=P at hP0 k⊢;obtain⟨x,hx1,hx2,hP⟩:∃x:Pv × Hd,x.1.name=s/\Hid (PkL x/\x.1.dS=false)/\aj X P 45 (aA x):=⟨(⟨s,⟨false,1,0⟩,false,⟨false,⟨#[]⟩,⟨#[]⟩⟩,⟨false,⟨#[]⟩,⟨#[]⟩⟩,[]⟩,⟨none,0,0⟩),rfl,⟨⟨⟨.inl rfl,fun h=>by cases h⟩,(show dZ _=true from by unfold dZ zR;simp),rfl,rfl⟩,rfl⟩,hP0⟩
     clear hP0;have HX:=zH hx1;clear hx1
     go_upto_region 15 with fail
     go_cut [81] from 73 to 80 (fun bv Y=>(∃b,bv=.bool b/\Hid (b=true->s=Rl))/\MZ w Y D M L N P fs ss ps fv sv pv/\aj Y P 45 (aA x))
     case first=>
      have hn:=k.nm hN0 GH;rw[<-HS.out] at hn;by_cases he:s=⟨#[116,104,114,101,115,104,111,108,100]⟩
      ·subst he;go_wp2_with fail;refine (k.next 2 (by omega) (by omega)).mono ?_;rintro e w2 ⟨r3,_,rfl,k',ho⟩;have hP':=ho.blk hP (by have:=k.hM;have:=k.hL;have:=k.hU;omega);clear k hP;go_wp2
       all_goals
        go_meet
        case rel=>exact⟨⟨_,rfl,fun _=>rfl⟩,k',hP'⟩
      ·have he1:=(DX he).1;have he2:=(DX he).2;go_wp2
       go_meet
       case rel=>exact⟨⟨_,rfl,fun h=>by cases h⟩,k,hP⟩
     case rest=>
      clear k hP;obtain⟨⟨b,rfl,qI⟩,k,hP⟩:=hcut
      go_upto_if 81 with fail
      go_cut [] from 82 to 83 (fun Y=>∃x:Pv × Hd,Hid (x.1.name=s)/\Hid (PkL x/\x.1.dS=false)/\MZ w Y D M L N P fs ss ps fv sv pv/\aj Y P 45 (aA x))
      case first=>
       cases b
       ·go_wp2
        go_meet
        case rel=>exact⟨x,HX,hx2,k,hP⟩
       ·go_wp2_with fail;refine (Az wc).mono ?_;rintro e w2 ⟨rfl,hb⟩;have hP':=hP.below hb hP.lt;have k':=k.below hb;have cP:=hP'.cells;have fP:=hP'.aI;unfold aA at cP;clear k hP hb;go_wp2
        go_meet
        case rel=>exact⟨({x.1 with ty:=⟨true,0,0⟩},x.2),HX,⟨⟨⟨.inr ⟨rfl,HX.out.trans (qI.out trivial)⟩,fun h=>by have h2:=hx2.out.2;rw[show x.1.dS=true from h] at h2;cases h2⟩,hx2.out.1.2⟩,hx2.out.2⟩,k'.at ((((aF.refl _ _).set 1 _).set 2 _).set 3 _),((hP'.set 1 _).set 2 _).set 3 _⟩
      case rest=>
       clear HX hx2 k hP x qI;obtain⟨x,HX,hx2,k,hP⟩:=hcut;have hn:=k.nm hN0 GH;rw[<-HS.out] at hn
       go_upto_region 17 with fail
       go_cut [93] from 84 to 92 (fun bv Y=>(∃b,bv=.bool b/\Hid (b=true->s≠Rl))/\Y=wc)
       case first=>
        by_cases he:s=⟨#[116,97,120]⟩
        ·subst he;go_wp2
         go_meet
         case rel=>exact⟨⟨_,rfl,fun _=>by decide⟩,rfl⟩
        ·have he1:=(DX he).1;have he2:=(DX he).2;by_cases hf:s=⟨#[116,111,116,97,108]⟩
         ·subst hf;go_wp2
          go_meet
          case rel=>exact⟨⟨_,rfl,fun _=>by decide⟩,rfl⟩
         ·have hf1:=(DX hf).1;have hf2:=(DX hf).2;go_wp2
          go_meet
          case rel=>exact⟨⟨_,rfl,fun h=>by cases h⟩,rfl⟩
       case rest=>
        obtain⟨⟨b2,rfl,jg⟩,rfl⟩:=hcut;clear hn
        go_upto_if 93 with fail
        go_cut [] from 94 to 97 (fun Y=>∃x:Pv × Hd,Hid (x.1.name=s)/\Hid (PkL x)/\MZ w Y D M L N P fs ss ps fv sv pv/\aj Y P 45 (aA x))
        case first=>
         cases b2
         ·go_wp2
          go_meet
          case rel=>exact⟨x,HX,hx2.out.1,k,hP⟩
         ·go_wp2_with fail;refine (k.next 3 (by omega) (by omega)).mono ?_;rintro e w2 ⟨r3,_,rfl,k',ho⟩;have hP':=ho.blk hP (by have:=k.hM;have:=k.hL;have:=k.hU;omega);have cP:=hP'.cells;have fP:=hP'.aI;unfold aA at cP;clear k hP ho;go_wp2
          go_meet
          case rel=>exact⟨({x.1 with dS:=decide (0<r3)},x.2),HX,⟨⟨hx2.out.1.1.1,fun _=>hx2.out.1.1.1.resolve_right (fun h=>jg.out trivial (HX.out.symm.trans h.2))⟩,hx2.out.1.2⟩,k'.at ((aF.refl _ _).set 5 _),hP'.set 5 _⟩
        case rest=>
         clear HX hx2 k hP x jg;obtain⟨x,HX,hx2,k,hP⟩:=hcut
         go_upto_region 19 with fail
         go_cut [104] from 98 to 103 (fun bv Y=>(∃b,bv=.bool b/\Hid (i=3->b=true))/\MZ w Y D M L N P fs ss ps fv sv pv/\aj Y P 45 (aA x))
         case first=>
          by_cases h3:i=3
          ·subst h3;go_wp2
           go_meet
           case rel=>exact⟨⟨true,rfl,fun _=>rfl⟩,k,hP⟩
          ·have h3b:((i:Int)==3)=false:=beq_eq_false_iff_ne.2 (by omega);have h3c:¬(i:Int)=3:=by omega
           go_wp2_with fail;refine (k.next 5 (by omega) (by omega)).mono ?_;rintro e w2 ⟨r3,_,rfl,k',ho⟩;have hP':=ho.blk hP (by have:=k.hM;have:=k.hL;have:=k.hU;omega);clear k hP ho;go_wp2
           go_meet
           case rel=>exact⟨⟨_,rfl,fun h=>absurd h h3⟩,k',hP'⟩
         case rest=>
          clear k hP;obtain⟨⟨b3,rfl,h3⟩,k,hP⟩:=hcut;have cP:=hP.cells;unfold aA at cP;have hc:=k.cells;cases b3
          ·go_wp2
           go_roundg (6-(i+1))
           case measure=>omega
           case rel=>exact⟨i+1,_,_,_,by omega,by go_num,k,hp.skip GH (fun e=>by have:=h3.out e;cases this),CX⟩
          ·go_wp2_with (at_builtin;go_must (refine zPg La Tryz.underlying26 k.p (by have:=hp.len;omega) k.hB ?_));intro v' w2 ho hg;obtain⟨A1,c1,rfl,_⟩:=bY ho;have kL:=(TF.grown k.p hg).blk k.b (by decide);have cL:=kL.cells;have fL:=kL.aI;go_wp2
           go_roundg (6-(i+1))
           case measure=>omega
           case rel=>exact⟨i+1,_,_,_,by omega,by go_num,k.pushP x hx2.out.2.2 ho hg,hp.push GH x (HX.out.trans HS.out) hx2.out.1,fun y hy=>(List.mem_append.1 hy).elim (CX.out y) (fun e=>by rw[List.mem_singleton.1 e];exact hx2.out.2.1)⟩
    ·obtain rfl:i=6:=by omega
     go_wp2_with fail;refine (h.next 8 (by omega) (by omega)).mono ?_;rintro e w1 ⟨kd,hkd,rfl,k,_⟩;clear h;obtain⟨f9,s9,p9,rfl,rfl,rfl,rf,rs,rp⟩:=k.rows;have hc:=k.cells;go_wp2_with fail;have xg:=Xz fs ss ps f9 s9 p9 w1 rf rs rp (by omega) (by omega) (by have:=hp.len;omega);rw[agk] at xg;have HN:=zH (nmG pF.out xZ.out hp);have hj0:Ic (dW (zx fs ss ps)) fs ss ps 0:=⟨hp,rfl,fun _ _ h=>absurd h (Nat.not_lt_zero _),CX.out⟩
     have zn:=zH HN.out.key;have jw:=zH HN.out.nok
     have hsl:(dW (zx fs ss ps)).length<=1000:=by
      obtain⟨n1,n2,n3⟩:=HN.out.len;unfold dW;simp only[List.length_append,List.length_map]
      omega
     have hne:=hp.ne (by omega);have aiU:=hp.len;clear HN CX hp;generalize dW (zx fs ss ps)=sg at*;refine xg.mono ?_;rintro e w2 ⟨av,rfl,hso,hb⟩;have h:=k.below hb;have hso:w2.ownsRow (M+1) 102 5 av sg.length (jf sg):=bW hso k.hB;clear k hc hb rf rs rp xg;obtain⟨g,pc,hpv⟩:=h.pnn hne;rw[hpv] at h⊢;clear hpv p9;obtain⟨Aa,ca,rfl,_⟩:=bY hso;obtain⟨n0,hn0⟩:=zE ps.length;rw[<-hn0] at h⊢;have hnp:n0<=6:=by omega
     clear hne aiU;go_wp2
     go_loopg [11] n0 (fun q iv wr=>∃(j U:Nat) (ps:List (Pv × Hd)),j+q=n0/\iv=.int .i64 j/\MZ w wr D M L N U fs ss ps (.slice f9.a f9.n f9.c) (.slice s9.a s9.n s9.c) (.slice (some ⟨g,0,none⟩) n0 pc)/\Ic sg fs ss ps j/\ps.length=n0/\wr.ownsRow (M+1) 102 5 (.slice Aa sg.length ca) sg.length (jf sg))
     case atStart=>exact⟨0,_,ps,by omega,rfl,h,hj0,hn0.symm,hso⟩
     case round=>
      clear h hj0 hso hn0 U;obtain⟨j,U,ps,hj,rfl,h,hp,hpl,hso⟩:=hrel;by_cases hlt:j<n0
      ·have hjp:j<ps.length:=by omega
       have hc:=fun X (h:MZ w X D M L N U fs ss ps (.slice f9.a f9.n f9.c) (.slice s9.a s9.n s9.c) (.slice (some ⟨g,0,none⟩) n0 pc))=>And.intro (h.pc hjp) h.cells
       have HT:=zH (hp.k.ty _ (List.getElem_mem hjp));obtain⟨x,hx⟩:=zE ps[j];rw[<-hx] at hc HT;have HX:=zH hx;clear hx;have j0:(0:Int)<=(j:Int):=by omega
       have j1:(j:Int)<(n0:Int):=by omega
       have hw:IntKind.i64.wrap ((j:Int)+1)=(j:Int)+1:=IntWalk.i64_in _ (by omega);have hl0:=hc _ h
       go_upto_region 26 with fail
       clear hl0;refine dN (fun X=>MZ w X D M L N U fs ss ps (.slice f9.a f9.n f9.c) (.slice s9.a s9.n s9.c) (.slice (some ⟨g,0,none⟩) n0 pc)) 26 (h.below (ak _ _ 1)) (fun w3 h3 h=>?_);replace hso:=own_below hso h3
       iterate 12 refine aW ?_
       refine aG 13 ?_;refine aG 14 ?_;refine aG 15 ?_;refine aG 16 ?_;refine aG 17 ?_;refine aG 18 ?_;refine aG 19 ?_;refine aG 20 ?_;refine aG 21 ?_;refine cO 12 (Qa sg Aa sg.length ca _ _ w3 rfl hsl (nG hso).2.2.2) ?_;rintro e w4 ⟨v2,sg2,rfl,hl2,hsub,ho2,hb2⟩;replace hso:=own_below hso hb2;obtain⟨A2,c2,rfl,_⟩:=bY ho2;refine⟨_,rfl,h.below hb2,fun h=>?_⟩;clear hb2 h3;refine cO 22 (KA xs hh (j+1) w.heap.size w4 (hr.below h.on) (fun r hm=>(hq r hm).below h.on)) ?_;rintro e w5 ⟨r2,rfl,hir,rfl⟩;refine⟨_,rfl,h,fun h=>?_⟩;clear hw;refine cO 23 (U3 sg2 A2 sg2.length c2 r2 _ _ _ w4 rfl hl2 (nG ho2).2.2.2 (fun ad e=>by subst e;exact (ho2.lt _ rfl).2) ⟨hir.len,hir.cap,hir.max,hir.rd,hir.rng,fun hn ad e=>Nat.lt_of_lt_of_le (hir.lt hn ad e) h.on.size⟩ (fun s hs=>jw.out s (hsub.mem hs)) (aiT HT.out)) ?_;rintro e w6 ⟨v5,ns,rfl,hl5,NV,hb5⟩;have EO:Hid (TE sg x.1.ty ns/\ns.length<=60):=⟨TE.mono (ac8 zn.out hsub) hl5.1,by have:=hl5.2;omega⟩
       have HQ5:=zH (And.intro (bW NV h.hB) (fun k hk=>(NV.lt k hk).2));clear hl5 hsub;replace hso:=own_below hso hb5;obtain⟨A5,c5,rfl,_⟩:=bY NV;refine⟨_,rfl,h.below hb5,fun h=>?_⟩;refine aG 24 ?_;refine aG 25 ?_;have cg:=(h.pc hjp).2.2.2.2.1;have fg:=h.pf;refine iL 26 (fun h=>absurd rfl h) (fun _=>?_);refine dH ?_;have k:=h.up.I8 hpl.symm j hjp ({x.1 with body:=ns},⟨A5,ns.length,c5⟩) HQ5.out.1 HQ5.out.2 4 [.slice A5 ns.length c5] (by simp) (by rw[<-HX.out];rfl);replace hso:=ac9 hso h ((aF.refl _ _).set (j*12+4) (.slice A5 ns.length c5));have hp':Ic sg fs ss (ps.set j ({x.1 with body:=ns},⟨A5,ns.length,c5⟩)) (j+1):=by rw[HX.out];exact hp.body hjp (by rw[<-HX.out];exact EO.out.1) EO.out.2 _
       clear h cg fg hc NV hb5 ho2;go_wp2
       go_roundg (n0-(j+1))
       case measure=>omega
       case rel=>exact⟨j+1,_,_,by omega,by go_num,k,hp',by rw[List.length_set];exact hpl,hso⟩
      ·obtain rfl:n0=j:=by omega
       have hp:=(hpl ▸ hp:Ic sg fs ss ps ps.length).all;obtain⟨nms,hnm⟩:=zE (ps.map fun x=>x.1.name);have kK:Hid ((ps.map fun x=>x.1.name)=nms):=hnm.symm;clear hnm zn jw;have hn1:1<=n0:=by have:=hp.k.ne (by omega);cases ps with|nil=>exact absurd rfl this|cons a b=>simp at hpl;omega
       have hc:=h.cells;go_wp2_with fail;refine (EP ps f9 s9 ⟨some ⟨g,0,none⟩,n0,pc⟩ _ wr h.pr).mono ?_;rintro e w1 ⟨i1,o1,rfl,hi1,hb⟩;have k:=h.below hb;clear h hc hb hso;have hc:=k.cells;have HI1:Hid (o1=true->nms[i1]?=some ⟨#[99,114,101,100,105,116]⟩):=fun e=>by obtain⟨h1,h2⟩:=hi1 e;rw[<-kK.out,List.getElem?_map,List.getElem?_eq_getElem h1,Option.map_some,h2]
       go_wp2_with fail;refine (EP ps f9 s9 ⟨some ⟨g,0,none⟩,n0,pc⟩ _ w1 k.pr).mono ?_;rintro e w2 ⟨i2,o2,rfl,hi2,hb⟩;have h:=k.below hb;have HI2:Hid (o2=true->nms[i2]?=some ⟨#[114,101,108,105,101,102]⟩):=fun e=>by obtain⟨h1,h2⟩:=hi2 e;rw[<-kK.out,List.getElem?_map,List.getElem?_eq_getElem h1,Option.map_some,h2]
       clear k hc hb hi1 hi2
       go_upto_region 29 with fail
       go_cut [169] from 158 to 168 (fun bv Y=>(∃b,bv=.bool b/\Hid (b=true->o1=true/\o2=true))/\MZ w Y D M L N U fs ss ps (.slice f9.a f9.n f9.c) (.slice s9.a s9.n s9.c) (.slice (some ⟨g,0,none⟩) n0 pc))
       case first=>
        by_cases ha:1<=kd
        ·by_cases hb:kd<=3
         all_goals
          cases o1<;>cases o2
          all_goals
           go_wp2
           go_meet
           case rel=>exact⟨⟨_,rfl,by intro h;first|(cases h;done)|exact⟨rfl,rfl⟩|exact⟨trivial,trivial⟩⟩,h⟩
        ·go_wp2
         go_meet
         case rel=>exact⟨⟨_,rfl,fun h=>by cases h⟩,h⟩
       case rest=>
        clear h;obtain⟨⟨b,rfl,Yi⟩,h⟩:=hcut
        go_upto_if 169 with fail
        go_cut [] from 170 to 191 (fun Y=>∃U ps,MZ w Y D M L N U fs ss ps (.slice f9.a f9.n f9.c) (.slice s9.a s9.n s9.c) (.slice (some ⟨g,0,none⟩) n0 pc)/\PG sg fs ss ps/\ps.length=n0/\Hid ((ps.map fun x=>x.1.name)=nms))
        case first=>
         cases b
         ·go_wp2
          go_meet
          case rel=>exact⟨_,ps,h,hp,hpl,kK⟩
         ·obtain⟨rfl,rfl⟩:=Yi.out rfl
          go_upto_region 30 with fail
          obtain⟨hjp,mG,_⟩:=hp.sig pF.out xZ.out (by rw[kK.out];exact HI1.out rfl) (by decide);obtain⟨_,_,x9⟩:=hp.sig pF.out xZ.out (by rw[kK.out];exact HI2.out rfl) (by decide);have KD:=zH (hp.tJ pF.out xZ.out);replace x9:=zH x9;replace mG:=zH mG;have hc:=fun X (h:MZ w X D M L N U fs ss ps (.slice f9.a f9.n f9.c) (.slice s9.a s9.n s9.c) (.slice (some ⟨g,0,none⟩) n0 pc))=>And.intro (h.pc hjp) h.cells
          have jq:(i1:Int)<(n0:Int):=by omega
          have jz:(0:Int)<=(i1:Int):=by omega
          obtain⟨x,hx⟩:=zE ps[i1];rw[<-hx] at hc mG;have HX:=zH hx;clear hx;refine dN (fun X=>MZ w X D M L N U fs ss ps (.slice f9.a f9.n f9.c) (.slice s9.a s9.n s9.c) (.slice (some ⟨g,0,none⟩) n0 pc)) 11 (h.below (ak _ _ 1)) (fun w3 _ h=>?_);have Bj:=zH h.hB
          iterate 9 refine aW ?_
          refine cO 9 (yK sg D (D+1) x _ w3 h.ds h.Ye (by decide) x9.out KD.out) ?_;rintro e w4 ⟨y,rfl,hy1,hy2,hoy,hd1,ho1⟩;refine⟨.agg #[.string y.1.name,.bool y.1.ty.truth,.int .i64 y.1.ty.aN,.int .i64 y.1.ty.days,.slice y.2.a y.2.n y.2.c,.bool y.1.dS,.bool y.1.step.neg,.string y.1.step.num,.string y.1.step.den,.bool y.1.cap.neg,.string y.1.cap.num,.string y.1.cap.den],rfl,h.dG hd1 ho1,fun h=>?_⟩;have Dn:=zH (And.intro (bW hoy Bj.out) (fun k hk=>(hoy.lt k hk).2));have yg:Hid (y.1.ty=bT):=hy1.t.trans mG.out;have Bg:Hid (ER sg y.1):=⟨yg.out ▸ hy1.b,hy1.l,fun _=>yg.out,Ie hy2 yg.out⟩
          have zC:Hid (Oj y.1 x.1):=⟨hy1.n,hy1.t,hy1.c⟩
          clear hy1 hy2 hoy hd1 ho1 hc;refine aG 10 ?_;have cg:=h.pc hjp;have fg:=h.pf;refine iL 11 (fun h=>absurd rfl h) (fun _=>?_);refine dH ?_;have k:=h.up.I8 hpl.symm i1 hjp y Dn.out.1 Dn.out.2 0 (aA y) (by simp[aA]) rfl;have hp':=hp.set i1 hjp y (by rw[<-HX.out];exact zC.out) Bg.out;have hpl':(ps.set i1 y).length=n0:=by rw[List.length_set];exact hpl
          have FI:Hid (((ps.set i1 y).map fun x=>x.1.name)=nms):=by show _=_;rw[oN (fun x:Pv × Hd=>x.1.name) ps i1 hjp y (by rw[<-HX.out];exact zC.out.1)];exact kK.out
          clear h cg fg hp hpl kK Bg zC yg mG Dn Bj x9 KD;generalize hY:World.setCell _ _ _=Y;rw[show w4.setCells g (i1*12+0) (aA y)=Y from hY] at k;clear hY;generalize w4.heap.size=U at k;have h:=k;have hp:=hp';obtain⟨ps,hps⟩:=zE (ps.set i1 y);rw[<-hps] at h hp hpl' FI;have hpl:=hpl';have kK:=FI
          go_upto_region 31 with fail
          clear hps k hp' hpl' HX hjp FI;obtain⟨hjp,mG,_⟩:=hp.sig pF.out xZ.out (by rw[kK.out];exact HI2.out rfl) (by decide);obtain⟨_,_,x9⟩:=hp.sig pF.out xZ.out (by rw[kK.out];exact HI1.out rfl) (by decide);have KD:=zH (hp.tJ pF.out xZ.out);replace x9:=zH x9;replace mG:=zH mG;have hc:=fun X (h:MZ w X D M L N U fs ss ps (.slice f9.a f9.n f9.c) (.slice s9.a s9.n s9.c) (.slice (some ⟨g,0,none⟩) n0 pc))=>And.intro (h.pc hjp) h.cells
          have jq:(i2:Int)<(n0:Int):=by omega
          have jz:(0:Int)<=(i2:Int):=by omega
          obtain⟨x,hx⟩:=zE ps[i2];rw[<-hx] at hc mG;have HX:=zH hx;clear hx;refine dN (fun X=>MZ w X D M L N U fs ss ps (.slice f9.a f9.n f9.c) (.slice s9.a s9.n s9.c) (.slice (some ⟨g,0,none⟩) n0 pc)) 11 (h.below (ak _ _ 1)) (fun w3 _ h=>?_);have Bj:=zH h.hB
          iterate 9 refine aW ?_
          refine cO 9 (yK sg D (D+1) x _ w3 h.ds h.Ye (by decide) x9.out KD.out) ?_;rintro e w4 ⟨y,rfl,hy1,hy2,hoy,hd1,ho1⟩;refine⟨.agg #[.string y.1.name,.bool y.1.ty.truth,.int .i64 y.1.ty.aN,.int .i64 y.1.ty.days,.slice y.2.a y.2.n y.2.c,.bool y.1.dS,.bool y.1.step.neg,.string y.1.step.num,.string y.1.step.den,.bool y.1.cap.neg,.string y.1.cap.num,.string y.1.cap.den],rfl,h.dG hd1 ho1,fun h=>?_⟩;have Dn:=zH (And.intro (bW hoy Bj.out) (fun k hk=>(hoy.lt k hk).2));have yg:Hid (y.1.ty=bT):=hy1.t.trans mG.out;have Bg:Hid (ER sg y.1):=⟨yg.out ▸ hy1.b,hy1.l,fun _=>yg.out,Ie hy2 yg.out⟩
          have zC:Hid (Oj y.1 x.1):=⟨hy1.n,hy1.t,hy1.c⟩
          clear hy1 hy2 hoy hd1 ho1 hc;refine aG 10 ?_;have cg:=h.pc hjp;have fg:=h.pf;refine iL 11 (fun h=>absurd rfl h) (fun _=>?_);refine dH ?_;have k:=h.up.I8 hpl.symm i2 hjp y Dn.out.1 Dn.out.2 0 (aA y) (by simp[aA]) rfl;have hp':=hp.set i2 hjp y (by rw[<-HX.out];exact zC.out) Bg.out;have hpl':(ps.set i2 y).length=n0:=by rw[List.length_set];exact hpl
          have FI:Hid (((ps.set i2 y).map fun x=>x.1.name)=nms):=by show _=_;rw[oN (fun x:Pv × Hd=>x.1.name) ps i2 hjp y (by rw[<-HX.out];exact zC.out.1)];exact kK.out
          clear h cg fg hp hpl kK Bg zC yg mG Dn Bj x9 KD;go_wp2
          go_meet
          case rel=>exact⟨_,_,k,hp',hpl',FI⟩
        case rest=>
         clear h hp hpl HI2 Yi kK;obtain⟨U,ps,h,hp,hpl,kK⟩:=hcut
         go_upto_region 32 with fail
         go_cut [196] from 192 to 195 (fun bv Y=>(∃b,bv=.bool b/\Hid (b=true->o1=true))/\MZ w Y D M L N U fs ss ps (.slice f9.a f9.n f9.c) (.slice s9.a s9.n s9.c) (.slice (some ⟨g,0,none⟩) n0 pc))
         case first=>
          by_cases ha:kd=4
          ·subst ha;cases o1
           all_goals
            go_wp2
            go_meet
            case rel=>exact⟨⟨_,rfl,by intro h;first|(cases h;done)|rfl|trivial⟩,h⟩
          ·have ha1:((kd:Int)==4)=false:=beq_eq_false_iff_ne.2 (by omega);have ha2:¬(kd:Int)=4:=by omega
           go_wp2
           go_meet
           case rel=>exact⟨⟨_,rfl,fun h=>by cases h⟩,h⟩
         case rest=>
          clear h;obtain⟨⟨b,rfl,Yi⟩,h⟩:=hcut
          go_upto_if 196 with fail
          go_cut [] from 197 to 207 (fun Y=>∃U ps,MZ w Y D M L N U fs ss ps (.slice f9.a f9.n f9.c) (.slice s9.a s9.n s9.c) (.slice (some ⟨g,0,none⟩) n0 pc)/\PG sg fs ss ps/\ps.length=n0/\Hid ((ps.map fun x=>x.1.name)=nms))
          case first=>
           cases b
           ·go_wp2
            go_meet
            case rel=>exact⟨_,ps,h,hp,hpl,kK⟩
           ·obtain rfl:=Yi.out rfl
            go_upto_region 33 with fail
            obtain⟨hjp,mG,_⟩:=hp.sig pF.out xZ.out (by rw[kK.out];exact HI1.out rfl) (by decide);obtain⟨_,_,x9⟩:=hp.sig pF.out xZ.out (by rw[kK.out];exact HI1.out rfl) (by decide);have KD:=zH (hp.tJ pF.out xZ.out);replace x9:=zH x9;replace mG:=zH mG;have hc:=fun X (h:MZ w X D M L N U fs ss ps (.slice f9.a f9.n f9.c) (.slice s9.a s9.n s9.c) (.slice (some ⟨g,0,none⟩) n0 pc))=>And.intro (h.pc hjp) h.cells
            have jq:(i1:Int)<(n0:Int):=by omega
            have jz:(0:Int)<=(i1:Int):=by omega
            obtain⟨x,hx⟩:=zE ps[i1];rw[<-hx] at hc mG;have HX:=zH hx;clear hx;refine dN (fun X=>MZ w X D M L N U fs ss ps (.slice f9.a f9.n f9.c) (.slice s9.a s9.n s9.c) (.slice (some ⟨g,0,none⟩) n0 pc)) 11 (h.below (ak _ _ 1)) (fun w3 _ h=>?_);have Bj:=zH h.hB
            iterate 9 refine aW ?_
            refine cO 9 (yK sg D (D+1) x _ w3 h.ds h.Ye (by decide) x9.out KD.out) ?_;rintro e w4 ⟨y,rfl,hy1,hy2,hoy,hd1,ho1⟩;refine⟨.agg #[.string y.1.name,.bool y.1.ty.truth,.int .i64 y.1.ty.aN,.int .i64 y.1.ty.days,.slice y.2.a y.2.n y.2.c,.bool y.1.dS,.bool y.1.step.neg,.string y.1.step.num,.string y.1.step.den,.bool y.1.cap.neg,.string y.1.cap.num,.string y.1.cap.den],rfl,h.dG hd1 ho1,fun h=>?_⟩;have Dn:=zH (And.intro (bW hoy Bj.out) (fun k hk=>(hoy.lt k hk).2));have yg:Hid (y.1.ty=bT):=hy1.t.trans mG.out;have Bg:Hid (ER sg y.1):=⟨yg.out ▸ hy1.b,hy1.l,fun _=>yg.out,Ie hy2 yg.out⟩
            have zC:Hid (Oj y.1 x.1):=⟨hy1.n,hy1.t,hy1.c⟩
            clear hy1 hy2 hoy hd1 ho1 hc;refine aG 10 ?_;have cg:=h.pc hjp;have fg:=h.pf;refine iL 11 (fun h=>absurd rfl h) (fun _=>?_);refine dH ?_;have k:=h.up.I8 hpl.symm i1 hjp y Dn.out.1 Dn.out.2 0 (aA y) (by simp[aA]) rfl;have hp':=hp.set i1 hjp y (by rw[<-HX.out];exact zC.out) Bg.out;have hpl':(ps.set i1 y).length=n0:=by rw[List.length_set];exact hpl
            have FI:Hid (((ps.set i1 y).map fun x=>x.1.name)=nms):=by show _=_;rw[oN (fun x:Pv × Hd=>x.1.name) ps i1 hjp y (by rw[<-HX.out];exact zC.out.1)];exact kK.out
            clear h cg fg hp hpl kK Bg zC yg mG Dn Bj x9 KD;go_wp2
            go_meet
            case rel=>exact⟨_,_,k,hp',hpl',FI⟩
          case rest=>
           clear h hp hpl HI1 Yi kK;obtain⟨U,ps,h,hp,hpl,kK⟩:=hcut
           go_upto_if 209 with fail
           go_cut [] from 209 to 237 (fun Y=>∃U ps,MZ w Y D M L N U fs ss ps (.slice f9.a f9.n f9.c) (.slice s9.a s9.n s9.c) (.slice (some ⟨g,0,none⟩) n0 pc)/\PG sg fs ss ps/\ps.length=n0)
           case first=>
            clear kK;by_cases ha:kd=5
            ·subst ha;have hc:=h.cells;go_wp2_with fail;refine (h.next (n0:Int) (by omega) (by omega)).mono ?_;rintro e w1 ⟨q,hq1,rfl,k,_⟩;have hjp:q<ps.length:=by omega
             have q0:(0:Int)<=(q:Int):=by omega
             clear h hc;have hc:=And.intro (k.pc hjp) k.cells;cases htr:ps[q].1.ty.truth
             ·rw[htr] at hc
              go_upto_region 37 with fail
              clear hc;have HTC:Hid (ps[q].1.ty=bT):=(hp.k.ty _ (List.getElem_mem hjp)).resolve_right (fun h9=>by rw[h9.1] at htr;cases htr);have hc:=fun X (h:MZ w X D M L N U fs ss ps (.slice f9.a f9.n f9.c) (.slice s9.a s9.n s9.c) (.slice (some ⟨g,0,none⟩) n0 pc))=>h.cells
              refine dN (fun X=>MZ w X D M L N U fs ss ps (.slice f9.a f9.n f9.c) (.slice s9.a s9.n s9.c) (.slice (some ⟨g,0,none⟩) n0 pc)) 6 (k.below (ak _ _ 1)) (fun w3 _ h=>?_)
              iterate 3 refine aW ?_
              refine cO 3 (lJ 1 2 w3 (by omega) (by omega) (by omega) (by omega)) ?_;rintro e w4 ⟨rfl,hb⟩;refine⟨_,rfl,h.below hb,fun h=>?_⟩;have Eu:Hid (∀k:Fin 100,Ak (iw 1 2) (aS (((k:Nat):Int)+1))=true):=Xv;generalize iw 1 2=va at*;obtain⟨an,au,ad⟩:=va;unfold Ra.v;clear hb hc k;refine aG 4 ?_;refine aG 5 ?_;have cg:=h.pc hjp;have fg:=h.pf;refine iL 6 (fun h=>absurd rfl h) (fun _=>?_);refine dH ?_;obtain⟨a,ha⟩:=zE (({ps[q].1 with step:=⟨an,au,ad⟩},ps[q].2):Pv × Hd);have HA:=zH ha;have k:=h.I8 hpl.symm q hjp a (by have e:=h.qp _ (List.getElem_mem hjp);rw[ha];exact e) (by have e:=h.qu (List.getElem_mem hjp);rw[ha];exact e) 6 [.bool an,.string au,.string ad] (by simp) (by rw[ha];rfl);have hpl':(ps.set q a).length=n0:=by rw[List.length_set];exact hpl
              clear h cg fg ha;have aaG:q<(ps.set q a).length:=by omega
              have Yj:Hid ((ps.set q a)[q]'aaG=a):=List.getElem_set_self _;obtain⟨ps2,hps⟩:=zE (ps.set q a);have Oo:q<ps2.length:=by rw[hps];exact aaG
              replace Yj:Hid (ps2[q]'Oo=a):=by subst hps;exact Yj
              rw[<-hps] at k hpl';have zC:=zH hps;clear hps aaG
              go_upto_region 38 with fail
              have hc:=fun X (h:MZ w X D M L N U fs ss ps2 (.slice f9.a f9.n f9.c) (.slice s9.a s9.n s9.c) (.slice (some ⟨g,0,none⟩) n0 pc))=>h.cells
              refine dN (fun X=>MZ w X D M L N U fs ss ps2 (.slice f9.a f9.n f9.c) (.slice s9.a s9.n s9.c) (.slice (some ⟨g,0,none⟩) n0 pc)) 9 (k.below (ak _ _ 1)) (fun w3 _ h=>?_)
              iterate 4 refine aW ?_
              refine cO 4 (h.next 100 (by omega) (by omega)) ?_;rintro e w5 ⟨r9,Om,rfl,h,_⟩;refine⟨_,rfl,h,fun h=>?_⟩;have hw:IntKind.i64.wrap (1+(r9:Int))=1+(r9:Int):=IntWalk.i64_in _ (by omega);refine aG 5 ?_;refine cO 6 (lZ (1+(r9:Int)) w5 (by omega) (by omega)) ?_;rintro e w6 ⟨rfl,hb⟩;refine⟨_,rfl,h.below hb,fun h=>?_⟩;have Yg:Hid (Ak ⟨an,au,ad⟩ (aS (1+(r9:Int)))=true):=by show _=_;rw[Int.add_comm];exact Eu.out ⟨r9,by omega⟩
              generalize aS (1+(r9:Int))=vb at*;obtain⟨bn,bu,bd⟩:=vb;unfold Ra.v;clear hw Om hb hc k Eu;refine aG 7 ?_;refine aG 8 ?_;have cg:=h.pc Oo;have fg:=h.pf;refine iL 9 (fun h=>absurd rfl h) (fun _=>?_);refine dH ?_;have k:=h.I8 hpl'.symm q Oo ({a.1 with cap:=⟨bn,bu,bd⟩},a.2) (by have e:=h.qp _ (List.getElem_mem Oo);rw[Yj.out] at e;exact e) (by have e:=h.qu (List.getElem_mem Oo);rw[Yj.out] at e;exact e) 9 [.bool bn,.string bu,.string bd] (by simp) (by rw[Yj.out];rfl)
              have hp2:PG sg fs ss (ps2.set q ({a.1 with cap:=⟨bn,bu,bd⟩},a.2)):=by
               have g:=hp.g _ (List.getElem_mem hjp);rw[zC.out,List.set_set,HA.out];exact hp.set q hjp _ ⟨rfl,rfl,rfl⟩ ⟨g.b,g.n,g.c,Ie Yg.out HTC.out⟩
              clear h cg fg;go_wp2
              go_meet
              case rel=>exact⟨_,_,k,hp2,by rw[List.length_set];exact hpl'⟩
             ·rw[htr] at hc;go_wp2
              go_meet
              case rel=>exact⟨_,_,k,hp,hpl⟩
            ·have ha1:((kd:Int)==5)=false:=beq_eq_false_iff_ne.2 (by omega);have ha2:¬(kd:Int)=5:=by omega
             go_wp2
             go_meet
             case rel=>exact⟨_,ps,h,hp,hpl⟩
           case rest=>
            clear h hp hpl kK;obtain⟨U,ps,h,hp,hpl⟩:=hcut;have hc:=h.cells;have cr:=h.r.cells;have fr:=h.r.aI;have on:aF w.heap.size wc (((wc.setCell ⟨w.heap.size,0,none⟩ (.slice f9.a f9.n f9.c)).setCell ⟨w.heap.size,1,none⟩ (.slice s9.a s9.n s9.c)).setCell ⟨w.heap.size,2,none⟩ (.slice (some ⟨g,0,none⟩) n0 pc)):=(((aF.refl _ _).set 0 _).set 1 _).set 2 _;have hlt:w.heap.size<M+1:=by have:=h.hD;have:=h.hM;omega
            have hlo:=((MZ.lo (f:=f9) (s:=s9) (p:=⟨some ⟨g,0,none⟩,n0,pc⟩) h).dG on hlt).low (Nat.le_of_lt hlt);have hfin:=h.on.trans (on.below (Nat.le_refl _) h.on.size);have HMD:=zH (hp.md pF.out xZ.out);clear on hlt hp hpl;go_wp2;exact bodyPost_ret (v:=dR f9 s9 ⟨some ⟨g,0,none⟩,n0,pc⟩) (by simp[results,Tryz.results21,go_sem,cr,dR]) rfl ⟨_,ss,ps,f9,s9,⟨some ⟨g,0,none⟩,n0,pc⟩,rfl,HMD.out,hlo,hfin⟩
theorem agl:(Tryz.prog.info? 108).map (fun i=>(i.zero,i.size,i.bytes))=some (some (.slice none 0 0),1,24):=by kernel_rfl
def afC (w:World) (e:Ending) (w':World):Prop:=∃(ys:List (List Int × Hd)) (h:Hd),e=.returned (.slice h.a h.n h.c)/\aJ w' vk ys h/\(∀r∈ys,IR w w.heap.size r)/\Below w.heap.size w w'
theorem aaH (xs:List (List Int × Hd)) (hh:Hd) (w:World) (hr:aJ w vk xs hh) (hq:∀r∈xs,IR w w.heap.size r):
  Calls Tryz.prog 22 #[.slice hh.a hh.n hh.c] w (afC w):=by
 obtain⟨A,n,c⟩:=hh;have hm:n<=9223372036854775807:=by have:=hr.cap;have:=hr.max;unfold maxLen at this;simp only at*;omega
 go_enter Tryz.func22,Tryz.ntmps22;go_wp2
 go_loopg [3,4] 8 (fun g ov iv wr=>∃(j:Nat) (ys:List (List Int × Hd)),j+g=8/\iv=.int .i64 j/\wr.ownsRow w.heap.size 108 1 ov ys.length (ys.flatMap vk)/\ys.length=j/\Hid (∀r∈ys,IR w w.heap.size r)/\Below w.heap.size w wr)
 case atStart=>exact⟨0,[],by omega,rfl,World.ownsRow_nil _ _ _ _,rfl,fun _ h=>(by cases h),Below.refl _ _⟩
 case round=>
  obtain⟨j,ys,hj,rfl,ho,hl,hy,hb⟩:=hrel;by_cases hlt:j<n
  ·by_cases h8:j<8
   ·obtain⟨b,off,rfl,_,hx,hc0⟩:=hr.at 1 (fun _=>rfl) (by omega) hlt;have HI:=zH (hq _ (List.getElem_mem hx));obtain⟨x,hxe⟩:=zE xs[j];rw[<-hxe] at hc0 HI;clear hxe;have hc:=fun (X:World) (hX:Below w.heap.size w X)=>show X.cell? ⟨b,off+j,none⟩=some (Value.slice x.2.a x.2.n x.2.c) from by have:=hc0 X hX 0 _ rfl;simpa using this
    clear hc0;obtain⟨l,⟨a,k,cc⟩⟩:=x;simp only at hc;have hk:=HI.out.cap;have hk2:=HI.out.max;unfold maxLen at hk2;simp only at hk hk2;have j0:(0:Int)<=(j:Int):=by omega
    have j1:(j:Int)<(n:Int):=by omega
    obtain⟨m,hm0,hm1⟩:∃m:Nat,min (k:Int) 60=(m:Int)/\m<=k:=⟨min k 60,by omega,by omega⟩
    have hm2:(m:Int).toNat=m:=by omega
    have m0:(0:Int)<=(m:Int):=by omega
    have m1:(m:Int)<=(cc:Int):=by omega
    go_upto_region 5 with fail
    refine dN (Below w.heap.size w) 99 hb.drew (fun w1 h1 hS=>?_);replace ho:=own_below ho h1
    iterate 12 refine aW ?_
    refine iy 12 (fun _=>hS.alloc hS.size _) (fun _=>?_);refine y9 13 agl Tryz.underlying22 ho (by omega) hS.size (fun v' w9 ho _ _ gW=>⟨hS.trans gW,fun hS=>?_⟩);refine aW ?_;refine dH ?_;go_wp2
    go_roundg (8-(j+1))
    case measure=>omega
    case rel=>exact⟨j+1,ys++[(l.take m,⟨a,m,cc⟩)],by omega,by go_num,by rw[List.flatMap_append,List.length_append];exact ho,by simp[hl],fun r hr=>by
     rcases List.mem_append.1 hr with hr|hr
     ·exact hy.out r hr
     ·rw[List.mem_singleton.1 hr];exact HI.out.cut hm1,hS⟩
   ·go_wp2;go_ret;obtain⟨A2,c2,rfl,h3,h4,h5,_⟩:=bY ho;exact⟨ys,⟨A2,ys.length,c2⟩,rfl,⟨rfl,h3,h4,h5⟩,hy.out,hb⟩
  ·go_wp2;go_ret;obtain⟨A2,c2,rfl,h3,h4,h5,_⟩:=bY ho;exact⟨ys,⟨A2,ys.length,c2⟩,rfl,⟨rfl,h3,h4,h5⟩,hy.out,hb⟩
theorem EW (xs:List (List Int × Hd)) (hh:Hd) (w:World) (hr:aJ w vk xs hh) (hq:∀r∈xs,IR w w.heap.size r):
  Calls Tryz.prog 7 #[.slice hh.a hh.n hh.c] w (afz w):=by
 go_enter Tryz.func7,Tryz.ntmps7
 go_upto_region 1 with fail
 generalize hW:w.alloc _=W;obtain⟨hk,hb⟩:=zA hW;clear hW;go_wp2_with fail;refine (aaH xs hh W (hr.below hb) (fun r hm=>?_)).mono ?_
 ·have h:=(hq r hm).below hb;exact⟨h.len,h.cap,h.max,h.rd,h.rng,fun hn ad e=>Nat.lt_of_lt_of_le (h.lt hn ad e) hb.size⟩
 rintro e w1 ⟨ys,h1,rfl,hy,hyq,hb1⟩;have hk1:=hk.below hb1 hk.lt;go_wp2_with fail;refine (Qb ys h1 w1 hy (fun r hm=>?_)).mono ?_
 ·have h:=(hyq r hm).below hb1;exact⟨h.len,h.cap,h.max,h.rd,h.rng,fun hn ad e=>Nat.lt_of_lt_of_le (h.lt hn ad e) hb1.size⟩
 rintro e w2 ⟨l,ss,ps,f,s,p,rfl,hmd,hlo,hb2⟩;have hk2:=hk1.below hb2 hk1.lt;have ck:=hk2.cells;have fk:=hk2.aI;have on:aF w.heap.size w2 (((w2.setCell ⟨w.heap.size,0,none⟩ (.slice f.a f.n f.c)).setCell ⟨w.heap.size,1,none⟩ (.slice s.a s.n s.c)).setCell ⟨w.heap.size,2,none⟩ (.slice p.a p.n p.c)):=(((aF.refl _ _).set 0 _).set 1 _).set 2 _;have hfin:=ah hb (ah hb1 hb2);have hend:=hfin.trans (on.below (Nat.le_refl _) hfin.size);have HLO:=zH ((hlo.dG on hk1.lt).low (Nat.le_of_lt hk1.lt));have HMD:=zH hmd;clear hlo hmd on hb hb1 hb2 hk hk1 hk2 hr hq hy hyq hfin;unfold dR;go_wp2;exact bodyPost_ret (v:=dR f s p) (by simp[results,Tryz.results7,go_sem,ck,dR]) rfl ⟨l,ss,ps,f,s,p,rfl,HMD.out,HLO.out,hend⟩
theorem aaI:(Tryz.prog.info? 93).map (fun i=>(i.zero,i.size,i.bytes))=some (some (.agg #[.bool false,.string ⟨#[]⟩,.string ⟨#[]⟩,.bool false,.string ⟨#[]⟩,.string ⟨#[]⟩]),6,80):=by kernel_rfl
theorem aaJ:(Tryz.prog.info? 39).map (fun i=>(i.zero,i.size,i.bytes))=some (some (.agg #[.string ⟨#[]⟩,.int .i64 0,.int .i64 0,.slice none 0 0]),4,56):=by kernel_rfl
def Ih (p:ByteArray) (b:Bk):Prop:=p.size<=1000000/\∃x y:List UInt8,Lib.cut p.data.toList [32]=(x,y,true)/\x.length<=1000000/\y.length<=1000000/\dU ⟨x.toArray⟩=(b.fr,true)/\dU ⟨y.toArray⟩=(b.rt,true)
def lq (rest:ByteArray):List ByteArray:=Lib.splitB ⟨#[44,32]⟩ 0 (Lib.countB rest ⟨#[44,32]⟩) rest
structure DY (rest:ByteArray) (bI:List Bk):Prop where
 size:rest.size<=1000000
 n:Lib.countB rest ⟨#[44,32]⟩+1=bI.length
 len:(lq rest).length=bI.length
 max:bI.length<=1000
 ok:∀i (h:i<bI.length) (h':i<(lq rest).length),Ih (lq rest)[i] bI[i]
theorem U7 (w0 w:World) (R g c:Nat) (l:Lw) (ss:List (Sc × Hd)) (ps:List (Pv × Hd)) (fv sv pv:Value) (nm s rest:ByteArray) (tm td:Int) (bI:List Bk) (h:PT w0 w R l ss ps fv sv pv) (hL:cZ w) (ht:mD ⟨false,tm,td⟩=true) (hs:s=bU ⟨false,tm,td⟩) (hn:ss.length<=1000) (hr:DY rest bI) (hg:∃cs,aj w g 9 cs/\cs[1]?=some (.string nm)/\cs[2]?=some (.string s)):
  Calls Tryz.prog 134 #[.pointer (some ⟨R,0,none⟩),.slice (some ⟨g,1,none⟩) 2 c,.string rest] w fun e w'=>e=.returned (.tuple #[])/\(∃v' hd,PT w0 w' R ⟨l.facts,l.aU++[⟨nm,tm,td,bI⟩],l.aH⟩ (ss++[(⟨nm,tm,td,bI⟩,hd)]) ps fv v' pv)/\FR R w w':=by
 obtain⟨cs,hg0,hg1,hg2⟩:=hg;have HT:=zH (fun W (hb:Below w.heap.size w W)=>hs ▸ yJ ⟨false,tm,td⟩ W (hL.below hb) ht);have jU:Hid (∀W,Below w.heap.size w W->cZ W):=fun W hb=>hL.below hb
 have EG:=zH hr;have HM:=zH tu;have hcg:=fun (X:World) (hb:Below w.heap.size w X)=>show X.cell? ⟨g,1,none⟩=some (.string nm)/\X.cell? ⟨g,2,none⟩=some (.string s) from⟨((hg0.below hb hg0.lt).cells 1).trans hg1,((hg0.below hb hg0.lt).cells 2).trans hg2⟩
 unfold Ty.v at HT;simp only at HT;have hl:=hcg w (Below.refl _ _);clear hL ht hs hg0 hg1 hg2 hr;go_enter Tryz.func134,Tryz.ntmps134;go_wp2_with fail;refine (HM.out w).mono ?_;rintro e w1 ⟨rfl,hw1⟩;rw[hw1];clear hw1;go_wp2_with fail;refine (HT.out w (Below.refl _ _)).mono ?_;rintro e w2 ⟨rfl,hb⟩;clear hl HT
 go_upto_region 2 with fail
 generalize hX:World.alloc w2 _=W1;obtain⟨hT,hb2⟩:=zA hX;replace hb:=ah hb hb2;clear hX hb2;have hl:=hT.cells;go_wp2_with fail;refine (HM.out W1).mono ?_;rintro e w3 ⟨rfl,hw1⟩;rw[hw1];clear hw1 hl;have hcc:=fun (X:World) (h:Below W1.heap.size W1 X)=>And.intro (hcg X (ah hb h)) (hT.below h hT.lt).cells
 go_upto_region 3 with fail
 refine dN (Below W1.heap.size W1) 99 (ak _ _ 1) (fun v hv hS=>?_)
 iterate 6 refine aW ?_
 refine iy 6 (fun _=>hS.alloc hS.size _) (fun _=>?_);refine iL 7 (fun _=>hS.alloc hS.size _) (fun _=>?_);refine dH ?_;replace hb:=ah hb hv;replace h:=h.below hb;clear hcc hcg hS hv hT
 go_upto_region 4 with fail
 generalize hX:World.alloc v _=W3;have k:IS v W3 39 [.string nm,.int .i64 tm,.int .i64 td,.slice none 0 0] 93 6 (.slice none 0 0) 0 (([]:List Bk).flatMap Bk.cells):=by rw[<-hX];exact⟨zB _ _,aj.new _ _ _,World.ownsRow_nil _ _ _ _⟩
 have hGN:W3.heap.size≠v.heap.size:=by have:=k.hW;omega
 clear hX;have HBV:Hid (Below w.heap.size w v):=hb;obtain⟨m,hm⟩:=(jU.out _ (ah hb k.bl)).e.base.cut.2;have Gj:=zH (Tryz.strings_Split rest ⟨#[44,32]⟩ m W3 (by have:=EG.out.size;omega) hm (by decide));rw[show Lib.splitB ⟨#[44,32]⟩ 0 (Lib.countB rest ⟨#[44,32]⟩) rest=lq rest from rfl,EG.out.n] at Gj;have hcap:=EG.out.max;clear hm hb HM;go_wp2_with fail;refine Gj.out.mono ?_;rintro e w4 ⟨rfl,hw4⟩;have hG:aj w4 W3.heap.size 9 (strs (lq rest)):=by rw[hw4,FB];exact aj.new W3 _ _
 replace k:=k.below (X':=w4) (by rw[hw4];exact zB _ _);have HGN:Hid (W3.heap.size≠v.heap.size):=hGN;generalize W3.heap.size=G at hG HGN⊢;clear hw4 Gj hGN;go_wp2_with fail
 go_loopg [34] bI.length (fun q iv X=>∃(i:Nat) (bv:Value),i+q=bI.length/\iv=.int .i64 i/\IS v X 39 [.string nm,.int .i64 tm,.int .i64 td,bv] 93 6 bv i ((bI.take i).flatMap Bk.cells)/\aj X G 9 (strs (lq rest)))
 case atStart=>exact⟨0,_,by omega,rfl,k,hG⟩
 case round=>
  clear k hG;obtain⟨i,bv,hi,rfl,k,hG⟩:=hrel;by_cases hlt:i<bI.length
  ·have hlp:i<(lq rest).length:=by rw[EG.out.len];exact hlt
   have hc:=strs_get hG hlp;have hTK:(bI.take (i+1)).flatMap Bk.cells=(bI.take i).flatMap Bk.cells++bI[i].cells:=by rw[List.take_succ_eq_append_getElem hlt,List.flatMap_append];simp
   obtain⟨hps,x,y,hcut,hx1,hy1,hrx,Gi⟩:=EG.out.ok i hlt hlp;generalize (lq rest)[i]=p at*;generalize bI[i]=bk at*;obtain⟨⟨f1,f2,f3⟩,⟨r1,r2,r3⟩⟩:=bk;have zl:=zH hTK;obtain⟨m,hm⟩:=(jU.out _ (ah HBV.out k.bl)).e.base.cut.2;have EX:=zH (Tryz.strings_Cut p ⟨#[32]⟩ m _ (by omega) hm);rw[show (⟨#[32]⟩:ByteArray).data.toList=[32] from rfl,hcut] at EX;simp only at EX hrx Gi
   have Df:Hid (∀W,Laid W->Calls Tryz.prog 135 #[.string ⟨x.toArray⟩] W fun e w'=>e=.returned (.agg #[.bool f1,.string f2,.string f3])/\Below W.heap.size W w'):=fun W hL=>by
    have k:=uo ⟨x.toArray⟩ W hL (by show x.toArray.size<=_;simp;omega) (by rw[hrx]);rw[hrx] at k;exact k
   have HNY:Hid (∀W,Laid W->Calls Tryz.prog 135 #[.string ⟨y.toArray⟩] W fun e w'=>e=.returned (.agg #[.bool r1,.string r2,.string r3])/\Below W.heap.size W w'):=fun W hL=>by
    have k:=uo ⟨y.toArray⟩ W hL (by show y.toArray.size<=_;simp;omega) (by rw[Gi]);rw[Gi] at k;exact k
   clear hTK hps hcut hm hx1 hy1 hrx Gi;generalize (⟨x.toArray⟩:ByteArray)=xb at*;generalize (⟨y.toArray⟩:ByteArray)=yb at*;go_wp2_with fail;refine EX.out.mono ?_;rintro e w5 ⟨rfl,nd,hw5⟩;replace k:=k.below (X':=w5) (by rw[hw5];exact ak _ _ _);replace hG:=hG.below (w':=w5) (by rw[hw5];exact ak _ _ _) hG.lt;clear hc hw5 EX;go_wp2_with fail;refine (tu w5).mono ?_;rintro e w6 ⟨rfl,hw1⟩;rw[hw1];clear hw1;have hcx:=fun Y (h:aj Y v.heap.size 39 [.string nm,.int .i64 tm,.int .i64 td,bv]/\aj Y G 9 (strs (lq rest)))=>h.1.cells
   go_upto_region 9 with fail
   refine dN (fun Y=>aj Y v.heap.size 39 [.string nm,.int .i64 tm,.int .i64 td,bv]/\aj Y G 9 (strs (lq rest))) 10 ⟨k.b.drew,hG.drew⟩ (fun w7 h7 hS=>?_);replace k:=k.below h7
   iterate 3 refine aW ?_
   refine aG 4 ?_;refine cO 3 (Df.out w7 (jU.out _ (ah HBV.out k.bl)).e.base) ?_;rintro e w8 ⟨rfl,hb8⟩;refine⟨_,rfl,⟨hS.1.below hb8 hS.1.lt,hS.2.below hb8 hS.2.lt⟩,fun hS=>?_⟩;replace k:=k.below hb8;refine cO 5 (HNY.out w8 (jU.out _ (ah HBV.out k.bl)).e.base) ?_;rintro e w9 ⟨rfl,gW⟩;refine⟨_,rfl,⟨hS.1.below gW hS.1.lt,hS.2.below gW hS.2.lt⟩,fun hS=>?_⟩;replace k:=k.below gW;refine aW ?_;refine iy 7 (fun _=>⟨hS.1.alloc _,hS.2.alloc _⟩) (fun _=>?_);refine y9 8 aaI Tryz.underlying37 k.o (by omega) k.hW (fun v' w10 ho hg _ _=>⟨⟨k.blk (by decide) hg,(TF.grown k.o hg).blk hS.2 (by decide)⟩,fun hS=>?_⟩);obtain⟨A9,c9,rfl,_⟩:=bY ho;have fL:=hS.1.aI;refine aW ?_;refine iL 10 (fun h=>absurd rfl h) (fun _=>?_);refine dH ?_;have k2:=k.push (ys:=(bI.take (i+1)).flatMap Bk.cells) (by decide) hg (by rw[zl.out];exact ho) 3;have hG2:=hS.2.other (p:=⟨v.heap.size,3,none⟩) HGN.out (.slice A9 (i+1) c9);clear hcx hS fL ho hg k hG hb8 gW h7;go_wp2
   go_roundg (bI.length-(i+1))
   case measure=>omega
   case rel=>exact⟨i+1,_,by omega,by go_num,k2,hG2⟩
  ·obtain rfl:i=bI.length:=by omega
   rw[List.take_of_length_le (Nat.le_refl _)] at k;have h5:=h.below k.bl;obtain⟨A9,c9,rfl,_⟩:=bY k.o;have hcx:=fun Y (q:SV w0 R fv sv pv Y/\aj Y v.heap.size 39 [.string nm,.int .i64 tm,.int .i64 td,.slice A9 bI.length c9])=>And.intro q.1.1.cells q.2.cells
   clear EG jU hcap hG
   go_upto_region 11 with fail
   refine dN (fun Y=>SV w0 R fv sv pv Y/\aj Y v.heap.size 39 [.string nm,.int .i64 tm,.int .i64 td,.slice A9 bI.length c9]) 10 ⟨h5.svd,k.b.drew⟩ (fun w7 h7 hS=>?_);replace h5:=h5.below h7;replace k:=k.below h7
   iterate 6 refine aW ?_
   refine iy 6 (fun _=>⟨hS.1.alloc _,hS.2.alloc _⟩) (fun _=>?_);refine y9 7 aaJ Tryz.underlying25 h5.s (by omega) h5.hR (fun v' w8 ho hg _ _=>⟨⟨h5.grow h5.s (by decide) hg,X8 hS.2 hg (fun z e=>(h.s.lt z e).2)⟩,fun hS=>?_⟩);obtain⟨A8,c8,rfl,_⟩:=bY ho;have fL:=hS.1.1.aI
   iterate 2 refine aW ?_
   refine iL 10 (fun h=>absurd rfl h) (fun _=>?_);refine dH ?_;have hz:=h5.UU (⟨nm,tm,td,bI⟩,⟨A9,bI.length,c9⟩) ⟨rfl,bW k.o (by have:=h.hR;omega)⟩ ho hg;have hF:=FR.grown (R:=R) (i:=1) (u:=.slice A8 (ss.length+1) c8) (ah HBV.out k.bl) h5.s (.inr (.inl rfl)) hg;clear hcx hS fL ho hg k h5 h;go_wp2;go_end0;exact⟨rfl,⟨_,_,hz⟩,hF⟩
theorem Yn:(Tryz.prog.info? 45).map (fun i=>(i.zero,i.size,i.bytes))=some (some (.agg #[.string ⟨#[]⟩,.bool false,.int .i64 0,.int .i64 0,.slice none 0 0,.bool false,.bool false,.string ⟨#[]⟩,.string ⟨#[]⟩,.bool false,.string ⟨#[]⟩,.string ⟨#[]⟩]),12,152):=by kernel_rfl
def zG:ByteArray:=⟨#[99,104,97,114,103,101]⟩
def Ii:ByteArray:=⟨#[115,116,101,112]⟩
def Lc:ByteArray:=⟨#[99,97,112]⟩
def lN (ch sp:Bool) (x y:ByteArray):List ByteArray:=(if ch then [zG] else [])++(if sp then [Ii,x,Lc,y] else [])
theorem Yo (w0 w:World) (R g:Nat) (l:Lw) (ss:List (Sc × Hd)) (ps:List (Pv × Hd)) (fv sv pv:Value) (wd nm s rest x y:ByteArray) (t:Ty) (ch sp:Bool) (st cp:Ra) (body:List Nd) (h:PT w0 w R l ss ps fv sv pv) (hL:cZ w) (ht:mD t=true) (hs:s=bU t) (hn:ps.length<=1000)
  (hr:rest.data.toList.length<=1048576) (hb:zh rest.data.toList=(body,0)) (hx:sp=true->x.size<=1048576/\y.size<=1048576/\dU x=(st,true)/\dU y=(cp,true)) (hz:sp=false->st=zR/\cp=zR) (m:Nat) (hm:m=(lN ch sp x y).length) (hg:aj w g 9 (strs (wd::nm::s::lN ch sp x y))):
  Calls Tryz.prog 136 #[.pointer (some ⟨R,0,none⟩),.slice (some ⟨g,1,none⟩) (m+2:Nat) (m+2:Nat),.string rest] w fun e w'=>e=.returned (.tuple #[])/\(∃v' hd,PT w0 w' R ⟨l.facts,l.aU,l.aH++[⟨nm,t,ch,st,cp,body⟩]⟩ ss (ps++[(⟨nm,t,ch,st,cp,body⟩,hd)]) fv sv v')/\FR R w w':=by
 have HT:=zH (fun W (hb:Below w.heap.size w W)=>hs ▸ yJ t W (hL.below hb) ht);have vG:=zH h;have jU:Hid (∀W,Below w.heap.size w W->cZ W):=fun W hb=>hL.below hb
 have HG:Hid (∀W,Below w.heap.size w W->aj W g 9 (strs (wd::nm::s::lN ch sp x y))):=fun W hb=>hg.below hb hg.lt
 have lI:Hid (∀W,Below w.heap.size w W->W.cell? ⟨g,1,none⟩=some (.string nm)/\W.cell? ⟨g,2,none⟩=some (.string s)):=fun W hb=>⟨(HG.out W hb).cells 1,(HG.out W hb).cells 2⟩
 have HX:=zH hx
 have HPA:Hid (∀W,Below w.heap.size w W->Calls Tryz.prog 137 #[.string rest] W (NP (body,0) W)):=fun W hb'=>by
  have k:=Uu rest.data.toList body W (hL.below hb').e hr hb;exact k
 have HM:=zH tu;obtain⟨tt,tm,td⟩:=t;obtain⟨p1,p2,p3⟩:=st;obtain⟨q1,q2,q3⟩:=cp;have HZ:=zH hz;have EM:=zH hm;unfold Ty.v at HT;simp only at HT;have hm0:(0:Int)<(m:Int)+2:=by omega
 have hm1:(1:Int)<(m:Int)+2:=by omega
 have ak3:decide ((2:Int)<=(m:Int)+2)=true:=decide_eq_true (by omega);clear h hL ht hs hg hx hr hb hz hm;go_enter Tryz.func136,Tryz.ntmps136;go_wp2_with fail;refine (HM.out w).mono ?_;rintro e w1 ⟨rfl,hw1⟩;have hw2:=hw1.symm;clear hw1;subst hw2;have hcg:=fun (X:World) (h:Below w.heap.size w X)=>lI.out X h
 go_upto_region 1 with fail
 go_cut [6] from 13 to 20 (fun u X=>∃W,u=.pointer (some ⟨W.heap.size,0,none⟩)/\Below w.heap.size w W/\IS W X 45 [.string nm,.bool tt,.int .i64 tm,.int .i64 td,.slice none 0 0,.bool false,.bool false,.string ⟨#[]⟩,.string ⟨#[]⟩,.bool false,.string ⟨#[]⟩,.string ⟨#[]⟩] 49 5 (.slice none 0 0) 0 (eP []))
 case first=>
  refine dN (Below w.heap.size w) 9 (ak _ _ 1) (fun v hv hS=>?_)
  iterate 6 refine aW ?_
  have hS0:=hS;refine F8 6 8 (opC (HT.out v hS) ?_) (Jq (fun _=>hS.alloc hS.size _) (fun hS=>?_))
  ·rintro e v1 ⟨rfl,hb1⟩;refine⟨_,rfl,ah hS hb1,fun hS=>?_⟩;refine aG 7 ?_;refine iy 8 (fun _=>hS.alloc hS.size _) (fun _=>?_);refine iL 9 (fun h=>absurd rfl h) (fun _=>?_);refine dH ?_;go_wp2
   go_meet
   case rel=>exact⟨v1,rfl,hS,zB _ _,aj.new _ _ _,World.ownsRow_nil _ _ _ _⟩
  ·refine cO 6 (HT.out _ hS) ?_;rintro e v1 ⟨rfl,hb1⟩;refine⟨_,rfl,ah hS hb1,fun hS2=>?_⟩;refine aG 7 ?_;have k:IS v v1 45 [.string ⟨#[]⟩,.bool false,.int .i64 0,.int .i64 0,.slice none 0 0,.bool false,.bool false,.string ⟨#[]⟩,.string ⟨#[]⟩,.bool false,.string ⟨#[]⟩,.string ⟨#[]⟩] 49 5 (.slice none 0 0) 0 (eP []):=⟨ah (zB _ _) hb1,(aj.new _ _ _).below hb1 (aj.new _ _ _).lt,World.ownsRow_nil _ _ _ _⟩
   have hkc:=k.b.cells;have pq:=k.b.aI;refine iL 9 (fun h=>absurd rfl h) (fun _=>?_);refine dH ?_;have k2:=(((((((((((k.put 0 (.string nm)).put 1 (.bool tt)).put 2 (.int .i64 tm)).put 3 (.int .i64 td)).put 4 (.slice none 0 0)).put 5 (.bool false)).put 6 (.bool false)).put 7 (.string ⟨#[]⟩)).put 8 (.string ⟨#[]⟩)).put 9 (.bool false)).put 10 (.string ⟨#[]⟩)).put 11 (.string ⟨#[]⟩);clear hkc pq k;go_wp2
   go_meet
   case rel=>exact⟨v,rfl,hS0,k2⟩
 case rest=>
  obtain⟨V,rfl,hV,k⟩:=hcut;have HV:=zH hV;clear hcg hV
  go_upto_region 2 with fail
  go_cut [1] from 21 to 22 (fun v w'=>∃A2,v=.slice A2 (m:Nat) (m:Nat)/\Hid (m≠0->A2=some ⟨g,3,none⟩)/\w'=wc)
  case first=>
   rcases Nat.eq_zero_or_pos m with h0|h0
   ·subst h0;go_wp2
    go_meet
    case rel=>exact⟨_,rfl,fun h=>absurd rfl h,rfl⟩
   ·obtain⟨k,rfl⟩:∃k,m=k+1:=⟨m-1,by omega⟩
    go_wp2
    go_meet
    case rel=>exact⟨_,rfl,fun h=>rfl,rfl⟩
  case rest=>
   obtain⟨A2,rfl,HA2,rfl⟩:=hcut
   go_upto_region 3 with fail
   go_cut [31] from 23 to 31 (fun v w'=>v=.bool ch/\w'=wc)
   case first=>
    have h3:=(HG.out _ (ah HV.out k.bl)).cells 3;cases ch<;>cases sp
    ·obtain rfl:m=0:=EM.out;go_wp2
     go_meet
     case rel=>exact⟨rfl,rfl⟩
    ·obtain rfl:m=4:=EM.out;obtain rfl:=HA2.out (by decide);replace h3:wc.cell? ⟨g,3,none⟩=some (.string ⟨#[115,116,101,112]⟩):=h3;go_wp2
     go_meet
     case rel=>exact⟨rfl,rfl⟩
    ·obtain rfl:m=1:=EM.out;obtain rfl:=HA2.out (by decide);replace h3:wc.cell? ⟨g,3,none⟩=some (.string ⟨#[99,104,97,114,103,101]⟩):=h3;go_wp2
     go_meet
     case rel=>exact⟨rfl,rfl⟩
    ·obtain rfl:m=5:=EM.out;obtain rfl:=HA2.out (by decide);replace h3:wc.cell? ⟨g,3,none⟩=some (.string ⟨#[99,104,97,114,103,101]⟩):=h3;go_wp2
     go_meet
     case rel=>exact⟨rfl,rfl⟩
   case rest=>
    obtain⟨rfl,rfl⟩:=hcut
    go_upto_if 31 with fail
    go_cut [1] from 32 to 34 (fun v w'=>∃(A3:Option Addr) (q o3:Nat),v=.slice A3 q q/\Hid (q=if sp then 4 else 0)/\Hid (o3=if ch then 4 else 3)/\Hid (sp=true->A3=some ⟨g,o3,none⟩)/\IS V w' 45 [.string nm,.bool tt,.int .i64 tm,.int .i64 td,.slice none 0 0,.bool ch,.bool false,.string ⟨#[]⟩,.string ⟨#[]⟩,.bool false,.string ⟨#[]⟩,.string ⟨#[]⟩] 49 5 (.slice none 0 0) 0 (eP []))
    case first=>
     cases ch
     ·go_wp2
      go_meet
      case rel=>
       refine⟨A2,m,3,rfl,?_,rfl,fun h=>HA2.out ?_,k⟩
       ·show _=_;rw[EM.out];cases sp<;>rfl
       ·subst h;rw[EM.out];show (4:Nat)≠0;decide
     ·have hkc:=k.b.cells;have pq:=k.b.aI;cases sp
      ·obtain rfl:m=1:=EM.out;obtain rfl:=HA2.out (by decide)
       go_upto_region 4 with fail
       go_region;go_wp2
       go_meet
       case rel=>exact⟨_,0,4,rfl,rfl,rfl,(fun h=>by cases h),(k.put 5 (.bool true)).below (ak _ _ 1)⟩
      ·obtain rfl:m=5:=EM.out;obtain rfl:=HA2.out (by decide)
       go_upto_region 4 with fail
       go_region;go_wp2
       go_meet
       case rel=>exact⟨_,4,4,rfl,rfl,rfl,(fun _=>rfl),(k.put 5 (.bool true)).below (ak _ _ 1)⟩
    case rest=>
     clear k;obtain⟨A3,q,o3,rfl,HQ4,J9,Ro,k⟩:=hcut;clear EM HA2
     go_upto_if 37 with fail
     go_cut [] from 38 to 63 (fun X=>IS V X 45 [.string nm,.bool tt,.int .i64 tm,.int .i64 td,.slice none 0 0,.bool ch,.bool p1,.string p2,.string p3,.bool q1,.string q2,.string q3] 49 5 (.slice none 0 0) 0 (eP []))
     case first=>
      cases sp
      ·obtain rfl:q=0:=HQ4.out;obtain⟨e1,e2⟩:=HZ.out rfl;injection e1 with e1 e3 e4;injection e2 with e2 e5 e6;subst e1 e2 e3 e4 e5 e6;go_wp2
       go_meet
       case rel=>exact k
      ·obtain rfl:q=4:=HQ4.out;obtain rfl:=Ro.out rfl;obtain⟨hx1,hy1,hrx,Gi⟩:=HX.out rfl
       have hcg:=fun (W:World) (hb:Below w.heap.size w W)=>show W.cell? ⟨g,o3,none⟩=some (.string ⟨#[115,116,101,112]⟩)/\W.cell? ⟨g,o3+1,none⟩=some (.string x)/\W.cell? ⟨g,o3+2,none⟩=some (.string ⟨#[99,97,112]⟩)/\W.cell? ⟨g,o3+3,none⟩=some (.string y) from by
        have k:=(HG.out W hb).cells;cases ch
        ·obtain rfl:o3=3:=J9.out;exact⟨k 3,k 4,k 5,k 6⟩
        ·obtain rfl:o3=4:=J9.out;exact⟨k 4,k 5,k 6,k 7⟩
       have Df:Hid (∀W,Laid W->Calls Tryz.prog 135 #[.string x] W fun e w'=>e=.returned (.agg #[.bool p1,.string p2,.string p3])/\Below W.heap.size W w'):=fun W hL=>by
        have k:=uo x W hL hx1 (by rw[hrx]);rw[hrx] at k;exact k
       have HNY:Hid (∀W,Laid W->Calls Tryz.prog 135 #[.string y] W fun e w'=>e=.returned (.agg #[.bool q1,.string q2,.string q3])/\Below W.heap.size W w'):=fun W hL=>by
        have k:=uo y W hL hy1 (by rw[Gi]);rw[Gi] at k;exact k
       clear hx1 hy1 hrx Gi;have hl:=hcg _ (ah HV.out k.bl);go_wp2_with fail;refine (HM.out _).mono ?_;rintro e w5 ⟨rfl,hw5⟩;rw[hw5];clear hw5 hl
       go_upto_region 7 with fail
       refine dN (Below w.heap.size w) 11 (ah HV.out k.bl).drew (fun v hv hS=>?_);replace k:=k.below hv
       iterate 3 refine aW ?_
       refine aG 4 ?_;refine aG 5 ?_;refine aG 6 ?_;refine cO 3 (Df.out v (jU.out _ hS).e.base) ?_;rintro e v1 ⟨rfl,hb1⟩;refine⟨_,rfl,ah hS hb1,fun hS=>?_⟩;replace k:=k.below hb1;refine aG 8 ?_;refine cO 7 (HNY.out v1 (jU.out _ hS).e.base) ?_;rintro e v2 ⟨rfl,hb2⟩;refine⟨_,rfl,ah hS hb2,fun hS=>?_⟩;replace k:=k.below hb2;have hkc:=k.b.cells;have pq:=k.b.aI;refine iL 9 (fun _=>ah HV.out (((k.put 6 _).put 7 _).put 8 _).bl) (fun hS=>?_);replace hS:=hS (by decide);replace k:=((k.put 6 (.bool p1)).put 7 (.string p2)).put 8 (.string p3);simp only[List.set] at k;clear hkc pq;generalize World.setCell (World.setCell (World.setCell v2 _ _) _ _) _ _=v3 at k hS⊢;have hkc:=k.b.cells;have pq:=k.b.aI;refine aG 10 ?_;refine iL 11 (fun h=>absurd rfl h) (fun _=>?_);refine dH ?_;replace k:=((k.put 9 (.bool q1)).put 10 (.string q2)).put 11 (.string q3);simp only[List.set] at k;clear hkc pq;go_wp2
       go_meet
       case rel=>exact k
     case rest=>
      clear k HX HZ HQ4 J9 Ro;have k:=hcut;clear hcut;go_wp2_with fail;refine (HPA.out _ (ah HV.out k.bl)).mono ?_;rintro e w7 ⟨Ab,nb,cb,rfl,hes,hb7,ab6⟩;obtain rfl:nb=body.length:=hes.len;have hW7:=k.hW;replace k:=k.below hb7;have J3:Hid (w7.ownsRow (V.heap.size+1) 49 5 (.slice Ab body.length cb) body.length (eP body)):=bW ab6 hW7;clear hes ab6 hW7;simp only
      go_wp2_with fail;refine (HM.out w7).mono ?_;rintro e w8 ⟨rfl,hw8⟩;rw[hw8];clear hw8;have hkc:=k.b.cells;have pq:=k.b.aI
      go_upto_region 11 with fail
      have k2:IS V (w7.setCell ⟨V.heap.size,4,none⟩ (.slice Ab body.length cb)) 45 [.string nm,.bool tt,.int .i64 tm,.int .i64 td,.slice Ab body.length cb,.bool ch,.bool p1,.string p2,.string p3,.bool q1,.string q2,.string q3] 49 5 (.slice Ab body.length cb) body.length (eP body):=⟨(k.put 4 _).bl,(k.put 4 _).b,eX J3.out 4 _⟩
      clear hkc pq k hb7 J3;generalize World.setCell w7 _ _=X at k2⊢;have h5:=vG.out.below (ah HV.out k2.bl);have hcx:=fun Y (q:SV w0 R fv sv pv Y/\aj Y V.heap.size 45 [.string nm,.bool tt,.int .i64 tm,.int .i64 td,.slice Ab body.length cb,.bool ch,.bool p1,.string p2,.string p3,.bool q1,.string q2,.string q3])=>And.intro q.1.1.cells q.2.cells
      refine dN (fun Y=>SV w0 R fv sv pv Y/\aj Y V.heap.size 45 [.string nm,.bool tt,.int .i64 tm,.int .i64 td,.slice Ab body.length cb,.bool ch,.bool p1,.string p2,.string p3,.bool q1,.string q2,.string q3]) 10 ⟨h5.svd,k2.b.drew⟩ (fun w9 h9 hS=>?_);replace h5:=h5.below h9;replace k2:=k2.below h9
      iterate 6 refine aW ?_
      refine iy 6 (fun _=>⟨hS.1.alloc _,hS.2.alloc _⟩) (fun _=>?_);refine y9 7 Yn Tryz.underlying26 h5.p (by omega) h5.hR (fun v' w10 ho hg _ _=>⟨⟨h5.grow h5.p (by decide) hg,X8 hS.2 hg (fun z e=>((vG.out.below HV.out).p.lt z e).2)⟩,fun hS=>?_⟩);obtain⟨A8,c8,rfl,_⟩:=bY ho;have fL:=hS.1.1.aI
      iterate 2 refine aW ?_
      refine iL 10 (fun h=>absurd rfl h) (fun _=>?_);refine dH ?_;have hz:=h5.pushP (⟨nm,⟨tt,tm,td⟩,ch,⟨p1,p2,p3⟩,⟨q1,q2,q3⟩,body⟩,⟨Ab,body.length,cb⟩) ⟨rfl,bW k2.o (by have:=(vG.out.below HV.out).hR;omega)⟩ ho hg;have hF:=FR.grown (R:=R) (i:=2) (u:=.slice A8 (ps.length+1) c8) (ah HV.out k2.bl) h5.p (.inr (.inr rfl)) hg;clear hcx hS fL ho hg k2 h5;go_wp2;go_end0;exact⟨rfl,⟨_,_,hz⟩,hF⟩
inductive Ln
 |f (d:Dc)
 |s (x:Sc)
 |p (x:Pv)
def Lw.add (l:Lw):Ln->Lw
 |.f d=>⟨l.facts++[d],l.aU,l.aH⟩
 |.s x=>⟨l.facts,l.aU++[x],l.aH⟩
 |.p x=>⟨l.facts,l.aU,l.aH++[x]⟩
def yh:ByteArray:=⟨#[102,97,99,116]⟩
def uY:ByteArray:=⟨#[115,99,104,101,100,117,108,101]⟩
def vW:ByteArray:=⟨#[112,114,111,118,105,115,105,111,110]⟩
def nH (s:ByteArray):Ln->Prop
 |.f d=>∃rest,vV s [yh,d.name,bU d.ty] rest false/\dI d.name=true/\mD d.ty=true
 |.s x=>∃rest,vV s [uY,x.name,bU ⟨false,x.aN,x.days⟩] rest true/\dI x.name=true/\mD ⟨false,x.aN,x.days⟩=true/\DY rest x.bI
 |.p x=>∃(rest:ByteArray) (sp:Bool) (a b:ByteArray),vV s (vW::x.name::bU x.ty::lN x.dS sp a b) rest true/\dI x.name=true/\mD x.ty=true/\rest.data.toList.length<=1048576/\zh rest.data.toList=(x.body,0)/\
   (sp=true->a.size<=1048576/\b.size<=1048576/\dU a=(x.step,true)/\dU b=(x.cap,true))/\(sp=false->x.step=zR/\x.cap=zR)
theorem aaL (w0 w:World) (R:Nat) (l:Lw) (s:ByteArray) (ln:Ln) (h:PX w0 w R l) (hL:cZ w) (hf:l.facts.length<=1000) (hs:l.aU.length<=1000) (hp:l.aH.length<=1000) (ho:nH s ln):
  Calls Tryz.prog 34 #[.pointer (some ⟨R,0,none⟩),.string s] w fun e w'=>e=.returned (.bool true)/\PX w0 w' R (l.add ln)/\FR R w w':=by
 have hpx:=h;obtain⟨ss,ps,fv,sv,pv,uX⟩:=h;have hsn:ss.length=l.aU.length:=by rw[<-uX.sl,List.length_map]
 have hpn:ps.length=l.aH.length:=by rw[<-uX.pl,List.length_map]
 cases ln with
 |f d=>
  obtain⟨rest,hw,hn,ht⟩:=ho;obtain⟨nm,t⟩:=d;refine Dp w0 w R l _ s rest yh nm [bU t] 0 false hpx hL hw rfl hn 0 _ (.inl ⟨rfl,rfl,rfl,rfl⟩) (fun W G hb hG=>?_);refine (XY w0 W R G 2 l ss ps fv sv pv nm (bU t) rest t (uX.below hb) (hL.below hb) ht rfl hf ⟨_,hG,rfl,rfl⟩).mono ?_;rintro e w' ⟨h1,⟨v',h2⟩,h3⟩;exact⟨h1,⟨_,_,_,_,_,h2⟩,h3⟩
 |s x=>
  obtain⟨rest,hw,hn,ht,hr⟩:=ho;obtain⟨nm,tm,td,bI⟩:=x;refine Dp w0 w R l _ s rest uY nm [bU ⟨false,tm,td⟩] 0 true hpx hL hw rfl hn 1 _ (.inr (.inl ⟨rfl,rfl,rfl,rfl⟩)) (fun W G hb hG=>?_);refine (U7 w0 W R G 2 l ss ps fv sv pv nm (bU ⟨false,tm,td⟩) rest tm td bI (uX.below hb) (hL.below hb) ht rfl (by omega) hr ⟨_,hG,rfl,rfl⟩).mono ?_;rintro e w' ⟨h1,⟨v',hd,h2⟩,h3⟩;exact⟨h1,⟨_,_,_,_,_,h2⟩,h3⟩
 |p x=>
  obtain⟨rest,sp,a,b,hw,hn,ht,hr,hb',hx,hz⟩:=ho;obtain⟨nm,t,ch,st,cp,body⟩:=x;refine Dp w0 w R l _ s rest vW nm (bU t::lN ch sp a b) (lN ch sp a b).length true hpx hL hw rfl hn 2 _ (.inr (.inr ⟨rfl,rfl,rfl,rfl⟩)) (fun W G hb hG=>?_);refine (Yo w0 W R G l ss ps fv sv pv vW nm (bU t) rest a b t ch sp st cp body (uX.below hb) (hL.below hb) ht rfl (by omega) hr hb' hx hz _ rfl hG).mono ?_;rintro e w' ⟨h1,⟨v',hd,h2⟩,h3⟩;exact⟨h1,⟨_,_,_,_,_,h2⟩,h3⟩
def Ib:ByteArray:=⟨#[102,97,99,116,32]⟩
def U4:ByteArray:=⟨#[115,99,104,101,100,117,108,101,32]⟩
def Og:ByteArray:=⟨#[112,114,111,118,105,115,105,111,110,32]⟩
def U5:ByteArray:=⟨#[32,99,104,97,114,103,101]⟩
def Oh:ByteArray:=⟨#[32,115,116,101,112,32]⟩
def sCap:ByteArray:=⟨#[32,99,97,112,32]⟩
def nY:ByteArray:=⟨#[32]⟩
def uV:ByteArray:=⟨#[10]⟩
def Rj:ByteArray:=⟨#[58,32]⟩
def tH (k:Nat):ByteArray:=if k=0 then ⟨#[58]⟩ else ⟨#[44]⟩
def bodyT (e:List Nd):ByteArray:=⟨(if bQ e=0 then textE e else []).toArray⟩
def U6 (d:Dc):List ByteArray:=[Ib,d.name,nY,bU d.ty,uV]
def aay (s:Sc):List ByteArray:=[U4,s.name,nY,bU ⟨false,s.aN,s.days⟩]
def bkW (k:Nat) (b:Bk):List ByteArray:=[tH k,nY,aO b.fr,nY,aO b.rt]
def xw:Nat->List Bk->List UInt8
 |_,[]=>[]
 |k,b::r=>bF (bkW k b)++xw (k+1) r
def vw (s:Sc):List UInt8:=bF (aay s)++xw 0 s.bI++bF [uV]
def pvW (p:Pv):List ByteArray:=[Og,p.name,nY,bU p.ty]
def stW (p:Pv):List ByteArray:=[Oh,aO p.step,sCap,aO p.cap]
def rZ (p:Pv):List UInt8:=bF (pvW p)++(if p.dS then bF [U5] else [])++(if dZ p then [] else bF (stW p))++bF [Rj,bodyT p.body,uV]
def uw (d:Dc):List UInt8:=bF (U6 d)
def dh (l:Lw):List UInt8:=l.facts.flatMap uw++l.aU.flatMap vw++l.aH.flatMap rZ
structure WS (B b:Nat) (w0 w:World) (bs:List UInt8):Prop where
 ib:Lib.IsBuilder 80 5 B b (lc bs) w
 bl:Below B w0 w
 hb:B<=w0.heap.size
theorem WS.size {B b:Nat} {w0 w:World} {bs:List UInt8} (h:WS B b w0 w bs):B<=w.heap.size:=Nat.le_trans h.hb h.bl.size
theorem WS.grow {B b:Nat} {w0 w w':World} {bs:List UInt8} (h:WS B b w0 w bs) (hb:Below w.heap.size w w'):WS B b w0 w' bs:=
 ⟨Cm h.ib hb,h.bl.trans (hb.mono h.size),h.hb⟩
theorem WS.lt {B b:Nat} {w0 w:World} {bs:List UInt8} (h:WS B b w0 w bs):b<w.heap.size:=Xa h.ib
theorem WS.words {B b:Nat} {w0 w:World} {bs:List UInt8} (h:WS B b w0 w bs) (l:List ByteArray) (g n:Nat) (hg:aj w g 9 (strs l)) (hgb:b<g) (hn:n=l.length) (hm:n<=1000) (h0:l≠[]) (hlen:bs.length+(bF l).length<=100000000000000):
  Calls Tryz.prog 81 #[.pointer (some ⟨b,0,none⟩),.slice (some ⟨g,0,none⟩) n n] w fun e w'=>e=.returned (.tuple #[])/\(WS B b w0 w' (bs++bF l)/\BF b w w'):=by
 refine (UR B b g n n bs l w h.ib hg (by omega) hn hm h0 hlen h.size).mono ?_;rintro e w' ⟨rfl,hx,hb,hf⟩;exact⟨rfl,⟨.inr hx,h.bl.trans hb,h.hb⟩,hf⟩
end Go.Proofs.YtimokmplkpbmdaaGreatDoor
