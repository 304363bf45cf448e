/- A part of the proof: Wi Wj Us Uo Up. -/
import Derived.Test.YtimokmplkpbmdaaGreatDoorB35
set_option linter.all false
set_option maxRecDepth 100000
set_option maxHeartbeats 0
namespace Go.Proofs.YtimokmplkpbmdaaGreatDoor
open Go.RowKit
theorem jDecl:(Tryz.prog.info? 36).map (fun i=>(i.zero,i.size,i.bytes))=some (some (.agg #[.string ⟨#[]⟩,.bool false,.int .i64 0,.int .i64 0]),4,40):=by kernel_rfl
theorem jSched:(Tryz.prog.info? 39).map (fun i=>(i.zero,i.size,i.bytes))=some (some (.agg #[.string ⟨#[]⟩,.int .i64 0,.int .i64 0,.slice none 0 0]),4,56):=by kernel_rfl
theorem jProv:(Tryz.prog.info? 45).map (fun i=>(i.zero,i.size,i.bytes))=some (some (.agg #[.string ⟨#[]⟩,.bool false,.int .i64 0,.int .i64 0,.slice none 0 0,.bool false,.bool false,.string ⟨#[]⟩,.string ⟨#[]⟩,.bool false,.string ⟨#[]⟩,.string ⟨#[]⟩]),12,152):=by kernel_rfl
theorem sg_eq (fs:List Dc) (ss:List (Sc × Hd)) (ps:List (Pv × Hd)):fs.map fSig++(restP ps 0++ss.map fun x=>sSig x.1)=sigsL (lwP fs ss ps):=by
 unfold restP sigsL lwP;simp only[List.map_map,List.append_assoc]
 rfl
theorem ty_k {x:Pv × Hd} (h:x.1.ty=tCash∨(x.1.ty=tTruth/\x.1.name=thr)):TyK 5 x.1.ty.truth x.1.ty.money x.1.ty.days:=by
 rcases h with h|⟨h,_⟩<;>rw[h]
 ·exact .inr ⟨rfl,.inl ⟨by omega,.inl ⟨rfl,rfl⟩⟩⟩
 ·exact .inl ⟨by omega,rfl,rfl,rfl⟩
def MRet (w:World) (e:Ending) (w':World):Prop:=∃(l:Lw) (ss:List (Sc × Hd)) (ps:List (Pv × Hd)) (f s p:Hd),e=.returned (lawV f s p)/\MdG l/\LO w' w.heap.size l ss ps f s p/\Below w.heap.size w w'
theorem wMade11_any (xs:List (List Int × Hd)) (hh:Hd) (w:World) (hr:RowAt w rowV xs hh) (hq:∀r∈xs,IR w w.heap.size r):
  Calls Tryz.prog 21 #[.slice hh.a hh.n hh.c] w (MRet w):=by
 go_enter Tryz.func21,Tryz.ntmps21
 go_upto_region 1 with fail
 generalize hW:w.alloc _=W;obtain⟨h0,hb⟩:=zA hW;clear hW;go_wp2_with fail;refine (wlist_any xs hh 0 w.heap.size W (hr.below hb) (fun r hm=>(hq r hm).below hb)).mono ?_;rintro e w1 ⟨r,rfl,hir,rfl⟩
 go_upto_region 2 with fail
 generalize hX:W.alloc _=W1;obtain⟨hd0,hg⟩:=zA hX;have hds:DS W1 W.heap.size (W.heap.size+1):=⟨_,_,_,_,0,⟨hd0,hir.len,Nat.le_trans hir.cap hir.max,hir.rd.below hg,hir.rng,fun hn ad e=>by have:=hir.lt hn ad e;have:=hb.size;omega,Nat.zero_le _⟩,Nat.lt_succ_self _,fun hn ad e=>by have:=hir.lt hn ad e;have:=hb.size;omega⟩
 have h0D:=h0.lt;replace h0:=h0.below hg h0.lt;have hb1:=bstep hb hg;have hDM:=hd0.lt;clear hX hg hd0 hir;generalize W.heap.size=D at hds h0D hDM⊢;clear hb;go_wp2_with fail;refine (wNum_any 1 0 W1).mono ?_;rintro e w2 ⟨rfl,hb2⟩
 go_upto_region 3 with fail
 generalize hX:w2.alloc _=W2;obtain⟨hm,hg⟩:=zA hX;have hb3:=bstep hb2 hg;replace hds:=hds.below hb3;replace h0:=h0.below hb3 h0.lt;replace hb1:=bstep hb1 hb3;replace hDM:D<w2.heap.size:=Nat.lt_of_lt_of_le hDM hb2.size;clear hX hg hb2 hb3;generalize w2.heap.size=M at hm hDM⊢;go_wp2_with fail;refine (wNum_any 0 0 W2).mono ?_;rintro e w3 ⟨rfl,hb2⟩;replace hds:=hds.below hb2;replace h0:=h0.below hb2 h0.lt;replace hm:=hm.below hb2 hm.lt;replace hb1:=bstep hb1 hb2;clear hb2
 go_upto_region 4 with fail
 generalize hX:(w3.alloc _).alloc _=X;have h:=MZ.first hds h0 hm hb1 h0D hDM ⟨⟨#[97,103,101]⟩,⟨false,0,0⟩⟩ hX
 clear hX hds h0 hm hb1 h0D hDM;generalize w3.heap.size+1=L at h⊢;generalize w3.heap.size+2=U at h;generalize (Value.slice (some ⟨w3.heap.size,0,none⟩) 1 1)=fv at h;go_wp2_with fail;refine (h.next 4 (by omega) (by omega)).mono ?_;rintro e w1 ⟨r1,hr1,rfl,h',_⟩;clear h hr1
 go_upto_if 28 with fail
 go_cut [] from 28 to 35 (fun X=>∃U fs fv,fs.length<=2/\Hid (FsG (fs++[⟨wage,tCash⟩]))/\MZ w X D M L 0 U fs [] [] fv (.slice none 0 0) (.slice none 0 0))
 case first=>
  have hc:=h'.cells;go_wp2_with (at_builtin;go_must (refine zPg jDecl Tryz.underlying24 h'.f (by simp) h'.hB ?_))
  ·intro v' w2 ho hg;obtain⟨A1,c1,rfl,_⟩:=own_rd ho;have kL:=(TF.grown h'.f hg).blk h'.b (by decide);have cL:=kL.cells;have fL:=kL.froz;go_wp2
   go_meet
   case rel=>exact⟨_,_,_,by simp,(show Hid (FsG ([⟨⟨#[97,103,101]⟩,⟨false,0,0⟩⟩,⟨⟨#[114,101,110,116]⟩,⟨false,1,0⟩⟩]++[⟨wage,tCash⟩])) from fsG2),h'.pushF ⟨⟨#[114,101,110,116]⟩,⟨false,1,0⟩⟩ ho hg⟩
  ·go_meet
   case rel=>exact⟨_,_,_,by simp,(show Hid (FsG ([⟨⟨#[97,103,101]⟩,⟨false,0,0⟩⟩]++[⟨wage,tCash⟩])) from fsG1),h'⟩
 case rest=>
  clear h';obtain⟨U,fs,fv,hf,HFS,h⟩:=hcut;have hc:=h.cells;go_wp2_with (at_builtin;go_must (refine zPg jDecl Tryz.underlying24 h.f (by omega) h.hB ?_));intro v' w2 ho hg;obtain⟨A1,c1,rfl,_⟩:=own_rd ho;have kL:=(TF.grown h.f hg).blk h.b (by decide);have cL:=kL.cells;have fL:=kL.froz
  go_upto_region 7 with fail
  have h':=h.pushF ⟨⟨#[119,97,103,101]⟩,⟨false,1,0⟩⟩ ho hg;have hf3:(fs++[(⟨⟨#[119,97,103,101]⟩,⟨false,1,0⟩⟩:Dc)]).length<=3:=by rw[List.length_append];simp;omega
  generalize World.setCell w2 _ _=Y at h'⊢;replace HFS:Hid (FsG (fs++[(⟨⟨#[119,97,103,101]⟩,⟨false,1,0⟩⟩:Dc)])):=HFS;generalize fs++[(⟨⟨#[119,97,103,101]⟩,⟨false,1,0⟩⟩:Dc)]=fs at h' hf3 HFS;clear h hc kL cL fL ho hg hf;generalize (Value.slice A1 _ c1)=fv at h';generalize w2.heap.size=U at h';have hc:=fun X (h:MZ w X D M L 0 U fs [] [] fv (.slice none 0 0) (.slice none 0 0))=>h.cells
  refine reS (fun X=>MZ w X D M L 0 U fs [] [] fv (.slice none 0 0) (.slice none 0 0)) 7 (h'.below (drewN_below _ _ 1)) (fun w1 _ h=>?_);have HMB:=zH h.hB
  iterate 3 refine reA ?_
  refine reC 3 (wbrackets_any D (D+1) true w1 h.ds h.hDu) ?_;rintro e w2 ⟨b1,l1,rfl,hg1,hq1,hd1,ho1⟩;have HQ1:=zH (own_lower hq1 HMB.out);have HSC:Hid (ScG [(⟨⟨#[98,97,115,105,99]⟩,1,0,l1⟩,b1)]):=scG1 hg1 b1;have HG1:=zH hg1;clear hg1 hq1;refine⟨_,rfl,h.onl hd1 ho1,fun h=>?_⟩;refine reZ 4 ?_;refine reV 5 (fun _=>h.below (zB _ _)) (fun _=>?_);refine reZ 6 ?_;generalize hX:w2.alloc _=X;have hx:=(h.below (zA hX).2).b;have cL:=hx.cells;have fL:=hx.froz;refine reW 7 (fun h=>absurd rfl h) (fun _=>?_);refine reE ?_;have k:=h.setSX (⟨⟨#[98,97,115,105,99]⟩,1,0,l1⟩,b1) HQ1.out hX;generalize World.setCell X _ _=Y at k⊢;generalize w2.heap.size+1=U2 at k;generalize (Value.slice (some ⟨w2.heap.size,0,none⟩) 1 1)=sv at k;clear hc h' h hX hx cL fL hd1 ho1;go_wp2_with fail;refine (k.next 2 (by omega) (by omega)).mono ?_;rintro e w3 ⟨r2,hr2,rfl,h,_⟩;clear k hr2
  go_upto_if 52 with fail
  go_cut [] from 52 to 62 (fun X=>∃U ss sv,ss.length<=2/\Hid (ScG ss)/\MZ w X D M L 0 U fs ss [] fv sv (.slice none 0 0))
  case first=>
   go_wp2
   ·have hc:=fun X (h:SZ L M fv sv (.slice none 0 0) X)=>h.cells
    refine reS (SZ L M fv sv (.slice none 0 0)) 10 (h.below (drewN_below _ _ 1)).sz (fun w1 h1 hS=>?_);replace h:=h.below h1;have HMB:=zH h.hB
    iterate 5 refine reA ?_
    refine reC 5 (wbrackets_any D (D+1) false w1 h.ds h.hDu) ?_;rintro e w2 ⟨b2,l2,rfl,hg2,hq2,hd1,ho1⟩;have HQ2:=zH (own_lower hq2 HMB.out);have HS2:=zH (scG2 HG1.out hg2 b1 b2);clear hg2 hq2;replace h:=h.onl hd1 ho1;refine⟨_,rfl,h.sz,fun hS=>?_⟩;refine reZ 6 ?_;refine reV 7 (fun _=>(h.below (zB _ _)).sz) (fun _=>?_);refine reP 8 jSched Tryz.underlying25 h.s (by simp) h.hB (fun v' w4 ho hg _ _=>⟨h.sz.tf (TF.grown h.s hg) (by decide) (by decide),fun hS=>?_⟩);obtain⟨A1,c1,rfl,_⟩:=own_rd ho;have cL:=hS.1.cells;have fL:=hS.1.froz;refine reZ 9 ?_;refine reW 10 (fun h=>absurd rfl h) (fun _=>?_);refine reE ?_;go_wp2
    go_meet
    case rel=>exact⟨_,_,_,by simp,HS2,h.pushS (⟨⟨#[101,120,116,114,97]⟩,1,0,l2⟩,b2) HQ2.out ho hg⟩
   ·go_meet
    case rel=>exact⟨_,_,_,by simp,HSC,h⟩
  case rest=>
   clear h HSC HG1 HQ1;obtain⟨U,ss,sv,hs2,HSC,h⟩:=hcut
   go_upto_region 11 with fail
   generalize hX:wc.alloc _=X;have h':=h.names hX;have hN0:wc.heap.size≠0:=by have:=h.hL;have:=h.hU;have:=h.hW;omega
   generalize wc.heap.size=N at h' hN0⊢;clear h hX;go_wp2
   go_loopg [7] 6 (fun g iv wr=>∃(i:Nat) (ps:List (Pv × Hd)) (pv:Value) (U:Nat),i+g=6/\iv=.int .i64 i/\MZ w wr D M L N U fs ss ps fv sv pv/\Pk i ps/\Hid (∀x∈ps,plainP x.1=true))
   case atStart=>exact⟨0,[],_,_,by omega,rfl,h',Pk.zero,fun _ h=>by cases h⟩
   case round=>
    clear h';obtain⟨i,ps,pv,U,hi,rfl,h,hp,HPL⟩:=hrel;by_cases hlt:i<6
    ·have hl6:i<six.length:=hlt;have hc:=fun X (h:MZ w X D M L N U fs ss ps fv sv pv)=>And.intro (h.nm hN0 hl6) h.cells
     obtain⟨s,hs⟩:=zE (six[i]'hl6);rw[<-hs] at hc;have HS:=zH hs;clear hs;have i0:(0:Int)<=(i:Int):=by omega
     have i1:(i:Int)<6:=by omega
     go_upto_region 14 with fail
     refine reS (fun X=>MZ w X D M L N U fs ss ps fv sv pv) 6 (h.below (drewN_below _ _ 1)) (fun w1 _ h=>?_)
     iterate 5 refine reA ?_
     refine reV 5 (fun _=>h.below (zB _ _)) (fun _=>?_);refine reW 6 (fun h=>absurd rfl h) (fun _=>?_);refine reE ?_;clear hc;generalize hX:w1.alloc _=X;obtain⟨hP0,hb⟩:=zA hX;have k:=h.up.low hb;clear hX h hb;generalize w1.heap.size=P at hP0 k⊢;obtain⟨x,hx1,hx2,hP⟩:∃x:Pv × Hd,x.1.name=s/\Hid (PkL x/\x.1.charge=false)/\Blk X P 45 (pvCells x):=⟨(⟨s,⟨false,1,0⟩,false,⟨false,⟨#[]⟩,⟨#[]⟩⟩,⟨false,⟨#[]⟩,⟨#[]⟩⟩,[]⟩,⟨none,0,0⟩),rfl,⟨⟨⟨.inl rfl,fun h=>by cases h⟩,(show plainP _=true from by unfold plainP zR;simp),rfl,rfl⟩,rfl⟩,hP0⟩
     clear hP0;have HX:=zH hx1;clear hx1
     go_upto_region 15 with fail
     go_cut [81] from 73 to 80 (fun bv Y=>(∃b,bv=.bool b/\Hid (b=true->s=thr))/\MZ w Y D M L N P fs ss ps fv sv pv/\Blk Y P 45 (pvCells x))
     case first=>
      have hn:=k.nm hN0 hl6;rw[<-HS.out] at hn;by_cases he:s=⟨#[116,104,114,101,115,104,111,108,100]⟩
      ·subst he;go_wp2_with fail;refine (k.next 2 (by omega) (by omega)).mono ?_;rintro e w2 ⟨r3,_,rfl,k',ho⟩;have hP':=ho.blk hP (by have:=k.hM;have:=k.hL;have:=k.hU;omega);clear k hP;go_wp2
       all_goals
        go_meet
        case rel=>exact⟨⟨_,rfl,fun _=>rfl⟩,k',hP'⟩
      ·have he1:=(st_ne he).1;have he2:=(st_ne he).2;go_wp2
       go_meet
       case rel=>exact⟨⟨_,rfl,fun h=>by cases h⟩,k,hP⟩
     case rest=>
      clear k hP;obtain⟨⟨b,rfl,HBT⟩,k,hP⟩:=hcut
      go_upto_if 81 with fail
      go_cut [] from 82 to 83 (fun Y=>∃x:Pv × Hd,Hid (x.1.name=s)/\Hid (PkL x/\x.1.charge=false)/\MZ w Y D M L N P fs ss ps fv sv pv/\Blk Y P 45 (pvCells x))
      case first=>
       cases b
       ·go_wp2
        go_meet
        case rel=>exact⟨x,HX,hx2,k,hP⟩
       ·go_wp2_with fail;refine (wTruth_any wc).mono ?_;rintro e w2 ⟨rfl,hb⟩;have hP':=hP.below hb hP.lt;have k':=k.below hb;have cP:=hP'.cells;have fP:=hP'.froz;unfold pvCells at cP;clear k hP hb;go_wp2
        go_meet
        case rel=>exact⟨({x.1 with ty:=⟨true,0,0⟩},x.2),HX,⟨⟨⟨.inr ⟨rfl,HX.out.trans (HBT.out trivial)⟩,fun h=>by have h2:=hx2.out.2;rw[show x.1.charge=true from h] at h2;cases h2⟩,hx2.out.1.2⟩,hx2.out.2⟩,k'.at ((((Onl.refl _ _).set 1 _).set 2 _).set 3 _),((hP'.set 1 _).set 2 _).set 3 _⟩
      case rest=>
       clear HX hx2 k hP x HBT;obtain⟨x,HX,hx2,k,hP⟩:=hcut;have hn:=k.nm hN0 hl6;rw[<-HS.out] at hn
       go_upto_region 17 with fail
       go_cut [93] from 84 to 92 (fun bv Y=>(∃b,bv=.bool b/\Hid (b=true->s≠thr))/\Y=wc)
       case first=>
        by_cases he:s=⟨#[116,97,120]⟩
        ·subst he;go_wp2
         go_meet
         case rel=>exact⟨⟨_,rfl,fun _=>by decide⟩,rfl⟩
        ·have he1:=(st_ne he).1;have he2:=(st_ne he).2;by_cases hf:s=⟨#[116,111,116,97,108]⟩
         ·subst hf;go_wp2
          go_meet
          case rel=>exact⟨⟨_,rfl,fun _=>by decide⟩,rfl⟩
         ·have hf1:=(st_ne hf).1;have hf2:=(st_ne hf).2;go_wp2
          go_meet
          case rel=>exact⟨⟨_,rfl,fun h=>by cases h⟩,rfl⟩
       case rest=>
        obtain⟨⟨b2,rfl,HBC⟩,rfl⟩:=hcut;clear hn
        go_upto_if 93 with fail
        go_cut [] from 94 to 97 (fun Y=>∃x:Pv × Hd,Hid (x.1.name=s)/\Hid (PkL x)/\MZ w Y D M L N P fs ss ps fv sv pv/\Blk Y P 45 (pvCells x))
        case first=>
         cases b2
         ·go_wp2
          go_meet
          case rel=>exact⟨x,HX,hx2.out.1,k,hP⟩
         ·go_wp2_with fail;refine (k.next 3 (by omega) (by omega)).mono ?_;rintro e w2 ⟨r3,_,rfl,k',ho⟩;have hP':=ho.blk hP (by have:=k.hM;have:=k.hL;have:=k.hU;omega);have cP:=hP'.cells;have fP:=hP'.froz;unfold pvCells at cP;clear k hP ho;go_wp2
          go_meet
          case rel=>exact⟨({x.1 with charge:=decide (0<r3)},x.2),HX,⟨⟨hx2.out.1.1.1,fun _=>hx2.out.1.1.1.resolve_right (fun h=>HBC.out trivial (HX.out.symm.trans h.2))⟩,hx2.out.1.2⟩,k'.at ((Onl.refl _ _).set 5 _),hP'.set 5 _⟩
        case rest=>
         clear HX hx2 k hP x HBC;obtain⟨x,HX,hx2,k,hP⟩:=hcut
         go_upto_region 19 with fail
         go_cut [104] from 98 to 103 (fun bv Y=>(∃b,bv=.bool b/\Hid (i=3->b=true))/\MZ w Y D M L N P fs ss ps fv sv pv/\Blk Y P 45 (pvCells x))
         case first=>
          by_cases h3:i=3
          ·subst h3;go_wp2
           go_meet
           case rel=>exact⟨⟨true,rfl,fun _=>rfl⟩,k,hP⟩
          ·have h3b:((i:Int)==3)=false:=beq_eq_false_iff_ne.2 (by omega);have h3c:¬(i:Int)=3:=by omega
           go_wp2_with fail;refine (k.next 5 (by omega) (by omega)).mono ?_;rintro e w2 ⟨r3,_,rfl,k',ho⟩;have hP':=ho.blk hP (by have:=k.hM;have:=k.hL;have:=k.hU;omega);clear k hP ho;go_wp2
           go_meet
           case rel=>exact⟨⟨_,rfl,fun h=>absurd h h3⟩,k',hP'⟩
         case rest=>
          clear k hP;obtain⟨⟨b3,rfl,h3⟩,k,hP⟩:=hcut;have cP:=hP.cells;unfold pvCells at cP;have hc:=k.cells;cases b3
          ·go_wp2
           go_roundg (6-(i+1))
           case measure=>omega
           case rel=>exact⟨i+1,_,_,_,by omega,by go_num,k,hp.skip hl6 (fun e=>by have:=h3.out e;cases this),HPL⟩
          ·go_wp2_with (at_builtin;go_must (refine zPg jProv Tryz.underlying26 k.p (by have:=hp.len;omega) k.hB ?_));intro v' w2 ho hg;obtain⟨A1,c1,rfl,_⟩:=own_rd ho;have kL:=(TF.grown k.p hg).blk k.b (by decide);have cL:=kL.cells;have fL:=kL.froz;go_wp2
           go_roundg (6-(i+1))
           case measure=>omega
           case rel=>exact⟨i+1,_,_,_,by omega,by go_num,k.pushP x hx2.out.2.2 ho hg,hp.push hl6 x (HX.out.trans HS.out) hx2.out.1,fun y hy=>(List.mem_append.1 hy).elim (HPL.out y) (fun e=>by rw[List.mem_singleton.1 e];exact hx2.out.2.1)⟩
    ·obtain rfl:i=6:=by omega
     go_wp2_with fail;refine (h.next 8 (by omega) (by omega)).mono ?_;rintro e w1 ⟨kd,hkd,rfl,k,_⟩;clear h;obtain⟨f9,s9,p9,rfl,rfl,rfl,rf,rs,rp⟩:=k.rows;have hc:=k.cells;go_wp2_with fail;have HXS:=xSigs_any fs ss ps f9 s9 p9 w1 rf rs rp (by omega) (by omega) (by have:=hp.len;omega);rw[sg_eq] at HXS;have HN:=zH (nmG HFS.out HSC.out hp);have hj0:PkJ (sigsL (lwP fs ss ps)) fs ss ps 0:=⟨hp,rfl,fun _ _ h=>absurd h (Nat.not_lt_zero _),HPL.out⟩
     have HKD:=zH HN.out.key;have HOK:=zH HN.out.nok
     have hsl:(sigsL (lwP fs ss ps)).length<=1000:=by
      obtain⟨n1,n2,n3⟩:=HN.out.len;unfold sigsL;simp only[List.length_append,List.length_map]
      omega
     have hne:=hp.ne (by omega);have hpl6:=hp.len;clear HN HPL hp;generalize sigsL (lwP fs ss ps)=sg at*;refine HXS.mono ?_;rintro e w2 ⟨av,rfl,hso,hb⟩;have h:=k.below hb;have hso:w2.ownsRow (M+1) 102 5 av sg.length (sgs sg):=own_lower hso k.hB;clear k hc hb rf rs rp HXS;obtain⟨g,pc,hpv⟩:=h.pnn hne;rw[hpv] at h⊢;clear hpv p9;obtain⟨Aa,ca,rfl,_⟩:=own_rd hso;obtain⟨n0,hn0⟩:=zE ps.length;rw[<-hn0] at h⊢;have hnp:n0<=6:=by omega
     clear hne hpl6;go_wp2
     go_loopg [11] n0 (fun q iv wr=>∃(j U:Nat) (ps:List (Pv × Hd)),j+q=n0/\iv=.int .i64 j/\MZ w wr D M L N U fs ss ps (.slice f9.a f9.n f9.c) (.slice s9.a s9.n s9.c) (.slice (some ⟨g,0,none⟩) n0 pc)/\PkJ sg fs ss ps j/\ps.length=n0/\wr.ownsRow (M+1) 102 5 (.slice Aa sg.length ca) sg.length (sgs sg))
     case atStart=>exact⟨0,_,ps,by omega,rfl,h,hj0,hn0.symm,hso⟩
     case round=>
      clear h hj0 hso hn0 U;obtain⟨j,U,ps,hj,rfl,h,hp,hpl,hso⟩:=hrel;by_cases hlt:j<n0
      ·have hjp:j<ps.length:=by omega
       have hc:=fun X (h:MZ w X D M L N U fs ss ps (.slice f9.a f9.n f9.c) (.slice s9.a s9.n s9.c) (.slice (some ⟨g,0,none⟩) n0 pc))=>And.intro (h.pc hjp) h.cells
       have HT:=zH (hp.k.ty _ (List.getElem_mem hjp));obtain⟨x,hx⟩:=zE ps[j];rw[<-hx] at hc HT;have HX:=zH hx;clear hx;have j0:(0:Int)<=(j:Int):=by omega
       have j1:(j:Int)<(n0:Int):=by omega
       have hw:IntKind.i64.wrap ((j:Int)+1)=(j:Int)+1:=IntWalk.i64_in _ (by omega);have hl0:=hc _ h
       go_upto_region 26 with fail
       clear hl0;refine reS (fun X=>MZ w X D M L N U fs ss ps (.slice f9.a f9.n f9.c) (.slice s9.a s9.n s9.c) (.slice (some ⟨g,0,none⟩) n0 pc)) 26 (h.below (drewN_below _ _ 1)) (fun w3 h3 h=>?_);replace hso:=own_below hso h3
       iterate 12 refine reA ?_
       refine reZ 13 ?_;refine reZ 14 ?_;refine reZ 15 ?_;refine reZ 16 ?_;refine reZ 17 ?_;refine reZ 18 ?_;refine reZ 19 ?_;refine reZ 20 ?_;refine reZ 21 ?_;refine reC 12 (wbefore_any sg Aa sg.length ca _ _ w3 rfl hsl (own_hd hso).2.2.2) ?_;rintro e w4 ⟨v2,sg2,rfl,hl2,hsub,ho2,hb2⟩;replace hso:=own_below hso hb2;obtain⟨A2,c2,rfl,_⟩:=own_rd ho2;refine⟨_,rfl,h.below hb2,fun h=>?_⟩;clear hb2 h3;refine reC 22 (wlist_any xs hh (j+1) w.heap.size w4 (hr.below h.on) (fun r hm=>(hq r hm).below h.on)) ?_;rintro e w5 ⟨r2,rfl,hir,rfl⟩;refine⟨_,rfl,h,fun h=>?_⟩;clear hw;refine reC 23 (wMade8_any sg2 A2 sg2.length c2 r2 _ _ _ w4 rfl hl2 (own_hd ho2).2.2.2 (fun ad e=>by subst e;exact (ho2.lt _ rfl).2) ⟨hir.len,hir.cap,hir.max,hir.rd,hir.rng,fun hn ad e=>Nat.lt_of_lt_of_le (hir.lt hn ad e) h.on.size⟩ (fun s hs=>HOK.out s (hsub.mem hs)) (ty_k HT.out)) ?_;rintro e w6 ⟨v5,ns,rfl,hl5,ho5,hb5⟩;have HTE:Hid (TE sg x.1.ty ns/\ns.length<=60):=⟨TE.mono (sig_sub HKD.out hsub) hl5.1,by have:=hl5.2;omega⟩
       have HQ5:=zH (And.intro (own_lower ho5 h.hB) (fun k hk=>(ho5.lt k hk).2));clear hl5 hsub;replace hso:=own_below hso hb5;obtain⟨A5,c5,rfl,_⟩:=own_rd ho5;refine⟨_,rfl,h.below hb5,fun h=>?_⟩;refine reZ 24 ?_;refine reZ 25 ?_;have cg:=(h.pc hjp).2.2.2.2.1;have fg:=h.pf;refine reW 26 (fun h=>absurd rfl h) (fun _=>?_);refine reE ?_;have k:=h.up.putN hpl.symm j hjp ({x.1 with body:=ns},⟨A5,ns.length,c5⟩) HQ5.out.1 HQ5.out.2 4 [.slice A5 ns.length c5] (by simp) (by rw[<-HX.out];rfl);replace hso:=own_put hso h ((Onl.refl _ _).set (j*12+4) (.slice A5 ns.length c5));have hp':PkJ sg fs ss (ps.set j ({x.1 with body:=ns},⟨A5,ns.length,c5⟩)) (j+1):=by rw[HX.out];exact hp.body hjp (by rw[<-HX.out];exact HTE.out.1) HTE.out.2 _
       clear h cg fg hc ho5 hb5 ho2;go_wp2
       go_roundg (n0-(j+1))
       case measure=>omega
       case rel=>exact⟨j+1,_,_,by omega,by go_num,k,hp',by rw[List.length_set];exact hpl,hso⟩
      ·obtain rfl:n0=j:=by omega
       have hp:=(hpl ▸ hp:PkJ sg fs ss ps ps.length).all;obtain⟨nms,hnm⟩:=zE (ps.map fun x=>x.1.name);have HNM:Hid ((ps.map fun x=>x.1.name)=nms):=hnm.symm;clear hnm HKD HOK;have hn1:1<=n0:=by have:=hp.k.ne (by omega);cases ps with|nil=>exact absurd rfl this|cons a b=>simp at hpl;omega
       have hc:=h.cells;go_wp2_with fail;refine (wFind11_any ps f9 s9 ⟨some ⟨g,0,none⟩,n0,pc⟩ _ wr h.pr).mono ?_;rintro e w1 ⟨i1,o1,rfl,hi1,hb⟩;have k:=h.below hb;clear h hc hb hso;have hc:=k.cells;have HI1:Hid (o1=true->nms[i1]?=some ⟨#[99,114,101,100,105,116]⟩):=fun e=>by obtain⟨h1,h2⟩:=hi1 e;rw[<-HNM.out,List.getElem?_map,List.getElem?_eq_getElem h1,Option.map_some,h2]
       go_wp2_with fail;refine (wFind11_any ps f9 s9 ⟨some ⟨g,0,none⟩,n0,pc⟩ _ w1 k.pr).mono ?_;rintro e w2 ⟨i2,o2,rfl,hi2,hb⟩;have h:=k.below hb;have HI2:Hid (o2=true->nms[i2]?=some ⟨#[114,101,108,105,101,102]⟩):=fun e=>by obtain⟨h1,h2⟩:=hi2 e;rw[<-HNM.out,List.getElem?_map,List.getElem?_eq_getElem h1,Option.map_some,h2]
       clear k hc hb hi1 hi2
       go_upto_region 29 with fail
       go_cut [169] from 158 to 168 (fun bv Y=>(∃b,bv=.bool b/\Hid (b=true->o1=true/\o2=true))/\MZ w Y D M L N U fs ss ps (.slice f9.a f9.n f9.c) (.slice s9.a s9.n s9.c) (.slice (some ⟨g,0,none⟩) n0 pc))
       case first=>
        by_cases ha:1<=kd
        ·by_cases hb:kd<=3
         all_goals
          cases o1<;>cases o2
          all_goals
           go_wp2
           go_meet
           case rel=>exact⟨⟨_,rfl,by intro h;first|(cases h;done)|exact⟨rfl,rfl⟩|exact⟨trivial,trivial⟩⟩,h⟩
        ·go_wp2
         go_meet
         case rel=>exact⟨⟨_,rfl,fun h=>by cases h⟩,h⟩
       case rest=>
        clear h;obtain⟨⟨b,rfl,hbo⟩,h⟩:=hcut
        go_upto_if 169 with fail
        go_cut [] from 170 to 191 (fun Y=>∃U ps,MZ w Y D M L N U fs ss ps (.slice f9.a f9.n f9.c) (.slice s9.a s9.n s9.c) (.slice (some ⟨g,0,none⟩) n0 pc)/\PG sg fs ss ps/\ps.length=n0/\Hid ((ps.map fun x=>x.1.name)=nms))
        case first=>
         cases b
         ·go_wp2
          go_meet
          case rel=>exact⟨_,ps,h,hp,hpl,HNM⟩
         ·obtain⟨rfl,rfl⟩:=hbo.out rfl
          go_upto_region 30 with fail
          obtain⟨hjp,HTY,_⟩:=hp.sig HFS.out HSC.out (by rw[HNM.out];exact HI1.out rfl) (by decide);obtain⟨_,_,HSO⟩:=hp.sig HFS.out HSC.out (by rw[HNM.out];exact HI2.out rfl) (by decide);have HWG:=zH (hp.wage HFS.out HSC.out);replace HSO:=zH HSO;replace HTY:=zH HTY;have hc:=fun X (h:MZ w X D M L N U fs ss ps (.slice f9.a f9.n f9.c) (.slice s9.a s9.n s9.c) (.slice (some ⟨g,0,none⟩) n0 pc))=>And.intro (h.pc hjp) h.cells
          have jq:(i1:Int)<(n0:Int):=by omega
          have jz:(0:Int)<=(i1:Int):=by omega
          obtain⟨x,hx⟩:=zE ps[i1];rw[<-hx] at hc HTY;have HX:=zH hx;clear hx;refine reS (fun X=>MZ w X D M L N U fs ss ps (.slice f9.a f9.n f9.c) (.slice s9.a s9.n s9.c) (.slice (some ⟨g,0,none⟩) n0 pc)) 11 (h.below (drewN_below _ _ 1)) (fun w3 _ h=>?_);have HMB:=zH h.hB
          iterate 9 refine reA ?_
          refine reC 9 (wcircle_any sg D (D+1) x _ w3 h.ds h.hDu (by decide) HSO.out HWG.out) ?_;rintro e w4 ⟨y,rfl,hy1,hy2,hoy,hd1,ho1⟩;refine⟨.agg #[.string y.1.name,.bool y.1.ty.truth,.int .i64 y.1.ty.money,.int .i64 y.1.ty.days,.slice y.2.a y.2.n y.2.c,.bool y.1.charge,.bool y.1.step.neg,.string y.1.step.num,.string y.1.step.den,.bool y.1.cap.neg,.string y.1.cap.num,.string y.1.cap.den],rfl,h.onl hd1 ho1,fun h=>?_⟩;have HQY:=zH (And.intro (own_lower hoy HMB.out) (fun k hk=>(hoy.lt k hk).2));have HYT:Hid (y.1.ty=tCash):=hy1.t.trans HTY.out;have HPV:Hid (PvG sg y.1):=⟨HYT.out ▸ hy1.b,hy1.l,fun _=>HYT.out,cap_of hy2 HYT.out⟩
          have HPS:Hid (PvS y.1 x.1):=⟨hy1.n,hy1.t,hy1.c⟩
          clear hy1 hy2 hoy hd1 ho1 hc;refine reZ 10 ?_;have cg:=h.pc hjp;have fg:=h.pf;refine reW 11 (fun h=>absurd rfl h) (fun _=>?_);refine reE ?_;have k:=h.up.putN hpl.symm i1 hjp y HQY.out.1 HQY.out.2 0 (pvCells y) (by simp[pvCells]) rfl;have hp':=hp.set i1 hjp y (by rw[<-HX.out];exact HPS.out) HPV.out;have hpl':(ps.set i1 y).length=n0:=by rw[List.length_set];exact hpl
          have HNM':Hid (((ps.set i1 y).map fun x=>x.1.name)=nms):=by show _=_;rw[map_set_same (fun x:Pv × Hd=>x.1.name) ps i1 hjp y (by rw[<-HX.out];exact HPS.out.1)];exact HNM.out
          clear h cg fg hp hpl HNM HPV HPS HYT HTY HQY HMB HSO HWG;generalize hY:World.setCell _ _ _=Y;rw[show w4.setCells g (i1*12+0) (pvCells y)=Y from hY] at k;clear hY;generalize w4.heap.size=U at k;have h:=k;have hp:=hp';obtain⟨ps,hps⟩:=zE (ps.set i1 y);rw[<-hps] at h hp hpl' HNM';have hpl:=hpl';have HNM:=HNM'
          go_upto_region 31 with fail
          clear hps k hp' hpl' HX hjp HNM';obtain⟨hjp,HTY,_⟩:=hp.sig HFS.out HSC.out (by rw[HNM.out];exact HI2.out rfl) (by decide);obtain⟨_,_,HSO⟩:=hp.sig HFS.out HSC.out (by rw[HNM.out];exact HI1.out rfl) (by decide);have HWG:=zH (hp.wage HFS.out HSC.out);replace HSO:=zH HSO;replace HTY:=zH HTY;have hc:=fun X (h:MZ w X D M L N U fs ss ps (.slice f9.a f9.n f9.c) (.slice s9.a s9.n s9.c) (.slice (some ⟨g,0,none⟩) n0 pc))=>And.intro (h.pc hjp) h.cells
          have jq:(i2:Int)<(n0:Int):=by omega
          have jz:(0:Int)<=(i2:Int):=by omega
          obtain⟨x,hx⟩:=zE ps[i2];rw[<-hx] at hc HTY;have HX:=zH hx;clear hx;refine reS (fun X=>MZ w X D M L N U fs ss ps (.slice f9.a f9.n f9.c) (.slice s9.a s9.n s9.c) (.slice (some ⟨g,0,none⟩) n0 pc)) 11 (h.below (drewN_below _ _ 1)) (fun w3 _ h=>?_);have HMB:=zH h.hB
          iterate 9 refine reA ?_
          refine reC 9 (wcircle_any sg D (D+1) x _ w3 h.ds h.hDu (by decide) HSO.out HWG.out) ?_;rintro e w4 ⟨y,rfl,hy1,hy2,hoy,hd1,ho1⟩;refine⟨.agg #[.string y.1.name,.bool y.1.ty.truth,.int .i64 y.1.ty.money,.int .i64 y.1.ty.days,.slice y.2.a y.2.n y.2.c,.bool y.1.charge,.bool y.1.step.neg,.string y.1.step.num,.string y.1.step.den,.bool y.1.cap.neg,.string y.1.cap.num,.string y.1.cap.den],rfl,h.onl hd1 ho1,fun h=>?_⟩;have HQY:=zH (And.intro (own_lower hoy HMB.out) (fun k hk=>(hoy.lt k hk).2));have HYT:Hid (y.1.ty=tCash):=hy1.t.trans HTY.out;have HPV:Hid (PvG sg y.1):=⟨HYT.out ▸ hy1.b,hy1.l,fun _=>HYT.out,cap_of hy2 HYT.out⟩
          have HPS:Hid (PvS y.1 x.1):=⟨hy1.n,hy1.t,hy1.c⟩
          clear hy1 hy2 hoy hd1 ho1 hc;refine reZ 10 ?_;have cg:=h.pc hjp;have fg:=h.pf;refine reW 11 (fun h=>absurd rfl h) (fun _=>?_);refine reE ?_;have k:=h.up.putN hpl.symm i2 hjp y HQY.out.1 HQY.out.2 0 (pvCells y) (by simp[pvCells]) rfl;have hp':=hp.set i2 hjp y (by rw[<-HX.out];exact HPS.out) HPV.out;have hpl':(ps.set i2 y).length=n0:=by rw[List.length_set];exact hpl
          have HNM':Hid (((ps.set i2 y).map fun x=>x.1.name)=nms):=by show _=_;rw[map_set_same (fun x:Pv × Hd=>x.1.name) ps i2 hjp y (by rw[<-HX.out];exact HPS.out.1)];exact HNM.out
          clear h cg fg hp hpl HNM HPV HPS HYT HTY HQY HMB HSO HWG;go_wp2
          go_meet
          case rel=>exact⟨_,_,k,hp',hpl',HNM'⟩
        case rest=>
         clear h hp hpl HI2 hbo HNM;obtain⟨U,ps,h,hp,hpl,HNM⟩:=hcut
         go_upto_region 32 with fail
         go_cut [196] from 192 to 195 (fun bv Y=>(∃b,bv=.bool b/\Hid (b=true->o1=true))/\MZ w Y D M L N U fs ss ps (.slice f9.a f9.n f9.c) (.slice s9.a s9.n s9.c) (.slice (some ⟨g,0,none⟩) n0 pc))
         case first=>
          by_cases ha:kd=4
          ·subst ha;cases o1
           all_goals
            go_wp2
            go_meet
            case rel=>exact⟨⟨_,rfl,by intro h;first|(cases h;done)|rfl|trivial⟩,h⟩
          ·have ha1:((kd:Int)==4)=false:=beq_eq_false_iff_ne.2 (by omega);have ha2:¬(kd:Int)=4:=by omega
           go_wp2
           go_meet
           case rel=>exact⟨⟨_,rfl,fun h=>by cases h⟩,h⟩
         case rest=>
          clear h;obtain⟨⟨b,rfl,hbo⟩,h⟩:=hcut
          go_upto_if 196 with fail
          go_cut [] from 197 to 207 (fun Y=>∃U ps,MZ w Y D M L N U fs ss ps (.slice f9.a f9.n f9.c) (.slice s9.a s9.n s9.c) (.slice (some ⟨g,0,none⟩) n0 pc)/\PG sg fs ss ps/\ps.length=n0/\Hid ((ps.map fun x=>x.1.name)=nms))
          case first=>
           cases b
           ·go_wp2
            go_meet
            case rel=>exact⟨_,ps,h,hp,hpl,HNM⟩
           ·obtain rfl:=hbo.out rfl
            go_upto_region 33 with fail
            obtain⟨hjp,HTY,_⟩:=hp.sig HFS.out HSC.out (by rw[HNM.out];exact HI1.out rfl) (by decide);obtain⟨_,_,HSO⟩:=hp.sig HFS.out HSC.out (by rw[HNM.out];exact HI1.out rfl) (by decide);have HWG:=zH (hp.wage HFS.out HSC.out);replace HSO:=zH HSO;replace HTY:=zH HTY;have hc:=fun X (h:MZ w X D M L N U fs ss ps (.slice f9.a f9.n f9.c) (.slice s9.a s9.n s9.c) (.slice (some ⟨g,0,none⟩) n0 pc))=>And.intro (h.pc hjp) h.cells
            have jq:(i1:Int)<(n0:Int):=by omega
            have jz:(0:Int)<=(i1:Int):=by omega
            obtain⟨x,hx⟩:=zE ps[i1];rw[<-hx] at hc HTY;have HX:=zH hx;clear hx;refine reS (fun X=>MZ w X D M L N U fs ss ps (.slice f9.a f9.n f9.c) (.slice s9.a s9.n s9.c) (.slice (some ⟨g,0,none⟩) n0 pc)) 11 (h.below (drewN_below _ _ 1)) (fun w3 _ h=>?_);have HMB:=zH h.hB
            iterate 9 refine reA ?_
            refine reC 9 (wcircle_any sg D (D+1) x _ w3 h.ds h.hDu (by decide) HSO.out HWG.out) ?_;rintro e w4 ⟨y,rfl,hy1,hy2,hoy,hd1,ho1⟩;refine⟨.agg #[.string y.1.name,.bool y.1.ty.truth,.int .i64 y.1.ty.money,.int .i64 y.1.ty.days,.slice y.2.a y.2.n y.2.c,.bool y.1.charge,.bool y.1.step.neg,.string y.1.step.num,.string y.1.step.den,.bool y.1.cap.neg,.string y.1.cap.num,.string y.1.cap.den],rfl,h.onl hd1 ho1,fun h=>?_⟩;have HQY:=zH (And.intro (own_lower hoy HMB.out) (fun k hk=>(hoy.lt k hk).2));have HYT:Hid (y.1.ty=tCash):=hy1.t.trans HTY.out;have HPV:Hid (PvG sg y.1):=⟨HYT.out ▸ hy1.b,hy1.l,fun _=>HYT.out,cap_of hy2 HYT.out⟩
            have HPS:Hid (PvS y.1 x.1):=⟨hy1.n,hy1.t,hy1.c⟩
            clear hy1 hy2 hoy hd1 ho1 hc;refine reZ 10 ?_;have cg:=h.pc hjp;have fg:=h.pf;refine reW 11 (fun h=>absurd rfl h) (fun _=>?_);refine reE ?_;have k:=h.up.putN hpl.symm i1 hjp y HQY.out.1 HQY.out.2 0 (pvCells y) (by simp[pvCells]) rfl;have hp':=hp.set i1 hjp y (by rw[<-HX.out];exact HPS.out) HPV.out;have hpl':(ps.set i1 y).length=n0:=by rw[List.length_set];exact hpl
            have HNM':Hid (((ps.set i1 y).map fun x=>x.1.name)=nms):=by show _=_;rw[map_set_same (fun x:Pv × Hd=>x.1.name) ps i1 hjp y (by rw[<-HX.out];exact HPS.out.1)];exact HNM.out
            clear h cg fg hp hpl HNM HPV HPS HYT HTY HQY HMB HSO HWG;go_wp2
            go_meet
            case rel=>exact⟨_,_,k,hp',hpl',HNM'⟩
          case rest=>
           clear h hp hpl HI1 hbo HNM;obtain⟨U,ps,h,hp,hpl,HNM⟩:=hcut
           go_upto_if 209 with fail
           go_cut [] from 209 to 237 (fun Y=>∃U ps,MZ w Y D M L N U fs ss ps (.slice f9.a f9.n f9.c) (.slice s9.a s9.n s9.c) (.slice (some ⟨g,0,none⟩) n0 pc)/\PG sg fs ss ps/\ps.length=n0)
           case first=>
            clear HNM;by_cases ha:kd=5
            ·subst ha;have hc:=h.cells;go_wp2_with fail;refine (h.next (n0:Int) (by omega) (by omega)).mono ?_;rintro e w1 ⟨q,hq1,rfl,k,_⟩;have hjp:q<ps.length:=by omega
             have q0:(0:Int)<=(q:Int):=by omega
             clear h hc;have hc:=And.intro (k.pc hjp) k.cells;cases htr:ps[q].1.ty.truth
             ·rw[htr] at hc
              go_upto_region 37 with fail
              clear hc;have HTC:Hid (ps[q].1.ty=tCash):=(hp.k.ty _ (List.getElem_mem hjp)).resolve_right (fun h9=>by rw[h9.1] at htr;cases htr);have hc:=fun X (h:MZ w X D M L N U fs ss ps (.slice f9.a f9.n f9.c) (.slice s9.a s9.n s9.c) (.slice (some ⟨g,0,none⟩) n0 pc))=>h.cells
              refine reS (fun X=>MZ w X D M L N U fs ss ps (.slice f9.a f9.n f9.c) (.slice s9.a s9.n s9.c) (.slice (some ⟨g,0,none⟩) n0 pc)) 6 (k.below (drewN_below _ _ 1)) (fun w3 _ h=>?_)
              iterate 3 refine reA ?_
              refine reC 3 (wfrac_any 1 2 w3 (by omega) (by omega) (by omega) (by omega)) ?_;rintro e w4 ⟨rfl,hb⟩;refine⟨_,rfl,h.below hb,fun h=>?_⟩;have HCH:Hid (∀k:Fin 100,capB (frR 1 2) (ofI (((k:Nat):Int)+1))=true):=capB_half;generalize frR 1 2=va at*;obtain⟨an,au,ad⟩:=va;unfold Ra.v;clear hb hc k;refine reZ 4 ?_;refine reZ 5 ?_;have cg:=h.pc hjp;have fg:=h.pf;refine reW 6 (fun h=>absurd rfl h) (fun _=>?_);refine reE ?_;obtain⟨a,ha⟩:=zE (({ps[q].1 with step:=⟨an,au,ad⟩},ps[q].2):Pv × Hd);have HA:=zH ha;have k:=h.putN hpl.symm q hjp a (by have e:=h.qp _ (List.getElem_mem hjp);rw[ha];exact e) (by have e:=h.qu (List.getElem_mem hjp);rw[ha];exact e) 6 [.bool an,.string au,.string ad] (by simp) (by rw[ha];rfl);have hpl':(ps.set q a).length=n0:=by rw[List.length_set];exact hpl
              clear h cg fg ha;have hjp2:q<(ps.set q a).length:=by omega
              have HGA:Hid ((ps.set q a)[q]'hjp2=a):=List.getElem_set_self _;obtain⟨ps2,hps⟩:=zE (ps.set q a);have hjp3:q<ps2.length:=by rw[hps];exact hjp2
              replace HGA:Hid (ps2[q]'hjp3=a):=by subst hps;exact HGA
              rw[<-hps] at k hpl';have HPS:=zH hps;clear hps hjp2
              go_upto_region 38 with fail
              have hc:=fun X (h:MZ w X D M L N U fs ss ps2 (.slice f9.a f9.n f9.c) (.slice s9.a s9.n s9.c) (.slice (some ⟨g,0,none⟩) n0 pc))=>h.cells
              refine reS (fun X=>MZ w X D M L N U fs ss ps2 (.slice f9.a f9.n f9.c) (.slice s9.a s9.n s9.c) (.slice (some ⟨g,0,none⟩) n0 pc)) 9 (k.below (drewN_below _ _ 1)) (fun w3 _ h=>?_)
              iterate 4 refine reA ?_
              refine reC 4 (h.next 100 (by omega) (by omega)) ?_;rintro e w5 ⟨r9,hr9,rfl,h,_⟩;refine⟨_,rfl,h,fun h=>?_⟩;have hw:IntKind.i64.wrap (1+(r9:Int))=1+(r9:Int):=IntWalk.i64_in _ (by omega);refine reZ 5 ?_;refine reC 6 (sOf_any (1+(r9:Int)) w5 (by omega) (by omega)) ?_;rintro e w6 ⟨rfl,hb⟩;refine⟨_,rfl,h.below hb,fun h=>?_⟩;have HCB:Hid (capB ⟨an,au,ad⟩ (ofI (1+(r9:Int)))=true):=by show _=_;rw[Int.add_comm];exact HCH.out ⟨r9,by omega⟩
              generalize ofI (1+(r9:Int))=vb at*;obtain⟨bn,bu,bd⟩:=vb;unfold Ra.v;clear hw hr9 hb hc k HCH;refine reZ 7 ?_;refine reZ 8 ?_;have cg:=h.pc hjp3;have fg:=h.pf;refine reW 9 (fun h=>absurd rfl h) (fun _=>?_);refine reE ?_;have k:=h.putN hpl'.symm q hjp3 ({a.1 with cap:=⟨bn,bu,bd⟩},a.2) (by have e:=h.qp _ (List.getElem_mem hjp3);rw[HGA.out] at e;exact e) (by have e:=h.qu (List.getElem_mem hjp3);rw[HGA.out] at e;exact e) 9 [.bool bn,.string bu,.string bd] (by simp) (by rw[HGA.out];rfl)
              have hp2:PG sg fs ss (ps2.set q ({a.1 with cap:=⟨bn,bu,bd⟩},a.2)):=by
               have g:=hp.g _ (List.getElem_mem hjp);rw[HPS.out,List.set_set,HA.out];exact hp.set q hjp _ ⟨rfl,rfl,rfl⟩ ⟨g.b,g.n,g.c,cap_of HCB.out HTC.out⟩
              clear h cg fg;go_wp2
              go_meet
              case rel=>exact⟨_,_,k,hp2,by rw[List.length_set];exact hpl'⟩
             ·rw[htr] at hc;go_wp2
              go_meet
              case rel=>exact⟨_,_,k,hp,hpl⟩
            ·have ha1:((kd:Int)==5)=false:=beq_eq_false_iff_ne.2 (by omega);have ha2:¬(kd:Int)=5:=by omega
             go_wp2
             go_meet
             case rel=>exact⟨_,ps,h,hp,hpl⟩
           case rest=>
            clear h hp hpl HNM;obtain⟨U,ps,h,hp,hpl⟩:=hcut;have hc:=h.cells;have cr:=h.r.cells;have fr:=h.r.froz;have on:Onl w.heap.size wc (((wc.setCell ⟨w.heap.size,0,none⟩ (.slice f9.a f9.n f9.c)).setCell ⟨w.heap.size,1,none⟩ (.slice s9.a s9.n s9.c)).setCell ⟨w.heap.size,2,none⟩ (.slice (some ⟨g,0,none⟩) n0 pc)):=(((Onl.refl _ _).set 0 _).set 1 _).set 2 _;have hlt:w.heap.size<M+1:=by have:=h.hD;have:=h.hM;omega
            have hlo:=((MZ.lo (f:=f9) (s:=s9) (p:=⟨some ⟨g,0,none⟩,n0,pc⟩) h).onl on hlt).low (Nat.le_of_lt hlt);have hfin:=h.on.trans (on.below (Nat.le_refl _) h.on.size);have HMD:=zH (hp.md HFS.out HSC.out);clear on hlt hp hpl;go_wp2;exact bodyPost_ret (v:=lawV f9 s9 ⟨some ⟨g,0,none⟩,n0,pc⟩) (by simp[results,Tryz.results21,go_sem,cr,lawV]) rfl ⟨_,ss,ps,f9,s9,⟨some ⟨g,0,none⟩,n0,pc⟩,rfl,HMD.out,hlo,hfin⟩
theorem jInts:(Tryz.prog.info? 108).map (fun i=>(i.zero,i.size,i.bytes))=some (some (.slice none 0 0),1,24):=by kernel_rfl
def CutRet (w:World) (e:Ending) (w':World):Prop:=∃(ys:List (List Int × Hd)) (h:Hd),e=.returned (.slice h.a h.n h.c)/\RowAt w' rowV ys h/\(∀r∈ys,IR w w.heap.size r)/\Below w.heap.size w w'
theorem wcut_any (xs:List (List Int × Hd)) (hh:Hd) (w:World) (hr:RowAt w rowV xs hh) (hq:∀r∈xs,IR w w.heap.size r):
  Calls Tryz.prog 22 #[.slice hh.a hh.n hh.c] w (CutRet w):=by
 obtain⟨A,n,c⟩:=hh;have hm:n<=9223372036854775807:=by have:=hr.cap;have:=hr.max;unfold maxLen at this;simp only at*;omega
 go_enter Tryz.func22,Tryz.ntmps22;go_wp2
 go_loopg [3,4] 8 (fun g ov iv wr=>∃(j:Nat) (ys:List (List Int × Hd)),j+g=8/\iv=.int .i64 j/\wr.ownsRow w.heap.size 108 1 ov ys.length (ys.flatMap rowV)/\ys.length=j/\Hid (∀r∈ys,IR w w.heap.size r)/\Below w.heap.size w wr)
 case atStart=>exact⟨0,[],by omega,rfl,World.ownsRow_nil _ _ _ _,rfl,fun _ h=>(by cases h),Below.refl _ _⟩
 case round=>
  obtain⟨j,ys,hj,rfl,ho,hl,hy,hb⟩:=hrel;by_cases hlt:j<n
  ·by_cases h8:j<8
   ·obtain⟨b,off,rfl,_,hx,hc0⟩:=hr.at 1 (fun _=>rfl) (by omega) hlt;have HI:=zH (hq _ (List.getElem_mem hx));obtain⟨x,hxe⟩:=zE xs[j];rw[<-hxe] at hc0 HI;clear hxe;have hc:=fun (X:World) (hX:Below w.heap.size w X)=>show X.cell? ⟨b,off+j,none⟩=some (Value.slice x.2.a x.2.n x.2.c) from by have:=hc0 X hX 0 _ rfl;simpa using this
    clear hc0;obtain⟨l,⟨a,k,cc⟩⟩:=x;simp only at hc;have hk:=HI.out.cap;have hk2:=HI.out.max;unfold maxLen at hk2;simp only at hk hk2;have j0:(0:Int)<=(j:Int):=by omega
    have j1:(j:Int)<(n:Int):=by omega
    obtain⟨m,hm0,hm1⟩:∃m:Nat,min (k:Int) 60=(m:Int)/\m<=k:=⟨min k 60,by omega,by omega⟩
    have hm2:(m:Int).toNat=m:=by omega
    have m0:(0:Int)<=(m:Int):=by omega
    have m1:(m:Int)<=(cc:Int):=by omega
    go_upto_region 5 with fail
    refine reS (Below w.heap.size w) 99 hb.drew (fun w1 h1 hS=>?_);replace ho:=own_below ho h1
    iterate 12 refine reA ?_
    refine reV 12 (fun _=>hS.alloc hS.size _) (fun _=>?_);refine reP 13 jInts Tryz.underlying22 ho (by omega) hS.size (fun v' w9 ho _ _ hb9=>⟨hS.trans hb9,fun hS=>?_⟩);refine reA ?_;refine reE ?_;go_wp2
    go_roundg (8-(j+1))
    case measure=>omega
    case rel=>exact⟨j+1,ys++[(l.take m,⟨a,m,cc⟩)],by omega,by go_num,by rw[List.flatMap_append,List.length_append];exact ho,by simp[hl],fun r hr=>by
     rcases List.mem_append.1 hr with hr|hr
     ·exact hy.out r hr
     ·rw[List.mem_singleton.1 hr];exact HI.out.cut hm1,hS⟩
   ·go_wp2;go_ret;obtain⟨A2,c2,rfl,h3,h4,h5,_⟩:=own_rd ho;exact⟨ys,⟨A2,ys.length,c2⟩,rfl,⟨rfl,h3,h4,h5⟩,hy.out,hb⟩
  ·go_wp2;go_ret;obtain⟨A2,c2,rfl,h3,h4,h5,_⟩:=own_rd ho;exact⟨ys,⟨A2,ys.length,c2⟩,rfl,⟨rfl,h3,h4,h5⟩,hy.out,hb⟩
theorem wmade11_any (xs:List (List Int × Hd)) (hh:Hd) (w:World) (hr:RowAt w rowV xs hh) (hq:∀r∈xs,IR w w.heap.size r):
  Calls Tryz.prog 7 #[.slice hh.a hh.n hh.c] w (MRet w):=by
 go_enter Tryz.func7,Tryz.ntmps7
 go_upto_region 1 with fail
 generalize hW:w.alloc _=W;obtain⟨hk,hb⟩:=zA hW;clear hW;go_wp2_with fail;refine (wcut_any xs hh W (hr.below hb) (fun r hm=>?_)).mono ?_
 ·have h:=(hq r hm).below hb;exact⟨h.len,h.cap,h.max,h.rd,h.rng,fun hn ad e=>Nat.lt_of_lt_of_le (h.lt hn ad e) hb.size⟩
 rintro e w1 ⟨ys,h1,rfl,hy,hyq,hb1⟩;have hk1:=hk.below hb1 hk.lt;go_wp2_with fail;refine (wMade11_any ys h1 w1 hy (fun r hm=>?_)).mono ?_
 ·have h:=(hyq r hm).below hb1;exact⟨h.len,h.cap,h.max,h.rd,h.rng,fun hn ad e=>Nat.lt_of_lt_of_le (h.lt hn ad e) hb1.size⟩
 rintro e w2 ⟨l,ss,ps,f,s,p,rfl,hmd,hlo,hb2⟩;have hk2:=hk1.below hb2 hk1.lt;have ck:=hk2.cells;have fk:=hk2.froz;have on:Onl w.heap.size w2 (((w2.setCell ⟨w.heap.size,0,none⟩ (.slice f.a f.n f.c)).setCell ⟨w.heap.size,1,none⟩ (.slice s.a s.n s.c)).setCell ⟨w.heap.size,2,none⟩ (.slice p.a p.n p.c)):=(((Onl.refl _ _).set 0 _).set 1 _).set 2 _;have hfin:=bstep hb (bstep hb1 hb2);have hend:=hfin.trans (on.below (Nat.le_refl _) hfin.size);have HLO:=zH ((hlo.onl on hk1.lt).low (Nat.le_of_lt hk1.lt));have HMD:=zH hmd;clear hlo hmd on hb hb1 hb2 hk hk1 hk2 hr hq hy hyq hfin;unfold lawV;go_wp2;exact bodyPost_ret (v:=lawV f s p) (by simp[results,Tryz.results7,go_sem,ck,lawV]) rfl ⟨l,ss,ps,f,s,p,rfl,HMD.out,HLO.out,hend⟩
theorem PT.tf {w0 w w':World} {R:Nat} {l:Lw} {ss:List (Sc × Hd)} {ps:List (Pv × Hd)} {fv sv pv:Value} {t:TypeId} (h:PT w0 w R l ss ps fv sv pv) (ht:TF t w w') (hb:Below w0.heap.size w0 w') (h1:28≠t) (h2:36≠t) (h3:39≠t) (h4:45≠t) (h5:93≠t) (h6:49≠t):PT w0 w' R l ss ps fv sv pv:=
 ⟨h.r,hb,ht.blk h.blk h1,ht.own h.f h2,ht.own h.s h3,ht.own h.p h4,h.sl,h.pl,fun x hx=>⟨(h.sb x hx).1,ht.own (h.sb x hx).2 h5⟩,fun x hx=>⟨(h.pb x hx).1,ht.own (h.pb x hx).2 h6⟩⟩
def PX (w0 w:World) (R:Nat) (l:Lw):Prop:=∃ss ps fv sv pv,PT w0 w R l ss ps fv sv pv
theorem PX.below {w0 w w':World} {R:Nat} {l:Lw} (h:PX w0 w R l) (hb:Below w.heap.size w w'):PX w0 w' R l:=by
 obtain⟨ss,ps,fv,sv,pv,h⟩:=h;exact⟨ss,ps,fv,sv,pv,h.below hb⟩
theorem PX.setB {w0 w:World} {R B:Nat} {l:Lw} {cs:List Value} (h:PX w0 w R l) (hB:Blk w B 4 cs) (h0:w0.heap.size<=B) (u:Value):PX w0 (w.setCell ⟨B,0,none⟩ u) R l:=by
 obtain⟨ss,ps,fv,sv,pv,h⟩:=h;exact⟨ss,ps,fv,sv,pv,h.tf (TF.set (e:=4) hB 0 u) (h.bl.setCell (p:=⟨B,0,none⟩) h0 u) (by decide) (by decide) (by decide) (by decide) (by decide) (by decide)⟩
structure LineW (s:ByteArray) (ws:List ByteArray) (rest:ByteArray) (col:Bool):Prop where
 size:s.size<=1000000
 hd:∃h:List UInt8,Lib.cut s.data.toList [58,32]=(h,rest.data.toList,col)/\h.length<=1000000/\Lib.countB ⟨h.toArray⟩ ⟨#[32]⟩+1=ws.length/\Lib.splitB ⟨#[32]⟩ 0 (Lib.countB ⟨h.toArray⟩ ⟨#[32]⟩) ⟨h.toArray⟩=ws
theorem fr_line {R B:Nat} {w w8 w9:World} {u:Value} (h:FR R w w8) (hB:w.heap.size<=B) (hb:Below (w8.setCell ⟨B,0,none⟩ u).heap.size (w8.setCell ⟨B,0,none⟩ u) w9):FR R w w9:=by
 refine FR.trans (b:=w8.setCell ⟨B,0,none⟩ u) ⟨by have:=h.size;simpa [World.setCell] using this,fun k o hk hr ht=>(Below.heap_setCell w8 _ u k (fun e=>?_)).trans (h.keep k o hk hr ht)⟩ (FR.below hb);have h1:=lt_of_some hk;have h2:k=B:=e;omega
theorem line_core (w0 w:World) (R:Nat) (l l':Lw) (s rest wd nm:ByteArray) (more:List ByteArray) (k:Nat) (col:Bool) (h:PX w0 w R l) (hL:LaidK w) (hw:LineW s (wd::nm::more) rest col) (hk:more.length=k+1) (hnm:nameOk nm=true) (idx fn:Nat)
  (hid:(idx=0/\wd=⟨#[102,97,99,116]⟩/\fn=132/\col=false)∨(idx=1/\wd=⟨#[115,99,104,101,100,117,108,101]⟩/\fn=134/\col=true)∨(idx=2/\wd=⟨#[112,114,111,118,105,115,105,111,110]⟩/\fn=136/\col=true))
  (hR:∀W G,Below w.heap.size w W->Blk W G 9 (strs (wd::nm::more))->Calls Tryz.prog fn #[.pointer (some ⟨R,0,none⟩),.slice (some ⟨G,1,none⟩) (k+2:Nat) (k+2:Nat),.string rest] W fun e w'=>e=.returned (.tuple #[])/\PX w0 w' R l'/\FR R W w'):
  Calls Tryz.prog 34 #[.pointer (some ⟨R,0,none⟩),.string s] w fun e w'=>e=.returned (.bool true)/\PX w0 w' R l'/\FR R w w':=by
 have hmf:∀(fn:Fn) (first cap:Array Value) (w:World),(Instr.makeFunc fn first cap).run Tryz.prog w=.ok (.func fn first cap) w:=fun _ _ _ _=>rfl
 have hsf:=st_func;obtain⟨hsz,hd,hcut,hhl,hcnt,hspl⟩:=hw;obtain⟨ss0,ps0,fv0,sv0,pv0,hPT⟩:=h;have HW0:Hid (w0.heap.size<=w.heap.size):=hPT.bl.size;have HRW:Hid (R<w.heap.size):=hPT.blk.lt;obtain⟨W1,hW1⟩:=zE (w.alloc (.cells #[.bool false] 4));obtain⟨B,hB⟩:=zE w.heap.size;have HKB:Hid (Blk W1 B 4 [.bool false]):=by show Blk _ _ _ _;rw[hW1,hB];exact Blk.new w _ _
 have HB1:Hid (Below w.heap.size w W1):=by show Below _ _ _;rw[hW1];exact zB _ _
 have HBB:Hid (w.heap.size<=B):=Nat.le_of_eq hB.symm;have HLK:Hid (∀W,Below w.heap.size w W->LaidK W):=fun W hb=>hL.below hb
 obtain⟨m,hm⟩:=(HLK.out _ HB1.out).e.base.cut.2;have HCT:=zH (Tryz.strings_Cut s ⟨#[58,32]⟩ m W1 (by omega) hm);rw[show (⟨#[58,32]⟩:ByteArray).data.toList=[58,32] from rfl,hcut] at HCT;simp only at HCT;have hrest:(⟨rest.data.toList.toArray⟩:ByteArray)=rest:=by cases rest;rfl
 rw[hrest] at HCT
 have HSP:Hid (∀W,Below w.heap.size w W->Calls Tryz.prog 91 #[.string ⟨hd.toArray⟩,.string ⟨#[32]⟩] W fun e w'=>e=.returned (.slice (some ⟨W.heap.size,0,none⟩) (k+3:Nat) (k+3:Nat))/\w'=W.alloc (.cells ((wd::nm::more).map Value.string).toArray 9)):=fun W hb=>by
  obtain⟨m',hm'⟩:=(HLK.out _ hb).e.base.cut.2;have k':=Tryz.strings_Split ⟨hd.toArray⟩ ⟨#[32]⟩ m' W (by show hd.toArray.size<_;simp;omega) hm' (by decide);rw[hspl,hcnt] at k';simp only[List.length_cons,hk] at k';exact k'
 have HNM:Hid (∀W,Below w.heap.size w W->Calls Tryz.prog 20 #[.string nm] W fun e w'=>e=.returned (.bool true)/\Below W.heap.size W w'):=fun W hb=>by
  have k':=uName_any nm W (HLK.out _ hb).e;rw[hnm] at k';exact k'
 have HR:=zH hR;have HID:=zH hid;have HM:=zH must_yes;have HRD:=zH readers_any;have HMR:Hid (more.length=k+1):=hk;have HTRW:Hid (R<w.heap.size):=HRW.out;clear hL hm hrest hsz hcut hhl hcnt hspl hR hnm hid hPT hk;generalize (⟨hd.toArray⟩:ByteArray)=hb at*
 go_enter_defers Tryz.func34,Tryz.ntmps34
 go_wp2_with fail;simp only[<-hW1,<-hB]
 clear hW1 hB;refine HCT.out.mono ?_;rintro e w2 ⟨rfl,nd,hw2⟩;obtain⟨W2,hW2⟩:=zE (W1.drewN nd);rw[<-hW2] at hw2;subst hw2;have HA2:Below W1.heap.size W1 w2:=by rw[hW2];exact drewN_below _ _ _
 have HB2:=zH (bstep HB1.out HA2);have HKB2:Hid (Blk w2 B 4 [.bool false]):=HKB.out.below HA2 HKB.out.lt;clear hW2 HA2 HKB HCT HB1;go_wp2_with fail;refine (HSP.out _ HB2.out).mono ?_;rintro e w3 ⟨rfl,hw3⟩;obtain⟨G,hG⟩:=zE w2.heap.size;have HG:Hid (Blk w3 G 9 (strs (wd::nm::more))):=by show Blk _ _ _ _;rw[hw3,hG,strs_map];exact Blk.new w2 _ _
 have HA3:Below w2.heap.size w2 w3:=by rw[hw3];exact zB _ _
 have HB3:=zH (bstep HB2.out HA3);have HKB3:Hid (Blk w3 B 4 [.bool false]):=HKB2.out.below HA3 HKB2.out.lt;simp only[<-hG]
 clear hG hw3 HA3 HKB2 HB2 HSP;go_wp2_with fail;refine (HRD.out w3).mono ?_;rintro e w4 ⟨rfl,hk4,hb4⟩;obtain⟨D,hD⟩:=zE w3.heap.size;rw[<-hD] at hk4;have HD:=zH hk4;have HB4:=zH (bstep HB3.out hb4);have HKB4:Hid (Blk w4 B 4 [.bool false]):=HKB3.out.below hb4 HKB3.out.lt;have HG4:Hid (Blk w4 G 9 (strs (wd::nm::more))):=HG.out.below hb4 HG.out.lt;simp only[<-hD]
 clear hD hk4 hb4 HKB3 HB3 HG HRD;go_wp2_with fail
 go_loopg [22] 3 (fun q iv wr=>∃i:Nat,i+q=3/\iv=.int .i64 i/\Hid (i<=idx)/\Hid (Below w.heap.size w wr)/\Hid (Blk wr B 4 [.bool false])/\Hid (Blk wr G 9 (strs (wd::nm::more)))/\Hid (Blk wr D 157 rdrs))
 case atStart=>exact⟨0,by omega,rfl,Nat.zero_le _,HB4,HKB4,HG4,HD⟩
 case round=>
  obtain⟨i,hi,rfl,hidx,hbr,hkB,hkG,hkD⟩:=hrel;clear HB4 HKB4 HG4 HD
  obtain⟨wi,fi,e5,e1,e2,e3,e4⟩:∃(wi:ByteArray) (fi:Nat),(∀(a:Array Value) (w:World),Sem.run Tryz.prog (callFunc fi a) w=Result.ok (Next.enter fi a) w)/\wr.cell? ⟨D,i*2,none⟩=some (.string wi)/\wr.cell? ⟨D,i*2+1,none⟩=some (.func (Fn.func fi) #[] #[])/\Hid (i≠idx->(wi.toList==wd.toList)=false)/\Hid (i=idx->wi=wd/\fi=fn/\(wd.toList==[102,97,99,116])= !col):=by
   have hc:=hkD.out.cells;have hI:i=0∨i=1∨i=2:=by have h1:=hidx.out;have h2:idx<=2:=by {rcases HID.out with h|h|h<;>omega};omega
   rcases hI with rfl|rfl|rfl
   ·refine⟨_,_,fun a w=>by (first|rfl|simp[go_sem]),hc 0,hc 1,fun h=>?_,fun h=>?_⟩
    all_goals rcases HID.out with⟨h1,rfl,rfl,rfl⟩|⟨h1,rfl,rfl,rfl⟩|⟨h1,rfl,rfl,rfl⟩<;>first|(exfalso;omega)|exact⟨rfl,rfl,by simp only[ByteArray.toList_eq];decide⟩|(simp only[ByteArray.toList_eq];decide)
   ·refine⟨_,_,fun a w=>by (first|rfl|simp[go_sem]),hc 2,hc 3,fun h=>?_,fun h=>?_⟩
    all_goals rcases HID.out with⟨h1,rfl,rfl,rfl⟩|⟨h1,rfl,rfl,rfl⟩|⟨h1,rfl,rfl,rfl⟩<;>first|(exfalso;omega)|exact⟨rfl,rfl,by simp only[ByteArray.toList_eq];decide⟩|(simp only[ByteArray.toList_eq];decide)
   ·refine⟨_,_,fun a w=>by (first|rfl|simp[go_sem]),hc 4,hc 5,fun h=>?_,fun h=>?_⟩
    all_goals rcases HID.out with⟨h1,rfl,rfl,rfl⟩|⟨h1,rfl,rfl,rfl⟩|⟨h1,rfl,rfl,rfl⟩<;>first|(exfalso;omega)|exact⟨rfl,rfl,by simp only[ByteArray.toList_eq];decide⟩|(simp only[ByteArray.toList_eq];decide)
  have i0:(0:Int)<=(i:Int):=by omega
  have i1:(i:Int)<3:=by have h1:=hidx.out;have h2:idx<=2:=by {rcases HID.out with h|h|h<;>omega};omega
  have i2:i<3:=by omega
  go_upto_region 7 with fail
  generalize hX:World.alloc wr _=wt;obtain⟨hT,hbT⟩:=zA hX;have HTW:Hid (w.heap.size<=wr.heap.size):=hbr.out.size;have HRT:Hid (wr.heap.size≠R):=by have h1:=HRW.out;have h2:=HTW.out;show _≠_;omega
  generalize wr.heap.size=T at hT HTW HRT⊢;replace hbr:=bstep hbr.out hbT;replace hkB:=hkB.out.below hbT hkB.out.lt;replace hkG:=hkG.out.below hbT hkG.out.lt;replace hkD:=hkD.out.below hbT hkD.out.lt;clear hX hbT e1 e2;have hcc:=fun (X:World) (h:Below wt.heap.size wt X)=>show X.cell? ⟨T,0,none⟩=some (.string wi)/\X.cell? ⟨T,1,none⟩=some (.func (Fn.func fi) #[] #[])/\X.cell? ⟨G,0,none⟩=some (.string wd)/\X.cell? ⟨G,1,none⟩=some (.string nm) from⟨(hT.below h hT.lt).cells 0,(hT.below h hT.lt).cells 1,(hkG.below h hkG.lt).cells 0,(hkG.below h hkG.lt).cells 1⟩
  have hk03:(0:Int)<(k:Int)+3:=by omega
  have hk14:(1:Int)<(k:Int)+3:=by omega
  by_cases hix:i=idx
  ·obtain⟨rfl,rfl,hfc⟩:=e4.out hix;have HFC:=zH hfc;clear e3 e4 hix hidx hfc;refine reS (Below wt.heap.size wt) 99 (drewN_below _ _ 1) (fun v hv hS=>?_)
   iterate 6 refine reA ?_
   refine reE ?_;have hl:=hcc _ hS;go_wp2_with fail;refine (HNM.out v (bstep hbr hS)).mono ?_;rintro e w5 ⟨rfl,hb5⟩;replace hS:=bstep hS hb5;have hfc:=HFC.out;clear hl hb5 hv;have hl:=hcc _ hS;cases col
   all_goals simp only[Bool.not_true,Bool.not_false] at hfc
   all_goals as_aux_lemma=>
    go_wp2_with fail;refine (HM.out w5).mono ?_;rintro e w6 ⟨rfl,hw6⟩;rw[hw6];clear hw6 hl hfc;have hk13:(1:Int)<=(k:Int)+3:=by omega
    replace hbr:=bstep hbr hS;replace hkB:=hkB.below hS hkB.lt;replace hkG:=hkG.below hS hkG.lt;replace hT:=hT.below hS hT.lt;clear hS hcc;have hcc:=fun (X:World) (h:Blk X T 157 [.string wi,.func (Fn.func fi) #[] #[]])=>h.cells
    go_upto_region 9 with fail
    refine reS (fun X=>Blk X T 157 [.string wi,.func (Fn.func fi) #[] #[]]) 99 hT.drew (fun v7 hv7 hS=>?_)
    iterate 6 refine reA ?_
    refine reC 6 (HR.out v7 G (bstep hbr hv7) (hkG.below hv7 hkG.lt)) ?_;rintro e w8 ⟨rfl,hpx,hfr⟩;refine⟨_,rfl,hfr.keep T _ hS HRT.out (fun cs t fr e=>by injection e with _ e2 _;subst e2;decide),fun hS=>?_⟩;refine reE ?_;have HK8:Hid (Blk w8 B 4 [.bool false]):=hfr.keep B _ (hkB.below hv7 hkB.lt) (by have h1:=HRW.out;have h2:=HBB.out;omega) (fun cs t fr e=>by injection e with _ e2 _;subst e2;decide);have HFR:Hid (FR R w w8):=FR.trans (FR.below (bstep hbr hv7)) hfr;have HPX:=zH hpx;clear hpx hfr hcc;have hk8:=HK8.out.cells;have hf8:=HK8.out.froz;go_wp2;refine leaves_cons (f:=89) (args:=#[.pointer (some ⟨B,0,none⟩)]) (by simp) (by simp[go_sem]) ?_;refine (lcatch_idle B _).mono ?_;rintro e u' w9 ⟨rfl,rfl,hb9⟩;have hKS:=(HK8.out.set 0 (.bool true)).below hb9 (HK8.out.set 0 (.bool true)).lt;have hc9:w9.cell? ⟨B,0,none⟩=some (.bool true):=hKS.cells 0;simp[Leaves,settle,results,Tryz.results34,go_sem,hc9];exact⟨(HPX.out.setB HK8.out (Nat.le_trans HW0.out HBB.out) _).below hb9,fr_line HFR.out HBB.out hb9⟩
  ·have hne:=e3.out hix;have HLT:Hid (i+1<=idx):=by have h1:=hidx.out;show i+1<=idx;omega
   clear e3 e4 hix hidx;refine reS (Below wt.heap.size wt) 99 (drewN_below _ _ 1) (fun v hv hS=>?_)
   iterate 6 refine reA ?_
   refine reE ?_;have H1:=zH (bstep hbr hS);have H2:=zH (hkB.below hS hkB.lt);have H3:=zH (hkG.below hS hkG.lt);have H4:=zH (hkD.below hS hkD.lt);clear hcc hbr hkB hkG hkD hT;go_wp2
   go_roundg (2-i)
   case measure=>omega
   case rel=>exact⟨i+1,by omega,by go_num,HLT,H1,H2,H3,H4⟩
theorem info_brk:(Tryz.prog.info? 93).map (fun i=>(i.zero,i.size,i.bytes))=some (some (.agg #[.bool false,.string ⟨#[]⟩,.string ⟨#[]⟩,.bool false,.string ⟨#[]⟩,.string ⟨#[]⟩]),6,80):=by kernel_rfl
theorem info_sch:(Tryz.prog.info? 39).map (fun i=>(i.zero,i.size,i.bytes))=some (some (.agg #[.string ⟨#[]⟩,.int .i64 0,.int .i64 0,.slice none 0 0]),4,56):=by kernel_rfl
def PieceB (p:ByteArray) (b:Bk):Prop:=p.size<=1000000/\∃x y:List UInt8,Lib.cut p.data.toList [32]=(x,y,true)/\x.length<=1000000/\y.length<=1000000/\ratParse ⟨x.toArray⟩=(b.fr,true)/\ratParse ⟨y.toArray⟩=(b.rt,true)
def piecesB (rest:ByteArray):List ByteArray:=Lib.splitB ⟨#[44,32]⟩ 0 (Lib.countB rest ⟨#[44,32]⟩) rest
structure RestB (rest:ByteArray) (brs:List Bk):Prop where
 size:rest.size<=1000000
 n:Lib.countB rest ⟨#[44,32]⟩+1=brs.length
 len:(piecesB rest).length=brs.length
 max:brs.length<=1000
 ok:∀i (h:i<brs.length) (h':i<(piecesB rest).length),PieceB (piecesB rest)[i] brs[i]
theorem uSched_any (w0 w:World) (R g c:Nat) (l:Lw) (ss:List (Sc × Hd)) (ps:List (Pv × Hd)) (fv sv pv:Value) (nm s rest:ByteArray) (tm td:Int) (brs:List Bk) (h:PT w0 w R l ss ps fv sv pv) (hL:LaidK w) (ht:tyIn ⟨false,tm,td⟩=true) (hs:s=tyText ⟨false,tm,td⟩) (hn:ss.length<=1000) (hr:RestB rest brs) (hg:∃cs,Blk w g 9 cs/\cs[1]?=some (.string nm)/\cs[2]?=some (.string s)):
  Calls Tryz.prog 134 #[.pointer (some ⟨R,0,none⟩),.slice (some ⟨g,1,none⟩) 2 c,.string rest] w fun e w'=>e=.returned (.tuple #[])/\(∃v' hd,PT w0 w' R ⟨l.facts,l.schs++[⟨nm,tm,td,brs⟩],l.provs⟩ (ss++[(⟨nm,tm,td,brs⟩,hd)]) ps fv v' pv)/\FR R w w':=by
 obtain⟨cs,hg0,hg1,hg2⟩:=hg;have HT:=zH (fun W (hb:Below w.heap.size w W)=>hs ▸ uTypeOf_any ⟨false,tm,td⟩ W (hL.below hb) ht);have HLK:Hid (∀W,Below w.heap.size w W->LaidK W):=fun W hb=>hL.below hb
 have HRB:=zH hr;have HM:=zH must_yes;have hcg:=fun (X:World) (hb:Below w.heap.size w X)=>show X.cell? ⟨g,1,none⟩=some (.string nm)/\X.cell? ⟨g,2,none⟩=some (.string s) from⟨((hg0.below hb hg0.lt).cells 1).trans hg1,((hg0.below hb hg0.lt).cells 2).trans hg2⟩
 unfold Ty.v at HT;simp only at HT;have hl:=hcg w (Below.refl _ _);clear hL ht hs hg0 hg1 hg2 hr;go_enter Tryz.func134,Tryz.ntmps134;go_wp2_with fail;refine (HM.out w).mono ?_;rintro e w1 ⟨rfl,hw1⟩;rw[hw1];clear hw1;go_wp2_with fail;refine (HT.out w (Below.refl _ _)).mono ?_;rintro e w2 ⟨rfl,hb⟩;clear hl HT
 go_upto_region 2 with fail
 generalize hX:World.alloc w2 _=W1;obtain⟨hT,hb2⟩:=zA hX;replace hb:=bstep hb hb2;clear hX hb2;have hl:=hT.cells;go_wp2_with fail;refine (HM.out W1).mono ?_;rintro e w3 ⟨rfl,hw1⟩;rw[hw1];clear hw1 hl;have hcc:=fun (X:World) (h:Below W1.heap.size W1 X)=>And.intro (hcg X (bstep hb h)) (hT.below h hT.lt).cells
 go_upto_region 3 with fail
 refine reS (Below W1.heap.size W1) 99 (drewN_below _ _ 1) (fun v hv hS=>?_)
 iterate 6 refine reA ?_
 refine reV 6 (fun _=>hS.alloc hS.size _) (fun _=>?_);refine reW 7 (fun _=>hS.alloc hS.size _) (fun _=>?_);refine reE ?_;replace hb:=bstep hb hv;replace h:=h.below hb;clear hcc hcg hS hv hT
 go_upto_region 4 with fail
 generalize hX:World.alloc v _=W3;have k:IS v W3 39 [.string nm,.int .i64 tm,.int .i64 td,.slice none 0 0] 93 6 (.slice none 0 0) 0 (([]:List Bk).flatMap Bk.cells):=by rw[<-hX];exact⟨zB _ _,Blk.new _ _ _,World.ownsRow_nil _ _ _ _⟩
 have hGN:W3.heap.size≠v.heap.size:=by have:=k.hW;omega
 clear hX;have HBV:Hid (Below w.heap.size w v):=hb;obtain⟨m,hm⟩:=(HLK.out _ (bstep hb k.bl)).e.base.cut.2;have HSP:=zH (Tryz.strings_Split rest ⟨#[44,32]⟩ m W3 (by have:=HRB.out.size;omega) hm (by decide));rw[show Lib.splitB ⟨#[44,32]⟩ 0 (Lib.countB rest ⟨#[44,32]⟩) rest=piecesB rest from rfl,HRB.out.n] at HSP;have hcap:=HRB.out.max;clear hm hb HM;go_wp2_with fail;refine HSP.out.mono ?_;rintro e w4 ⟨rfl,hw4⟩;have hG:Blk w4 W3.heap.size 9 (strs (piecesB rest)):=by rw[hw4,strs_map];exact Blk.new W3 _ _
 replace k:=k.below (X':=w4) (by rw[hw4];exact zB _ _);have HGN:Hid (W3.heap.size≠v.heap.size):=hGN;generalize W3.heap.size=G at hG HGN⊢;clear hw4 HSP hGN;go_wp2_with fail
 go_loopg [34] brs.length (fun q iv X=>∃(i:Nat) (bv:Value),i+q=brs.length/\iv=.int .i64 i/\IS v X 39 [.string nm,.int .i64 tm,.int .i64 td,bv] 93 6 bv i ((brs.take i).flatMap Bk.cells)/\Blk X G 9 (strs (piecesB rest)))
 case atStart=>exact⟨0,_,by omega,rfl,k,hG⟩
 case round=>
  clear k hG;obtain⟨i,bv,hi,rfl,k,hG⟩:=hrel;by_cases hlt:i<brs.length
  ·have hlp:i<(piecesB rest).length:=by rw[HRB.out.len];exact hlt
   have hc:=strs_get hG hlp;have hTK:(brs.take (i+1)).flatMap Bk.cells=(brs.take i).flatMap Bk.cells++brs[i].cells:=by rw[List.take_succ_eq_append_getElem hlt,List.flatMap_append];simp
   obtain⟨hps,x,y,hcut,hx1,hy1,hrx,hry⟩:=HRB.out.ok i hlt hlp;generalize (piecesB rest)[i]=p at*;generalize brs[i]=bk at*;obtain⟨⟨f1,f2,f3⟩,⟨r1,r2,r3⟩⟩:=bk;have HTK:=zH hTK;obtain⟨m,hm⟩:=(HLK.out _ (bstep HBV.out k.bl)).e.base.cut.2;have HCT:=zH (Tryz.strings_Cut p ⟨#[32]⟩ m _ (by omega) hm);rw[show (⟨#[32]⟩:ByteArray).data.toList=[32] from rfl,hcut] at HCT;simp only at HCT hrx hry
   have HNX:Hid (∀W,Laid W->Calls Tryz.prog 135 #[.string ⟨x.toArray⟩] W fun e w'=>e=.returned (.agg #[.bool f1,.string f2,.string f3])/\Below W.heap.size W w'):=fun W hL=>by
    have k:=uNumber_any ⟨x.toArray⟩ W hL (by show x.toArray.size<=_;simp;omega) (by rw[hrx]);rw[hrx] at k;exact k
   have HNY:Hid (∀W,Laid W->Calls Tryz.prog 135 #[.string ⟨y.toArray⟩] W fun e w'=>e=.returned (.agg #[.bool r1,.string r2,.string r3])/\Below W.heap.size W w'):=fun W hL=>by
    have k:=uNumber_any ⟨y.toArray⟩ W hL (by show y.toArray.size<=_;simp;omega) (by rw[hry]);rw[hry] at k;exact k
   clear hTK hps hcut hm hx1 hy1 hrx hry;generalize (⟨x.toArray⟩:ByteArray)=xb at*;generalize (⟨y.toArray⟩:ByteArray)=yb at*;go_wp2_with fail;refine HCT.out.mono ?_;rintro e w5 ⟨rfl,nd,hw5⟩;replace k:=k.below (X':=w5) (by rw[hw5];exact drewN_below _ _ _);replace hG:=hG.below (w':=w5) (by rw[hw5];exact drewN_below _ _ _) hG.lt;clear hc hw5 HCT;go_wp2_with fail;refine (must_yes w5).mono ?_;rintro e w6 ⟨rfl,hw1⟩;rw[hw1];clear hw1;have hcx:=fun Y (h:Blk Y v.heap.size 39 [.string nm,.int .i64 tm,.int .i64 td,bv]/\Blk Y G 9 (strs (piecesB rest)))=>h.1.cells
   go_upto_region 9 with fail
   refine reS (fun Y=>Blk Y v.heap.size 39 [.string nm,.int .i64 tm,.int .i64 td,bv]/\Blk Y G 9 (strs (piecesB rest))) 10 ⟨k.b.drew,hG.drew⟩ (fun w7 h7 hS=>?_);replace k:=k.below h7
   iterate 3 refine reA ?_
   refine reZ 4 ?_;refine reC 3 (HNX.out w7 (HLK.out _ (bstep HBV.out k.bl)).e.base) ?_;rintro e w8 ⟨rfl,hb8⟩;refine⟨_,rfl,⟨hS.1.below hb8 hS.1.lt,hS.2.below hb8 hS.2.lt⟩,fun hS=>?_⟩;replace k:=k.below hb8;refine reC 5 (HNY.out w8 (HLK.out _ (bstep HBV.out k.bl)).e.base) ?_;rintro e w9 ⟨rfl,hb9⟩;refine⟨_,rfl,⟨hS.1.below hb9 hS.1.lt,hS.2.below hb9 hS.2.lt⟩,fun hS=>?_⟩;replace k:=k.below hb9;refine reA ?_;refine reV 7 (fun _=>⟨hS.1.alloc _,hS.2.alloc _⟩) (fun _=>?_);refine reP 8 info_brk Tryz.underlying37 k.o (by omega) k.hW (fun v' w10 ho hg _ _=>⟨⟨k.blk (by decide) hg,(TF.grown k.o hg).blk hS.2 (by decide)⟩,fun hS=>?_⟩);obtain⟨A9,c9,rfl,_⟩:=own_rd ho;have fL:=hS.1.froz;refine reA ?_;refine reW 10 (fun h=>absurd rfl h) (fun _=>?_);refine reE ?_;have k2:=k.push (ys:=(brs.take (i+1)).flatMap Bk.cells) (by decide) hg (by rw[HTK.out];exact ho) 3;have hG2:=hS.2.other (p:=⟨v.heap.size,3,none⟩) HGN.out (.slice A9 (i+1) c9);clear hcx hS fL ho hg k hG hb8 hb9 h7;go_wp2
   go_roundg (brs.length-(i+1))
   case measure=>omega
   case rel=>exact⟨i+1,_,by omega,by go_num,k2,hG2⟩
  ·obtain rfl:i=brs.length:=by omega
   rw[List.take_of_length_le (Nat.le_refl _)] at k;have h5:=h.below k.bl;obtain⟨A9,c9,rfl,_⟩:=own_rd k.o;have hcx:=fun Y (q:SV w0 R fv sv pv Y/\Blk Y v.heap.size 39 [.string nm,.int .i64 tm,.int .i64 td,.slice A9 brs.length c9])=>And.intro q.1.1.cells q.2.cells
   clear HRB HLK hcap hG
   go_upto_region 11 with fail
   refine reS (fun Y=>SV w0 R fv sv pv Y/\Blk Y v.heap.size 39 [.string nm,.int .i64 tm,.int .i64 td,.slice A9 brs.length c9]) 10 ⟨h5.svd,k.b.drew⟩ (fun w7 h7 hS=>?_);replace h5:=h5.below h7;replace k:=k.below h7
   iterate 6 refine reA ?_
   refine reV 6 (fun _=>⟨hS.1.alloc _,hS.2.alloc _⟩) (fun _=>?_);refine reP 7 info_sch Tryz.underlying25 h5.s (by omega) h5.hR (fun v' w8 ho hg _ _=>⟨⟨h5.grow h5.s (by decide) hg,blk_gr hS.2 hg (fun z e=>(h.s.lt z e).2)⟩,fun hS=>?_⟩);obtain⟨A8,c8,rfl,_⟩:=own_rd ho;have fL:=hS.1.1.froz
   iterate 2 refine reA ?_
   refine reW 10 (fun h=>absurd rfl h) (fun _=>?_);refine reE ?_;have hz:=h5.pushS (⟨nm,tm,td,brs⟩,⟨A9,brs.length,c9⟩) ⟨rfl,own_lower k.o (by have:=h.hR;omega)⟩ ho hg;have hF:=FR.grown (R:=R) (i:=1) (u:=.slice A8 (ss.length+1) c8) (bstep HBV.out k.bl) h5.s (.inr (.inl rfl)) hg;clear hcx hS fL ho hg k h5 h;go_wp2;go_end0;exact⟨rfl,⟨_,_,hz⟩,hF⟩
theorem info_prov:(Tryz.prog.info? 45).map (fun i=>(i.zero,i.size,i.bytes))=some (some (.agg #[.string ⟨#[]⟩,.bool false,.int .i64 0,.int .i64 0,.slice none 0 0,.bool false,.bool false,.string ⟨#[]⟩,.string ⟨#[]⟩,.bool false,.string ⟨#[]⟩,.string ⟨#[]⟩]),12,152):=by kernel_rfl
def sCharge:ByteArray:=⟨#[99,104,97,114,103,101]⟩
def sStep:ByteArray:=⟨#[115,116,101,112]⟩
def sCap1:ByteArray:=⟨#[99,97,112]⟩
def provTl (ch sp:Bool) (x y:ByteArray):List ByteArray:=(if ch then [sCharge] else [])++(if sp then [sStep,x,sCap1,y] else [])
theorem uProv_any (w0 w:World) (R g:Nat) (l:Lw) (ss:List (Sc × Hd)) (ps:List (Pv × Hd)) (fv sv pv:Value) (wd nm s rest x y:ByteArray) (t:Ty) (ch sp:Bool) (st cp:Ra) (body:List Nd) (h:PT w0 w R l ss ps fv sv pv) (hL:LaidK w) (ht:tyIn t=true) (hs:s=tyText t) (hn:ps.length<=1000)
  (hr:rest.data.toList.length<=1048576) (hb:parseE rest.data.toList=(body,0)) (hx:sp=true->x.size<=1048576/\y.size<=1048576/\ratParse x=(st,true)/\ratParse y=(cp,true)) (hz:sp=false->st=zR/\cp=zR) (m:Nat) (hm:m=(provTl ch sp x y).length) (hg:Blk w g 9 (strs (wd::nm::s::provTl ch sp x y))):
  Calls Tryz.prog 136 #[.pointer (some ⟨R,0,none⟩),.slice (some ⟨g,1,none⟩) (m+2:Nat) (m+2:Nat),.string rest] w fun e w'=>e=.returned (.tuple #[])/\(∃v' hd,PT w0 w' R ⟨l.facts,l.schs,l.provs++[⟨nm,t,ch,st,cp,body⟩]⟩ ss (ps++[(⟨nm,t,ch,st,cp,body⟩,hd)]) fv sv v')/\FR R w w':=by
 have HT:=zH (fun W (hb:Below w.heap.size w W)=>hs ▸ uTypeOf_any t W (hL.below hb) ht);have HPT:=zH h;have HLK:Hid (∀W,Below w.heap.size w W->LaidK W):=fun W hb=>hL.below hb
 have HG:Hid (∀W,Below w.heap.size w W->Blk W g 9 (strs (wd::nm::s::provTl ch sp x y))):=fun W hb=>hg.below hb hg.lt
 have HSS:Hid (∀W,Below w.heap.size w W->W.cell? ⟨g,1,none⟩=some (.string nm)/\W.cell? ⟨g,2,none⟩=some (.string s)):=fun W hb=>⟨(HG.out W hb).cells 1,(HG.out W hb).cells 2⟩
 have HX:=zH hx
 have HPA:Hid (∀W,Below w.heap.size w W->Calls Tryz.prog 137 #[.string rest] W (RetEsF (body,0) W)):=fun W hb'=>by
  have k:=eParse_new rest.data.toList body W (hL.below hb').e hr hb;exact k
 have HM:=zH must_yes;obtain⟨tt,tm,td⟩:=t;obtain⟨p1,p2,p3⟩:=st;obtain⟨q1,q2,q3⟩:=cp;have HZ:=zH hz;have HMM:=zH hm;unfold Ty.v at HT;simp only at HT;have hm0:(0:Int)<(m:Int)+2:=by omega
 have hm1:(1:Int)<(m:Int)+2:=by omega
 have hm2d:decide ((2:Int)<=(m:Int)+2)=true:=decide_eq_true (by omega);clear h hL ht hs hg hx hr hb hz hm;go_enter Tryz.func136,Tryz.ntmps136;go_wp2_with fail;refine (HM.out w).mono ?_;rintro e w1 ⟨rfl,hw1⟩;have hw2:=hw1.symm;clear hw1;subst hw2;have hcg:=fun (X:World) (h:Below w.heap.size w X)=>HSS.out X h
 go_upto_region 1 with fail
 go_cut [6] from 13 to 20 (fun u X=>∃W,u=.pointer (some ⟨W.heap.size,0,none⟩)/\Below w.heap.size w W/\IS W X 45 [.string nm,.bool tt,.int .i64 tm,.int .i64 td,.slice none 0 0,.bool false,.bool false,.string ⟨#[]⟩,.string ⟨#[]⟩,.bool false,.string ⟨#[]⟩,.string ⟨#[]⟩] 49 5 (.slice none 0 0) 0 (nds []))
 case first=>
  refine reS (Below w.heap.size w) 9 (drewN_below _ _ 1) (fun v hv hS=>?_)
  iterate 6 refine reA ?_
  have hS0:=hS;refine reTwo 6 8 (opC (HT.out v hS) ?_) (opV (fun _=>hS.alloc hS.size _) (fun hS=>?_))
  ·rintro e v1 ⟨rfl,hb1⟩;refine⟨_,rfl,bstep hS hb1,fun hS=>?_⟩;refine reZ 7 ?_;refine reV 8 (fun _=>hS.alloc hS.size _) (fun _=>?_);refine reW 9 (fun h=>absurd rfl h) (fun _=>?_);refine reE ?_;go_wp2
   go_meet
   case rel=>exact⟨v1,rfl,hS,zB _ _,Blk.new _ _ _,World.ownsRow_nil _ _ _ _⟩
  ·refine reC 6 (HT.out _ hS) ?_;rintro e v1 ⟨rfl,hb1⟩;refine⟨_,rfl,bstep hS hb1,fun hS2=>?_⟩;refine reZ 7 ?_;have k:IS v v1 45 [.string ⟨#[]⟩,.bool false,.int .i64 0,.int .i64 0,.slice none 0 0,.bool false,.bool false,.string ⟨#[]⟩,.string ⟨#[]⟩,.bool false,.string ⟨#[]⟩,.string ⟨#[]⟩] 49 5 (.slice none 0 0) 0 (nds []):=⟨bstep (zB _ _) hb1,(Blk.new _ _ _).below hb1 (Blk.new _ _ _).lt,World.ownsRow_nil _ _ _ _⟩
   have hkc:=k.b.cells;have hkf:=k.b.froz;refine reW 9 (fun h=>absurd rfl h) (fun _=>?_);refine reE ?_;have k2:=(((((((((((k.put 0 (.string nm)).put 1 (.bool tt)).put 2 (.int .i64 tm)).put 3 (.int .i64 td)).put 4 (.slice none 0 0)).put 5 (.bool false)).put 6 (.bool false)).put 7 (.string ⟨#[]⟩)).put 8 (.string ⟨#[]⟩)).put 9 (.bool false)).put 10 (.string ⟨#[]⟩)).put 11 (.string ⟨#[]⟩);clear hkc hkf k;go_wp2
   go_meet
   case rel=>exact⟨v,rfl,hS0,k2⟩
 case rest=>
  obtain⟨V,rfl,hV,k⟩:=hcut;have HV:=zH hV;clear hcg hV
  go_upto_region 2 with fail
  go_cut [1] from 21 to 22 (fun v w'=>∃A2,v=.slice A2 (m:Nat) (m:Nat)/\Hid (m≠0->A2=some ⟨g,3,none⟩)/\w'=wc)
  case first=>
   rcases Nat.eq_zero_or_pos m with h0|h0
   ·subst h0;go_wp2
    go_meet
    case rel=>exact⟨_,rfl,fun h=>absurd rfl h,rfl⟩
   ·obtain⟨k,rfl⟩:∃k,m=k+1:=⟨m-1,by omega⟩
    go_wp2
    go_meet
    case rel=>exact⟨_,rfl,fun h=>rfl,rfl⟩
  case rest=>
   obtain⟨A2,rfl,HA2,rfl⟩:=hcut
   go_upto_region 3 with fail
   go_cut [31] from 23 to 31 (fun v w'=>v=.bool ch/\w'=wc)
   case first=>
    have h3:=(HG.out _ (bstep HV.out k.bl)).cells 3;cases ch<;>cases sp
    ·obtain rfl:m=0:=HMM.out;go_wp2
     go_meet
     case rel=>exact⟨rfl,rfl⟩
    ·obtain rfl:m=4:=HMM.out;obtain rfl:=HA2.out (by decide);replace h3:wc.cell? ⟨g,3,none⟩=some (.string ⟨#[115,116,101,112]⟩):=h3;go_wp2
     go_meet
     case rel=>exact⟨rfl,rfl⟩
    ·obtain rfl:m=1:=HMM.out;obtain rfl:=HA2.out (by decide);replace h3:wc.cell? ⟨g,3,none⟩=some (.string ⟨#[99,104,97,114,103,101]⟩):=h3;go_wp2
     go_meet
     case rel=>exact⟨rfl,rfl⟩
    ·obtain rfl:m=5:=HMM.out;obtain rfl:=HA2.out (by decide);replace h3:wc.cell? ⟨g,3,none⟩=some (.string ⟨#[99,104,97,114,103,101]⟩):=h3;go_wp2
     go_meet
     case rel=>exact⟨rfl,rfl⟩
   case rest=>
    obtain⟨rfl,rfl⟩:=hcut
    go_upto_if 31 with fail
    go_cut [1] from 32 to 34 (fun v w'=>∃(A3:Option Addr) (q o3:Nat),v=.slice A3 q q/\Hid (q=if sp then 4 else 0)/\Hid (o3=if ch then 4 else 3)/\Hid (sp=true->A3=some ⟨g,o3,none⟩)/\IS V w' 45 [.string nm,.bool tt,.int .i64 tm,.int .i64 td,.slice none 0 0,.bool ch,.bool false,.string ⟨#[]⟩,.string ⟨#[]⟩,.bool false,.string ⟨#[]⟩,.string ⟨#[]⟩] 49 5 (.slice none 0 0) 0 (nds []))
    case first=>
     cases ch
     ·go_wp2
      go_meet
      case rel=>
       refine⟨A2,m,3,rfl,?_,rfl,fun h=>HA2.out ?_,k⟩
       ·show _=_;rw[HMM.out];cases sp<;>rfl
       ·subst h;rw[HMM.out];show (4:Nat)≠0;decide
     ·have hkc:=k.b.cells;have hkf:=k.b.froz;cases sp
      ·obtain rfl:m=1:=HMM.out;obtain rfl:=HA2.out (by decide)
       go_upto_region 4 with fail
       go_region;go_wp2
       go_meet
       case rel=>exact⟨_,0,4,rfl,rfl,rfl,(fun h=>by cases h),(k.put 5 (.bool true)).below (drewN_below _ _ 1)⟩
      ·obtain rfl:m=5:=HMM.out;obtain rfl:=HA2.out (by decide)
       go_upto_region 4 with fail
       go_region;go_wp2
       go_meet
       case rel=>exact⟨_,4,4,rfl,rfl,rfl,(fun _=>rfl),(k.put 5 (.bool true)).below (drewN_below _ _ 1)⟩
    case rest=>
     clear k;obtain⟨A3,q,o3,rfl,HQ4,HO3,HA3,k⟩:=hcut;clear HMM HA2
     go_upto_if 37 with fail
     go_cut [] from 38 to 63 (fun X=>IS V X 45 [.string nm,.bool tt,.int .i64 tm,.int .i64 td,.slice none 0 0,.bool ch,.bool p1,.string p2,.string p3,.bool q1,.string q2,.string q3] 49 5 (.slice none 0 0) 0 (nds []))
     case first=>
      cases sp
      ·obtain rfl:q=0:=HQ4.out;obtain⟨e1,e2⟩:=HZ.out rfl;injection e1 with e1 e3 e4;injection e2 with e2 e5 e6;subst e1 e2 e3 e4 e5 e6;go_wp2
       go_meet
       case rel=>exact k
      ·obtain rfl:q=4:=HQ4.out;obtain rfl:=HA3.out rfl;obtain⟨hx1,hy1,hrx,hry⟩:=HX.out rfl
       have hcg:=fun (W:World) (hb:Below w.heap.size w W)=>show W.cell? ⟨g,o3,none⟩=some (.string ⟨#[115,116,101,112]⟩)/\W.cell? ⟨g,o3+1,none⟩=some (.string x)/\W.cell? ⟨g,o3+2,none⟩=some (.string ⟨#[99,97,112]⟩)/\W.cell? ⟨g,o3+3,none⟩=some (.string y) from by
        have k:=(HG.out W hb).cells;cases ch
        ·obtain rfl:o3=3:=HO3.out;exact⟨k 3,k 4,k 5,k 6⟩
        ·obtain rfl:o3=4:=HO3.out;exact⟨k 4,k 5,k 6,k 7⟩
       have HNX:Hid (∀W,Laid W->Calls Tryz.prog 135 #[.string x] W fun e w'=>e=.returned (.agg #[.bool p1,.string p2,.string p3])/\Below W.heap.size W w'):=fun W hL=>by
        have k:=uNumber_any x W hL hx1 (by rw[hrx]);rw[hrx] at k;exact k
       have HNY:Hid (∀W,Laid W->Calls Tryz.prog 135 #[.string y] W fun e w'=>e=.returned (.agg #[.bool q1,.string q2,.string q3])/\Below W.heap.size W w'):=fun W hL=>by
        have k:=uNumber_any y W hL hy1 (by rw[hry]);rw[hry] at k;exact k
       clear hx1 hy1 hrx hry;have hl:=hcg _ (bstep HV.out k.bl);go_wp2_with fail;refine (HM.out _).mono ?_;rintro e w5 ⟨rfl,hw5⟩;rw[hw5];clear hw5 hl
       go_upto_region 7 with fail
       refine reS (Below w.heap.size w) 11 (bstep HV.out k.bl).drew (fun v hv hS=>?_);replace k:=k.below hv
       iterate 3 refine reA ?_
       refine reZ 4 ?_;refine reZ 5 ?_;refine reZ 6 ?_;refine reC 3 (HNX.out v (HLK.out _ hS).e.base) ?_;rintro e v1 ⟨rfl,hb1⟩;refine⟨_,rfl,bstep hS hb1,fun hS=>?_⟩;replace k:=k.below hb1;refine reZ 8 ?_;refine reC 7 (HNY.out v1 (HLK.out _ hS).e.base) ?_;rintro e v2 ⟨rfl,hb2⟩;refine⟨_,rfl,bstep hS hb2,fun hS=>?_⟩;replace k:=k.below hb2;have hkc:=k.b.cells;have hkf:=k.b.froz;refine reW 9 (fun _=>bstep HV.out (((k.put 6 _).put 7 _).put 8 _).bl) (fun hS=>?_);replace hS:=hS (by decide);replace k:=((k.put 6 (.bool p1)).put 7 (.string p2)).put 8 (.string p3);simp only[List.set] at k;clear hkc hkf;generalize World.setCell (World.setCell (World.setCell v2 _ _) _ _) _ _=v3 at k hS⊢;have hkc:=k.b.cells;have hkf:=k.b.froz;refine reZ 10 ?_;refine reW 11 (fun h=>absurd rfl h) (fun _=>?_);refine reE ?_;replace k:=((k.put 9 (.bool q1)).put 10 (.string q2)).put 11 (.string q3);simp only[List.set] at k;clear hkc hkf;go_wp2
       go_meet
       case rel=>exact k
     case rest=>
      clear k HX HZ HQ4 HO3 HA3;have k:=hcut;clear hcut;go_wp2_with fail;refine (HPA.out _ (bstep HV.out k.bl)).mono ?_;rintro e w7 ⟨Ab,nb,cb,rfl,hes,hb7,hown7⟩;obtain rfl:nb=body.length:=hes.len;have hW7:=k.hW;replace k:=k.below hb7;have HO7:Hid (w7.ownsRow (V.heap.size+1) 49 5 (.slice Ab body.length cb) body.length (nds body)):=own_lower hown7 hW7;clear hes hown7 hW7;simp only
      go_wp2_with fail;refine (HM.out w7).mono ?_;rintro e w8 ⟨rfl,hw8⟩;rw[hw8];clear hw8;have hkc:=k.b.cells;have hkf:=k.b.froz
      go_upto_region 11 with fail
      have k2:IS V (w7.setCell ⟨V.heap.size,4,none⟩ (.slice Ab body.length cb)) 45 [.string nm,.bool tt,.int .i64 tm,.int .i64 td,.slice Ab body.length cb,.bool ch,.bool p1,.string p2,.string p3,.bool q1,.string q2,.string q3] 49 5 (.slice Ab body.length cb) body.length (nds body):=⟨(k.put 4 _).bl,(k.put 4 _).b,own_set HO7.out 4 _⟩
      clear hkc hkf k hb7 HO7;generalize World.setCell w7 _ _=X at k2⊢;have h5:=HPT.out.below (bstep HV.out k2.bl);have hcx:=fun Y (q:SV w0 R fv sv pv Y/\Blk Y V.heap.size 45 [.string nm,.bool tt,.int .i64 tm,.int .i64 td,.slice Ab body.length cb,.bool ch,.bool p1,.string p2,.string p3,.bool q1,.string q2,.string q3])=>And.intro q.1.1.cells q.2.cells
      refine reS (fun Y=>SV w0 R fv sv pv Y/\Blk Y V.heap.size 45 [.string nm,.bool tt,.int .i64 tm,.int .i64 td,.slice Ab body.length cb,.bool ch,.bool p1,.string p2,.string p3,.bool q1,.string q2,.string q3]) 10 ⟨h5.svd,k2.b.drew⟩ (fun w9 h9 hS=>?_);replace h5:=h5.below h9;replace k2:=k2.below h9
      iterate 6 refine reA ?_
      refine reV 6 (fun _=>⟨hS.1.alloc _,hS.2.alloc _⟩) (fun _=>?_);refine reP 7 info_prov Tryz.underlying26 h5.p (by omega) h5.hR (fun v' w10 ho hg _ _=>⟨⟨h5.grow h5.p (by decide) hg,blk_gr hS.2 hg (fun z e=>((HPT.out.below HV.out).p.lt z e).2)⟩,fun hS=>?_⟩);obtain⟨A8,c8,rfl,_⟩:=own_rd ho;have fL:=hS.1.1.froz
      iterate 2 refine reA ?_
      refine reW 10 (fun h=>absurd rfl h) (fun _=>?_);refine reE ?_;have hz:=h5.pushP (⟨nm,⟨tt,tm,td⟩,ch,⟨p1,p2,p3⟩,⟨q1,q2,q3⟩,body⟩,⟨Ab,body.length,cb⟩) ⟨rfl,own_lower k2.o (by have:=(HPT.out.below HV.out).hR;omega)⟩ ho hg;have hF:=FR.grown (R:=R) (i:=2) (u:=.slice A8 (ps.length+1) c8) (bstep HV.out k2.bl) h5.p (.inr (.inr rfl)) hg;clear hcx hS fL ho hg k2 h5;go_wp2;go_end0;exact⟨rfl,⟨_,_,hz⟩,hF⟩
end Go.Proofs.YtimokmplkpbmdaaGreatDoor
