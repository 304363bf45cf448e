/- The tied card of the statement ExprParses (tithinglaw07) is proved. Conditions: the package-level variables that the row lists hold what the program's own text lays in them. -/
import Derived.SevenTiedAt
import Derived.Test.YtbicehdehiakgaaGreatDoorTie
import Derived.Test.YtbicehdehiakgaaGreatDoorCards
import Derived.Test.YtbicehdehiakgaaGreatDoorG37
import Derived.Test.YtbicehdehiakgaaGreatDoorG38
import Derived.Test.YtbicehdehiakgaaGreatDoorK00
import Derived.Test.YtbicehdehiakgaaGreatDoorK01
import Derived.Test.YtbicehdehiakgaaGreatDoorK02
import Derived.Test.YtbicehdehiakgaaGreatDoorK03
set_option linter.unusedVariables false
set_option linter.unusedSimpArgs false
namespace Go.Proofs.YtbicehdehiakgaaGreatDoor
open Go.RowKit
theorem mk_ba (s:ByteArray):(⟨s.data.toList.toArray⟩:ByteArray)=s:=rfl
theorem parseE_cases (X:List UInt8):(∃ns,parseE X=(ns,0)∧checkE ns=0∧textE ns=X∧∀n∈ns,Fine n)∨parseE X=([],11):=by
 unfold parseE;cases h:parseA X with
 |none=>exact .inr rfl
 |some ns=>
  obtain⟨h1,h2⟩:=(parseA_iff X ns).1 h;exact .inl ⟨ns,rfl,h1,h2,check_fine h1⟩
set_option maxRecDepth 100000 in
set_option maxHeartbeats 6400000 in
theorem exprParses_core (l:List Int) (A1:Option Addr) (l1 c1:Nat) (x y:Nat) (S:ByteArray) (w:World) (hL:LaidE w) (h1:Zz w l A1 l1 c1) (hx:x<256) (hy:y<256):
  Calls Tryz.prog 5 #[.slice A1 l1 c1,.agg #[.int .u8 (x:Int),.int .u8 (y:Int)],.string S] w fun e w'=>e=.returned (.bool true)∧Below w.heap.size w w':=by
 have HL:Hid (∀W,Below w.heap.size w W→LaidE W):=fun W hb=>hL.below hb
 have H1:=Lib.hid h1;have HCA:=Lib.hid (madeE_check l);have HFA:=Lib.hid (madeE_fine l);obtain⟨W0,hW0⟩:∃W0,W0=w.alloc (.cells #[.int .u8 (x:Int),.int .u8 (y:Int)] 28):=⟨_,rfl⟩
 obtain⟨B0,hB0⟩:∃B0,B0=w.heap.size:=⟨_,rfl⟩
 have hk0:Blk W0 B0 28 [.int .u8 (x:Int),.int .u8 (y:Int)]:=by rw[hW0,hB0];exact Blk.new w _ _
 have hb0:Below w.heap.size w W0:=by rw[hW0];exact (Below.refl _ _).alloc (Nat.le_refl _) _
 have HK0:=Lib.hid hk0;have HB0:=Lib.hid hb0;clear h1 hk0 hb0;go_enter Tryz.func5,Tryz.ntmps5;go_wp2_with fail;simp only[←hW0,←hB0]
 clear hW0 hB0;refine (lsanity_any _ (HL.out _ HB0.out)).mono ?_;rintro e w1 ⟨rfl,hb1⟩;have hk1:=HK0.out.below hb1 HK0.out.lt;have hb1:=bstep HB0.out hb1;have HK1:=Lib.hid hk1;clear HK0 HB0 hk1;go_wp2_with fail;obtain⟨SA,hSA,hsa⟩:∃SA:ByteArray,SA=S.extract 0 (min (S.size:Int) 100).toNat∧SA.size≤100:=⟨_,rfl,by rw[ByteArray.size_extract];omega⟩
 have HSA:=Lib.hid hsa;simp only[←hSA]
 clear hSA hsa;refine (made_es (H1.out.below hb1)).mono ?_;rintro e w2 ⟨Aa,na,ca,rfl,ha,hb2⟩;have hk2:=HK1.out.below hb2 HK1.out.lt;have hb2:=bstep hb1 hb2;clear hb1 HK1;generalize madeE l=es at*;have HTL:Hid ((textE es).length≤42120):=textE_len60 HCA.out;have HT:=Lib.hid (gText_any es Aa na ca w2 ha HFA.out);unfold RetText at HT;rw[HCA.out,if_pos rfl] at HT;obtain⟨T,hT⟩:∃T:ByteArray,T=⟨(textE es).toArray⟩:=⟨_,rfl⟩
 have hts:T.size≤42120:=by rw[hT];exact HTL.out
 rw[←hT] at HT;have HK2:=Lib.hid hk2;have HTS:=Lib.hid hts;clear hT hk2 HTL HCA HFA H1 hts ha;go_wp2_with fail;refine HT.out.mono ?_;rintro e w3 ⟨rfl,hb3⟩;have hk3:=HK2.out.below hb3 HK2.out.lt;have hb3:=bstep hb2 hb3;have hc:=hk3.cells;have hw1:IntKind.i64.wrap ((T.size:Int)+1)=(T.size:Int)+1:=IntWalk.i64_in _ (by have:=HTS.out;omega);have hn1:((T.size:Int)+1==0)=false:=beq_eq_false_iff_ne.2 (by omega);have HB3:=Lib.hid hb3;clear hb2 hk3 HK2 hb3
 go_upto_region 6 with fail
 have e1:((x:Int) % ((T.size:Int)+1))=((x % (T.size+1):Nat):Int):=by push_cast;rfl
 have e2:((y:Int) % ((T.size:Int)+1))=((y % (T.size+1):Nat):Int):=by push_cast;rfl
 have e3:max ((x % (T.size+1):Nat):Int) ((y % (T.size+1):Nat):Int)=((max (x % (T.size+1)) (y % (T.size+1)):Nat):Int):=by rw[Int.max_def,Nat.max_def];split<;>split<;>omega
 simp only[e1,e2,e3]
 have hi:x % (T.size+1)≤T.size:=by have:=Nat.mod_lt x (by omega:0<T.size+1);omega
 have hk:max (x % (T.size+1)) (y % (T.size+1))≤T.size:=Nat.max_le.2 ⟨hi,by have:=Nat.mod_lt y (by omega:0<T.size+1);omega⟩;clear e1 e2 e3 hw1 hn1 hc;generalize max (x % (T.size+1)) (y % (T.size+1))=k at*;generalize x % (T.size+1)=i at*;have hs1:¬(9223372036854775807<(T.extract 0 i).size+SA.size):=by have:=HTS.out;have:=HSA.out;rw[ByteArray.size_extract];omega
 have hs2:¬(9223372036854775807<T.size+SA.size):=by have:=HTS.out;have:=HSA.out;omega
 have hs3:¬(9223372036854775807<(T.extract 0 i++SA).size+(T.extract k T.size).size):=by have:=HTS.out;have:=HSA.out;rw[ByteArray.size_append,ByteArray.size_extract,ByteArray.size_extract];omega
 go_wp2;go_region;clear hs1 hs2 hs3;obtain⟨M,hM⟩:∃M,M=T.extract 0 i++SA++T.extract k T.size:=⟨_,rfl⟩
 obtain⟨TS,hTS⟩:∃TS,TS=T++SA:=⟨_,rfl⟩
 have hm1:M.size≤100000:=by have:=HTS.out;have:=HSA.out;rw[hM,ByteArray.size_append,ByteArray.size_append,ByteArray.size_extract,ByteArray.size_extract];omega
 have hm2:TS.size≤100000:=by have:=HTS.out;have:=HSA.out;rw[hTS,ByteArray.size_append];omega
 simp only[←hM,←hTS]
 have HM1:=Lib.hid hm1;have HM2:=Lib.hid hm2;clear hM hTS hm1 hm2 hi hk;obtain⟨W4,hW4⟩:∃W4,W4=(w3.alloc (.cells #[.string SA,.string T,.string M,.string TS] 9)).drew:=⟨_,rfl⟩
 obtain⟨B4,hB4⟩:∃B4,B4=w3.heap.size:=⟨_,rfl⟩
 have HK4:Hid (Blk W4 B4 9 [.string SA,.string T,.string M,.string TS]):=by show Blk _ _ _ _;rw[hW4,hB4];exact (Blk.new w3 _ _).drew
 have HB4:Hid (Below w.heap.size w W4):=by
  show Below _ _ _;rw[hW4];exact bstep HB3.out (below_drewN ((Below.refl _ _).alloc (Nat.le_refl _) _) 1)
 simp only[←hW4,←hB4]
 clear hW4 hB4;go_wp2
 go_loopg [64] 4 (fun g iv wr=>∃j:Nat,j+g=4∧iv=.int .i64 j∧Hid (Below W4.heap.size W4 wr))
 case atStart=>exact⟨0,by omega,rfl,Below.refl _ _⟩
 case round=>
  obtain⟨j,hj,rfl,hbr⟩:=hrel;by_cases hlt:j<4
  ·obtain⟨q,hq,hqs⟩:∃q:ByteArray,wr.cell? ⟨B4,j,none⟩=some (.string q)∧q.size≤100000:=by
    have h:=(HK4.out.below hbr.out HK4.out.lt).cells j;have h1:=HTS.out;have h2:=HSA.out;rcases (by omega:j=0∨j=1∨j=2∨j=3) with rfl|rfl|rfl|rfl
    ·exact⟨SA,h,by omega⟩
    ·exact⟨T,h,by omega⟩
    ·exact⟨M,h,HM1.out⟩
    ·exact⟨TS,h,HM2.out⟩
   have hql:q.data.toList.length≤100000:=by simpa using hqs
   have HEP:=fun (W:World) (h:LaidE W)=>eParse_any q.data.toList W h (by omega)
   have HGP:=fun (W:World)=>gParse_any q.data.toList W (by omega)
   rw[mk_ba] at HEP HGP;have HB:=hbr;have hj4:(j:Int)<4:=by omega
   clear hbr;rcases parseE_cases q.data.toList with⟨ns,hpe,hz,ht,hfi⟩|hpe
   ·have HEP:=Lib.hid (fun W h=>ret_es hpe (HEP W h));have HGP:=Lib.hid (fun W=>ret_es hpe (HGP W));have hq2:(⟨(textE ns).toArray⟩:ByteArray)=q:=by rw[ht]
    have HTX:=Lib.hid (fun (W:World) A n c (h1:LaidE W) (h2:Es W ns A n c)=>text_es h1 h2 hfi hz _ rfl);rw[hq2] at HTX;clear hpe hz ht hfi hq2 hqs hql;go_wp2_with fail;refine (HEP.out _ (HL.out _ (bstep HB4.out HB.out))).mono ?_;rintro e w5 ⟨Ae,ne,ce,rfl,he,hb5⟩;replace HB:=Lib.hid (bstep HB.out hb5);clear hq HEP hb5;go_wp2_with fail;refine (HGP.out _).mono ?_;rintro e w6 ⟨Ad,nd,cd,rfl,hd,hb6⟩;have HE:=Lib.hid (he.below hb6);have HD:=Lib.hid hd;replace HB:=Lib.hid (bstep HB.out hb6);clear he hd hb6 HGP;go_wp2_with fail;refine (gSame_es HE.out HD.out true (decide_eq_true rfl)).mono ?_;rintro e w7 ⟨rfl,hb7⟩;have HE7:=Lib.hid (HE.out.below hb7);replace HB:=Lib.hid (bstep HB.out hb7);clear hb7 HE HD;go_wp2_with fail;refine (HTX.out _ _ _ _ (HL.out _ (bstep HB4.out HB.out)) HE7.out).mono ?_;rintro e w8 ⟨rfl,hb8⟩;replace HB:=Lib.hid (bstep HB.out hb8);clear hb8 HTX HE7;go_wp2
    go_roundg (4-(j+1))
    case measure=>omega
    case rel=>exact⟨j+1,by omega,by go_num,HB⟩
   ·have HEP:=Lib.hid (fun W h=>ret_es hpe (HEP W h));have HGP:=Lib.hid (fun W=>ret_es hpe (HGP W));clear hpe hqs hql;go_wp2_with fail;refine (HEP.out _ (HL.out _ (bstep HB4.out HB.out))).mono ?_;rintro e w5 ⟨Ae,ne,ce,rfl,he,hb5⟩;replace HB:=Lib.hid (bstep HB.out hb5);clear hq HEP hb5;go_wp2_with fail;refine (HGP.out _).mono ?_;rintro e w6 ⟨Ad,nd,cd,rfl,hd,hb6⟩;have HE:=Lib.hid (he.below hb6);have HD:=Lib.hid hd;replace HB:=Lib.hid (bstep HB.out hb6);clear he hd hb6 HGP;go_wp2_with fail;refine (gSame_es HE.out HD.out true (decide_eq_true rfl)).mono ?_;rintro e w7 ⟨rfl,hb7⟩;replace HB:=Lib.hid (bstep HB.out hb7);clear hb7 HE HD;go_wp2
    go_roundg (4-(j+1))
    case measure=>omega
    case rel=>exact⟨j+1,by omega,by go_num,HB⟩
  ·obtain rfl:j=4:=by omega
   have HBE:Hid (Below w.heap.size w wr):=bstep HB4.out hbr.out;clear hbr;go_wp2;go_ret;exact⟨rfl,HBE.out⟩
end Go.Proofs.YtbicehdehiakgaaGreatDoor
namespace Go.Proofs.YtbicehdehiakgaaGreatDoor
open Go.ChangeShapes Go.WideShapes Go.ChangeAt Go.RowKit
set_option maxRecDepth 100000 in
theorem u82p_of_trod {H:Type} {enc:TypeId × Value→H} {W:World} {base:Nat} {spare:Nat→Bool} {held:Bool} {r:Reach} {b0:Nat} {v:Value} {d:DataW H} {p:List MemPlace} (hv:Value.okWide Tryz.prog W r b0 28 v) (h:DataW.Trod enc Tryz.prog W base spare held 28 v d p):
  ∃x y:Nat,v=.agg #[.int .u8 (x:Int),.int .u8 (y:Int)]∧x<256∧y<256:=by
 obtain⟨fuel,hf⟩:=h;have k1:Tryz.prog.cellsOf 5=1:=by kernel_rfl
 have k2:Tryz.prog.cellsOf 28=2:=by kernel_rfl
 obtain⟨cs,rfl,hsz⟩:=okWide_arr Tryz.underlying28 hv;obtain⟨cs⟩:=cs;have hcl:cs.length=2:=by rw[←k2];exact hsz
 obtain⟨a0,a1,rfl⟩:=len2t hcl;have hf':DataW.trod enc Tryz.prog W base spare held fuel 28 [a0,a1]=some (d,p):=hf;obtain⟨xs,m,_,ex,hxc,hxl,hx⟩:=DataW.trod_array Tryz.underlying28 hf';rw[k1] at hx;have g0:=hx 0 (by omega);have g1:=hx 1 (by omega);obtain⟨x0,x1,rfl⟩:=len2t hxl;simp only[Nat.zero_mul,Nat.one_mul,Nat.mul_one,List.drop_zero,List.take_succ_cons,List.take_zero,List.drop_succ_cons,List.getElem?_cons_zero,List.getElem?_cons_succ] at g0 g1;obtain⟨q0,b0',_,w0⟩:=DataW.trod_int Tryz.underlying5 g0;obtain⟨q1,b1',_,w1⟩:=DataW.trod_int Tryz.underlying5 g1;injection b0' with b0';injection b1' with b1';subst b0' b1';obtain⟨h0,h1⟩:=u8_in w0;obtain⟨h2,h3⟩:=u8_in w1;refine⟨q0.toNat,q1.toNat,?_,by omega,by omega⟩;rw[Int.toNat_of_nonneg h0,Int.toNat_of_nonneg h2]
theorem exprParses_types:∀t∈Tryz.f5.params.toList,Tryz.prog.readableRec t=true∧t<Tryz.prog.types.size:=by
 have hall:([27,28,9].all fun t=>Tryz.prog.readableRec t&&decide (t<Tryz.prog.types.size))=true:=by kernel_rfl
 rw[Tryz.params5];intro t ht;have hm:t∈[27,28,9]:=by simpa using ht
 simpa using List.all_eq_true.1 hall t hm
set_option maxRecDepth 100000 in
theorem exprParses_lifted (os:Os) (started:os.Started) (H:Type) (enc:TypeId × Value→H):
  ReturnsInHanded {} Tryz.checked os 5 .any (fun w args=>(Rows.exprParsesSpec.pre enc Tryz.prog Tryz.f5 [] false w args∧laidMetH Tryz.prog lds w)∧sizedMet enc Tryz.prog Tryz.f5 (OpenSpec.ofChange Rows.exprParsesSpec) false w args)
   (Rows.exprParsesSpec.post enc Tryz.prog Tryz.f5 false true false false):=by
 refine returns_shaped (C:=Tryz.checked) (X:=fun w _=>laidMetH Tryz.prog lds w) (fun _ _ _ hh h=>h.of_heap hh) Tryz.own started (by kernel_rfl) Tryz.func5
  (ChangeSpec.witness_shaped (enc:=enc) (C:=Tryz.checked) (os:=os) (X:=fun w _=>laidMetH Tryz.prog lds w) false (World.laidAll Tryz.prog os lds) #[.slice none 0 0,.agg #[.int .u8 0,.int .u8 0],.string ⟨#[]⟩] 8 (World.laidAll_os _ _ _)
    (World.shaped_of_ZipB (by kernel_rfl) (by kernel_rfl)) (by kernel_rfl) (by kernel_rfl) (by kernel_rfl) (world_met os _)) ?_
 intro W base args ds gs before hval0 hW hL hsh;have hval:∀(j:Nat) t v,Tryz.f5.params[j]?=some t→args[j]?=some v→Value.okWide Tryz.prog W .any base t v:=hval0;have hW':DataW.Whole enc Tryz.prog Tryz.f5.params.toList Rows.exprParsesSpec.vars false W args.toList ds gs before:=hW;obtain⟨p,q,hA0,hV,rfl,_,_⟩:=hW;have hA:DataW.TrodAll enc Tryz.prog W 0 (fun _=>true) true Tryz.f5.params.toList args.toList ds p:=hA0;rw[Tryz.params5] at hA hval;obtain⟨v0,v1,v2,d0,d1,d2,p0,p1,p2,rfl,rfl,rfl,h0,h1,h2⟩:=trodAll_three hA;obtain⟨rfl,rfl⟩:=trodVars_none hV;obtain⟨l,A0,n0,c0,rfl,hE0⟩:=zz_of_trod (hval 0 27 v0 rfl rfl) h0;obtain⟨x,y,rfl,hx,hy⟩:=u82p_of_trod (hval 1 28 v1 rfl rfl) h1;obtain⟨S,rfl⟩:=okWide_string Tryz.underlying9 (hval 2 9 v2 rfl rfl);refine (exprParses_core l A0 n0 c0 x y S W (laidE_of hL hsh) hE0 hx hy).mono fun e W' ⟨he,hb⟩=>?_
 subst he;exact⟨_,rfl,post_true (H:=H) (enc:=enc) (P:=Tryz.prog) (f:=Tryz.f5) (s:=Rows.exprParsesSpec) (tb:=4) Tryz.laidOut rfl rfl rfl Tryz.underlying4 exprParses_types hW' hb⟩
theorem exprParses_holds:Rows.ExprParsesSaid:=
 OpenClaim.holds_of_wide 5 Tryz.f5 rfl rfl rfl rfl rfl rfl rfl ⟨rfl,rfl,rfl,rfl,rfl⟩ rfl rfl rfl rfl rfl (by kernel_rfl) Tryz.func5 (by kernel_rfl)
  (of_decide_eq_true (by kernel_rfl)) (by unfold Func.isWrapper;first|(rw[if_pos (by decide+kernel)];kernel_rfl)|(rw[if_neg (by decide+kernel)];exact⟨rfl,rfl⟩))
  (fun os started H enc _=>exprParses_lifted os started H enc)
theorem exprParses_card:Rows.ExprParsesCardSaid:=
 Claim7.holds_tied_plain_at .later [] [.data,.data,.data,.data,.sentinel,.sentinel,.widerDeep,.pinned] true Rows.exprParsesCard.stood.harness true
  exprParses_holds (fun _ h=>by cases h) (by kernel_rfl) (fun _ h=>by cases h) exprParses_row_tie rfl ⟨rfl,rfl⟩ (by kernel_rfl) rfl
  (fun f fn hf hfn=>by
    obtain rfl:f=5:=Option.some.inj ((show Tryz.prog.funcNamed "tithing/tithinglaw07.ExprParses" =some 5 by kernel_rfl).symm.trans hf) |>.symm
    obtain rfl:fn=Tryz.f5:=(Option.some.inj (Tryz.func5.symm.trans hfn)).symm
    exact⟨by kernel_rfl,fun j t ht=>by
     rw[Tryz.params5] at ht;have hm:t∈[27,28,9]:=by simpa using Array.mem_of_getElem? ht
     have hall:([27,28,9].all fun u=> !Tryz.prog.wantsStandIn u)=true:=by kernel_rfl
     exact (show Tryz.prog.wantsStandIn t=false by simpa using List.all_eq_true.1 hall t hm)⟩)
  (by kernel_rfl)
end Go.Proofs.YtbicehdehiakgaaGreatDoor
