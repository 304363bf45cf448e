/- A part of the proof: Wk Wt Uu Ug Uh. -/
import Derived.Deep.Matrix
import Derived.Test.YtimokmplkpbmdaaGreatDoorB36
import Derived.Test.YtimokmplkpbmdaaGreatDoorB37
set_option linter.all false
set_option maxRecDepth 100000
set_option maxHeartbeats 0
namespace Go.Proofs.YtimokmplkpbmdaaGreatDoor
open Go.ChangeShapes Go.WideShapes Go.ChangeAt Go.RowKit
theorem i64_in64 {x:Int} (h:(Lit.int .i64 x).wf=true):-9223372036854775808<=x/\x<=9223372036854775807:=by
 simp only[Lit.wf,Bool.and_eq_true,decide_eq_true_eq] at h;exact⟨h.1,h.2⟩
theorem add_nn (b off m:Nat):(⟨b,off,none⟩:Addr).add m=⟨b,off+m,none⟩:=by unfold Addr.add;split<;>simp_all
theorem flat_row (xs:List (List Int × Hd)):xs.flatMap rowV=xs.map fun r=>Value.slice r.2.a r.2.n r.2.c:=by
 induction xs with
 |nil=>rfl
 |cons x xs ih=>rw[List.flatMap_cons,ih];rfl
theorem rows_of_trod {H:Type} {enc:TypeId × Value->H} {W:World} {base:Nat} {held:Bool} {r:Reach} {b0:Nat} {v:Value} {d:DataW H} {p:List MemPlace} (hv:Value.okWide Tryz.prog W r b0 22 v) (h:DataW.Trod enc Tryz.prog W base (fun _=>true) held 22 v d p):
  ∃(xs:List (List Int × Hd)) (hh:Hd),v=.slice hh.a hh.n hh.c/\RowAt W rowV xs hh/\∀r∈xs,IR W W.heap.size r:=by
 obtain⟨fuel,hf⟩:=h;obtain⟨A,n,c,rfl⟩:=okWide_slice Tryz.underlying22 hv;rcases Go.Deep.open_int_rows Tryz.underlying22 Tryz.underlying108 Tryz.underlying3 (by kernel_rfl) (by kernel_rfl) hf with⟨hcs,_⟩|⟨a,len,cap,As,L,C,Z,hcs,_,hl,hm,_,hx⟩
 ·have hcs:[Value.slice A n c]=[.slice none 0 0]:=hcs;injection hcs with hcs _;injection hcs with h1 h2 h3;subst h1 h2 h3;exact⟨[],⟨none,0,0⟩,rfl,⟨rfl,Nat.le_refl _,Nat.zero_le _,.inl rfl⟩,fun r hr=>by cases hr⟩
 ·have hcs:[Value.slice A n c]=[.slice (some a) len cap]:=hcs;injection hcs with hcs _;injection hcs with h1 h2 h3;subst h1 h2 h3;refine⟨(List.range n).map fun r=>((Z r).take (L r),⟨As r,L r,C r⟩),⟨some a,n,c⟩,rfl,⟨by simp,hl,hm,?_⟩,fun r hr=>?_⟩
  ·by_cases hn:n=0
   ·subst hn;exact .inl rfl
   ·have h00:=(hx 0 (by omega)).1;obtain⟨b,off,spot⟩:=a
    have hspot:spot=none:=by
     have:=World.cell?_spot h00;simpa [Addr.add] using this
    subst hspot;refine .inr ⟨b,off,rfl,?_,fun i hil=>?_⟩
    ·rw[add_nn] at h00;exact cell_lt h00
    ·have e:((List.range n).map fun r=>(((Z r).take (L r),⟨As r,L r,C r⟩):List Int × Hd)).flatMap rowV=(List.range n).map fun r=>Value.slice (As r) (L r) (C r):=by rw[flat_row,List.map_map];rfl
     have hil':i<n:=by rw[e] at hil;simpa using hil
     have h1:=(hx i (by omega)).1;rw[add_nn] at h1;rw[h1];simp only[e]
     simp
  ·obtain⟨i,hi,rfl⟩:=List.mem_map.1 hr;have hi:i<n:=by simpa using hi
   obtain⟨_,q2,q3,q4,q5,q6,q7⟩:=hx i (by omega);refine⟨by simp only[List.length_take];omega,q2,q3,?_,fun x hx=>i64_in64 (q5 x (List.mem_of_mem_take hx)),fun hne ad had=>?_⟩
   ·by_cases hL:L i=0
    ·simp only[hL,List.take_zero];exact .inl rfl
    ·obtain⟨a',ha⟩:∃a',As i=some a':=by
      cases hA:As i with
      |none=>have:=q6 hA;omega
      |some a'=>exact⟨a',rfl⟩
     have hc:=(q7 a' ha).2;have h00:=hc 0 (by omega);obtain⟨b,off,spot⟩:=a'
     have hspot:spot=none:=by
      have:=World.cell?_spot h00;simpa [Addr.add] using this
     subst hspot;refine .inr ⟨b,off,ha,?_,fun k hk=>?_⟩
     ·rw[add_nn] at h00;exact cell_lt h00
     ·unfold zvs at hk⊢;rw[List.length_map,List.length_take] at hk;have h1:=hc k (by omega);rw[add_nn] at h1;rw[h1,List.getElem_map,List.getElem_take,List.getD_eq_getElem?_getD,List.getElem?_eq_getElem (by omega)];rfl
   ·simp only at had hne
    have hL:0<C i:=by
     rcases Nat.eq_zero_or_pos (C i) with h0|h0
     ·exfalso;apply hne;rw[List.take_eq_nil_iff];right;exact List.length_eq_zero_iff.1 (by omega)
     ·exact h0
    have h00:=(q7 ad had).2 0 hL;exact World.block_lt_of_cell? _ _ h00 |> fun h=>by simpa [Addr.add] using h
theorem int_of_trod {H:Type} {enc:TypeId × Value->H} {W:World} {base:Nat} {spare:Nat->Bool} {held:Bool} {r:Reach} {b0:Nat} {v:Value} {d:DataW H} {p:List MemPlace} (hv:Value.okWide Tryz.prog W r b0 3 v) (h:DataW.Trod enc Tryz.prog W base spare held 3 v d p):
  ∃q:Int,v=.int .i64 q/\-9223372036854775808<=q/\q<=9223372036854775807:=by
 obtain⟨fuel,hf⟩:=h;obtain⟨q,rfl⟩:=okWide_int Tryz.underlying3 hv;have hf':DataW.trod enc Tryz.prog W base spare held fuel 3 [.int .i64 q]=some (d,p):=hf;obtain⟨q',e,_,w0⟩:=DataW.trod_int Tryz.underlying3 hf';injection e with e;injection e with _ e;subst e;exact⟨q,rfl,i64_in64 w0⟩
end Go.Proofs.YtimokmplkpbmdaaGreatDoor
namespace Go.Proofs.YtimokmplkpbmdaaGreatDoor
open Go.RowKit
inductive Ln
 |f (d:Dc)
 |s (x:Sc)
 |p (x:Pv)
def Lw.add (l:Lw):Ln->Lw
 |.f d=>⟨l.facts++[d],l.schs,l.provs⟩
 |.s x=>⟨l.facts,l.schs++[x],l.provs⟩
 |.p x=>⟨l.facts,l.schs,l.provs++[x]⟩
def kFact:ByteArray:=⟨#[102,97,99,116]⟩
def kSched:ByteArray:=⟨#[115,99,104,101,100,117,108,101]⟩
def kProv:ByteArray:=⟨#[112,114,111,118,105,115,105,111,110]⟩
def LineOk (s:ByteArray):Ln->Prop
 |.f d=>∃rest,LineW s [kFact,d.name,tyText d.ty] rest false/\nameOk d.name=true/\tyIn d.ty=true
 |.s x=>∃rest,LineW s [kSched,x.name,tyText ⟨false,x.money,x.days⟩] rest true/\nameOk x.name=true/\tyIn ⟨false,x.money,x.days⟩=true/\RestB rest x.brs
 |.p x=>∃(rest:ByteArray) (sp:Bool) (a b:ByteArray),LineW s (kProv::x.name::tyText x.ty::provTl x.charge sp a b) rest true/\nameOk x.name=true/\tyIn x.ty=true/\rest.data.toList.length<=1048576/\parseE rest.data.toList=(x.body,0)/\
   (sp=true->a.size<=1048576/\b.size<=1048576/\ratParse a=(x.step,true)/\ratParse b=(x.cap,true))/\(sp=false->x.step=zR/\x.cap=zR)
theorem line_any (w0 w:World) (R:Nat) (l:Lw) (s:ByteArray) (ln:Ln) (h:PX w0 w R l) (hL:LaidK w) (hf:l.facts.length<=1000) (hs:l.schs.length<=1000) (hp:l.provs.length<=1000) (ho:LineOk s ln):
  Calls Tryz.prog 34 #[.pointer (some ⟨R,0,none⟩),.string s] w fun e w'=>e=.returned (.bool true)/\PX w0 w' R (l.add ln)/\FR R w w':=by
 have hpx:=h;obtain⟨ss,ps,fv,sv,pv,hPT⟩:=h;have hsn:ss.length=l.schs.length:=by rw[<-hPT.sl,List.length_map]
 have hpn:ps.length=l.provs.length:=by rw[<-hPT.pl,List.length_map]
 cases ln with
 |f d=>
  obtain⟨rest,hw,hn,ht⟩:=ho;obtain⟨nm,t⟩:=d;refine line_core w0 w R l _ s rest kFact nm [tyText t] 0 false hpx hL hw rfl hn 0 _ (.inl ⟨rfl,rfl,rfl,rfl⟩) (fun W G hb hG=>?_);refine (uFact_any w0 W R G 2 l ss ps fv sv pv nm (tyText t) rest t (hPT.below hb) (hL.below hb) ht rfl hf ⟨_,hG,rfl,rfl⟩).mono ?_;rintro e w' ⟨h1,⟨v',h2⟩,h3⟩;exact⟨h1,⟨_,_,_,_,_,h2⟩,h3⟩
 |s x=>
  obtain⟨rest,hw,hn,ht,hr⟩:=ho;obtain⟨nm,tm,td,brs⟩:=x;refine line_core w0 w R l _ s rest kSched nm [tyText ⟨false,tm,td⟩] 0 true hpx hL hw rfl hn 1 _ (.inr (.inl ⟨rfl,rfl,rfl,rfl⟩)) (fun W G hb hG=>?_);refine (uSched_any w0 W R G 2 l ss ps fv sv pv nm (tyText ⟨false,tm,td⟩) rest tm td brs (hPT.below hb) (hL.below hb) ht rfl (by omega) hr ⟨_,hG,rfl,rfl⟩).mono ?_;rintro e w' ⟨h1,⟨v',hd,h2⟩,h3⟩;exact⟨h1,⟨_,_,_,_,_,h2⟩,h3⟩
 |p x=>
  obtain⟨rest,sp,a,b,hw,hn,ht,hr,hb',hx,hz⟩:=ho;obtain⟨nm,t,ch,st,cp,body⟩:=x;refine line_core w0 w R l _ s rest kProv nm (tyText t::provTl ch sp a b) (provTl ch sp a b).length true hpx hL hw rfl hn 2 _ (.inr (.inr ⟨rfl,rfl,rfl,rfl⟩)) (fun W G hb hG=>?_);refine (uProv_any w0 W R G l ss ps fv sv pv kProv nm (tyText t) rest a b t ch sp st cp body (hPT.below hb) (hL.below hb) ht rfl (by omega) hr hb' hx hz _ rfl hG).mono ?_;rintro e w' ⟨h1,⟨v',hd,h2⟩,h3⟩;exact⟨h1,⟨_,_,_,_,_,h2⟩,h3⟩
def FineTy (t:Ty):Prop:=(-1000<=t.money/\t.money<=1000)/\(-1000<=t.days/\t.days<=1000)/\FineR (ofI t.money)/\FineR (ofI t.days)
structure FineT (l:Lw):Prop where
 f:∀d∈l.facts,FineTy d.ty
 s:∀x∈l.schs,FineTy ⟨false,x.money,x.days⟩
 p:∀x∈l.provs,FineTy x.ty
 b:∀x∈l.schs,x.brs.length<=1000
structure TX (b:Nat) (w0 W:World) (tot R:List UInt8) (X:World):Prop where
 t:∃t0,WS w0.heap.size b w0 X t0/\t0++R=tot
 f:BF b W X
section
variable {b:Nat} {w0 W W2 X X':World} {tot R R':List UInt8}
theorem TX.bl (h:TX b w0 W tot R X):Below w0.heap.size w0 X:=let ⟨_,h1,_⟩:=h.t;h1.bl
theorem TX.lt (h:TX b w0 W tot R X):b<X.heap.size:=let ⟨_,h1,_⟩:=h.t;h1.lt
theorem TX.grow (h:TX b w0 W tot R X) (hb:Below X.heap.size X X'):TX b w0 W tot R X':=let ⟨t0,h1,h2⟩:=h.t;⟨⟨t0,h1.grow hb,h2⟩,h.f.trans (BF.of_below hb)⟩
theorem TX.here (h:TX b w0 W tot R X):TX b w0 X tot R X:=⟨h.t,BF.refl _ _⟩
theorem TX.back (h:TX b w0 X tot R X') (hf:BF b W X):TX b w0 W tot R X':=⟨h.t,hf.trans h.f⟩
theorem TX.as (h:TX b w0 W tot R X) (e:R=R'):TX b w0 W tot R' X:=e ▸ h
theorem TX.words (l:List ByteArray) (h:TX b w0 W tot (bytesL l++R) X) (ht:tot.length<=10000000000000) (hm:l.length<=1000:=by simp) (h0:l≠[]:=by simp):
  Calls Tryz.prog 81 #[.pointer (some ⟨b,0,none⟩),.slice (some ⟨X.heap.size,0,none⟩) l.length l.length] (X.alloc (.cells (strs l).toArray 9)) fun e X'=>e=.returned (.tuple #[])/\TX b w0 W tot R X'/\BF b X X':=by
 obtain⟨t0,h1,h2⟩:=h.t;have hb:=zB X (.cells (strs l).toArray 9);refine ((h1.grow hb).words l X.heap.size l.length (Blk.new X _ _) h1.lt rfl hm h0 (by have:=congrArg List.length h2;simp only[List.length_append] at this;omega)).mono ?_;rintro e X' ⟨rfl,hx,hf⟩;have hf':=(BF.of_below (b:=b) hb).trans hf;exact⟨rfl,⟨⟨_,hx,by rw[List.append_assoc];exact h2⟩,h.f.trans hf'⟩,hf'⟩
end
theorem fm_drop {α:Type} (f:α->List UInt8) {l:List α} {j:Nat} (h:j<l.length):(l.drop j).flatMap f=f l[j]++(l.drop (j+1)).flatMap f:=by rw[List.drop_eq_getElem_cons h,List.flatMap_cons]
theorem bk_drop {l:List Bk} {j:Nat} (h:j<l.length):bksL j (l.drop j)=bytesL (bkW j l[j])++bksL (j+1) (l.drop (j+1)):=by rw[List.drop_eq_getElem_cons h];rfl
theorem uWLaw_any (l:Lw) (ss:List (Sc × Hd)) (ps:List (Pv × Hd)) (f s p:Hd) (B b:Nat) (w0 w:World) (bs:List UInt8) (hS:WS B b w0 w bs) (hB0:B=w0.heap.size) (hL:LaidK w0) (h:LawAt w0 l ss ps f s p) (hf:FineL l) (hT:FineT l) (hlen:bs.length+(textL l).length<=10000000000000):
  Calls Tryz.prog 30 #[.pointer (some ⟨b,0,none⟩),lawV f s p] w fun e w'=>e=.returned (.tuple #[])/\WS B b w0 w' (bs++textL l):=by
 subst hB0;obtain⟨fa,fn,fc⟩:=f;obtain⟨sa,sn,sc⟩:=s;obtain⟨pa,pn,pc⟩:=p;have hfn:fn<=1000:=by have:=h.f.len;have:=hf.fn;simp only at*;omega
 have hsn:sn<=1000:=by have h1:=h.s.len;have h2:=congrArg List.length h.sl;have:=hf.sn;rw[List.length_map] at h2;simp only at*;omega
 have hpn:pn<=1000:=by have h1:=h.p.len;have h2:=congrArg List.length h.pl;have:=hf.pn;rw[List.length_map] at h2;simp only at*;omega
 have hlt:(bs++textL l).length<=10000000000000:=by rw[List.length_append];exact hlen
 obtain⟨tot,htot⟩:=zE (bs++textL l);rw[<-htot] at hlt⊢;have hX:TX b w0 w tot (l.facts.flatMap declL++(l.schs.flatMap schL++l.provs.flatMap pvL)) w:=⟨⟨bs,hS,by rw[htot];unfold textL;simp only[List.append_assoc]⟩,BF.refl _ _⟩
 clear htot hlen hS;unfold lawV;go_enter Tryz.func30,Tryz.ntmps30
 go_upto_region 1 with fail
 generalize hW:w.alloc _=W;obtain⟨hQ,hg⟩:=zA hW;have hne:w.heap.size≠b:=by have:=hX.lt;omega
 replace hX:=(hX.grow hg).here;have hc:=fun (X:World) (k:BF b W X)=>show X.cell? ⟨w.heap.size,0,none⟩=some (Value.slice fa fn fc)/\X.cell? ⟨w.heap.size,1,none⟩=some (Value.slice sa sn sc)/\X.cell? ⟨w.heap.size,2,none⟩=some (Value.slice pa pn pc) from⟨(k.blk hQ (by decide) hne).cells 0,(k.blk hQ (by decide) hne).cells 1,(k.blk hQ (by decide) hne).cells 2⟩
 clear hW hQ hg hne;generalize w.heap.size=Q at hc⊢;have hW:=BF.refl b W;go_wp2
 go_loopg [17] fn (fun g iv wr=>∃j:Nat,j+g=fn/\iv=.int .i64 j/\TX b w0 W tot ((l.facts.drop j).flatMap declL++(l.schs.flatMap schL++l.provs.flatMap pvL)) wr)
 case atStart=>exact⟨0,by omega,rfl,hX⟩
 case round=>
  clear hX hW;obtain⟨j,hj,rfl,hX⟩:=hrel;have hW:=hX.f;by_cases hlj:j<fn
  ·have hbl:=hX.bl;obtain⟨bb,off,nm,t,m,d,rfl,_,hx,hxe,hd⟩:=dc_at h.f hlj;have hty:=hT.f _ (List.getElem_mem hx);rw[hxe] at hty;replace hX:=hX.as (R':=bytesL [sFact,nm,sSp,tyText ⟨t,m,d⟩,sNl]++((l.facts.drop (j+1)).flatMap declL++(l.schs.flatMap schL++l.provs.flatMap pvL))) (by rw[fm_drop declL hx,hxe,List.append_assoc];rfl);clear hxe
   go_upto_region 4 with fail
   generalize hY:wr.alloc _=Y;obtain⟨hK,hg⟩:=zA hY;have hne:wr.heap.size≠b:=by have:=hX.lt;omega
   have hk:=fun (X:World) (k:BF b Y X)=>show X.cell? ⟨wr.heap.size,0,none⟩=some (.string nm)/\X.cell? ⟨wr.heap.size,1,none⟩=some (.bool t)/\X.cell? ⟨wr.heap.size,2,none⟩=some (.int .i64 m)/\X.cell? ⟨wr.heap.size,3,none⟩=some (.int .i64 d) from⟨(k.blk hK (by decide) hne).cells 0,(k.blk hK (by decide) hne).cells 1,(k.blk hK (by decide) hne).cells 2,(k.blk hK (by decide) hne).cells 3⟩
   replace hW:=hW.trans (BF.of_below hg);replace hX:=(hX.grow hg).here;clear hY hK hg hne hd hbl;generalize wr.heap.size=K at hk⊢;refine reS (BF b Y) 99 (BF.of_below (drewN_below _ _ 1)) (fun w1 h1 hS=>?_);replace hX:=hX.grow h1
   iterate 5 refine reA ?_
   refine reC 5 (uTypeText_any ⟨t,m,d⟩ w1 (hL.below hX.bl) hty.1 hty.2.1 hty.2.2.1 hty.2.2.2) ?_;rintro e w2 ⟨rfl,hb2⟩;replace hX:=hX.grow hb2;refine⟨_,rfl,hX.f,fun hS=>?_⟩;refine reV 6 (fun _=>hS.trans (BF.of_below (zB _ _))) (fun _=>?_);refine reC 7 (TX.words [sFact,nm,sSp,tyText ⟨t,m,d⟩,sNl] hX hlt) ?_;rintro e w3 ⟨rfl,hX,_⟩;refine⟨_,rfl,hX.f,fun hS=>?_⟩;refine reE ?_;go_wp2
   go_roundg (fn-(j+1))
   case measure=>omega
   case rel=>exact⟨j+1,by omega,by go_num,hX.back hW⟩
  ·replace hX:=hX.as (R':=l.schs.flatMap schL++l.provs.flatMap pvL) (by rw[List.drop_of_length_le (by have:=h.f.len;simp only at this;omega)];rfl);go_wp2
   go_loopg [33] sn (fun g iv wr=>∃j:Nat,j+g=sn/\iv=.int .i64 j/\TX b w0 W tot ((l.schs.drop j).flatMap schL++l.provs.flatMap pvL) wr)
   case atStart=>exact⟨0,by omega,rfl,hX⟩
   case round=>
    clear hX hW;obtain⟨j,hj,rfl,hX⟩:=hrel;have hW:=hX.f;by_cases hlj:j<sn
    ·have hbl:=hX.bl;obtain⟨bb,off,nm,m,d,brs,⟨ha,hn,hcc⟩,rfl,_,hx,hxe,hd⟩:=sc_at h.s hlj;have hxl:j<l.schs.length:=by rw[<-h.sl,List.length_map];exact hx
     have hle:l.schs[j]=⟨nm,m,d,brs⟩:=by have e:=h.sl;simp[<-e,hxe]
     have hmem:=List.getElem_mem hxl;rw[hle] at hmem;have hty:=hT.s _ hmem;have hbn:=hT.b _ hmem;have hbf:=hf.sb _ hmem;have hbr:RowAt w0 Bk.cells brs ⟨ha,hn,hcc⟩:=by have:=h.sb _ (List.getElem_mem hx);rw[hxe] at this;exact this
     have hhn:hn<=1000:=by have:=hbr.len;simp only at this hbn;omega
     simp only at hty hbn;obtain⟨R,hR⟩:=zE ((l.schs.drop (j+1)).flatMap schL++l.provs.flatMap pvL);replace hX:=hX.as (R':=bytesL [sSch,nm,sSp,tyText ⟨false,m,d⟩]++(bksL 0 (brs.drop 0)++(bytesL [sNl]++R))) (by rw[fm_drop schL hxl,hle,hR];unfold schL schW;simp only[List.append_assoc,List.drop_zero]);clear hxe hle hmem
     go_upto_region 9 with fail
     generalize hZ:wr.alloc _=Y;obtain⟨hK,hg⟩:=zA hZ;have hne:wr.heap.size≠b:=by have:=hX.lt;omega
     have hk:=fun (X:World) (k:BF b Y X)=>show X.cell? ⟨wr.heap.size,0,none⟩=some (.string nm)/\X.cell? ⟨wr.heap.size,1,none⟩=some (.int .i64 m)/\X.cell? ⟨wr.heap.size,2,none⟩=some (.int .i64 d)/\X.cell? ⟨wr.heap.size,3,none⟩=some (.slice ha hn hcc) from⟨(k.blk hK (by decide) hne).cells 0,(k.blk hK (by decide) hne).cells 1,(k.blk hK (by decide) hne).cells 2,(k.blk hK (by decide) hne).cells 3⟩
     replace hW:=hW.trans (BF.of_below hg);replace hX:=(hX.grow hg).here;clear hZ hK hg hne hd hbl;generalize wr.heap.size=K at hk⊢;refine reS (BF b Y) 99 (BF.of_below (drewN_below _ _ 1)) (fun w1 h1 hS=>?_);replace hX:=hX.grow h1
     iterate 6 refine reA ?_
     refine reC 6 (uTypeText_any ⟨false,m,d⟩ w1 (hL.below hX.bl) hty.1 hty.2.1 hty.2.2.1 hty.2.2.2) ?_;rintro e w2 ⟨rfl,hb2⟩;replace hX:=hX.grow hb2;refine⟨_,rfl,hX.f,fun hS=>?_⟩;refine reV 7 (fun _=>hS.trans (BF.of_below (zB _ _))) (fun _=>?_);refine reC 8 (TX.words [sSch,nm,sSp,tyText ⟨false,m,d⟩] hX hlt) ?_;rintro e w3 ⟨rfl,hX,_⟩;refine⟨_,rfl,hX.f,fun hS=>?_⟩;refine reE ?_;have hY:=hX.f;go_wp2
     go_loopg [49] hn (fun g iv wr=>∃q:Nat,q+g=hn/\iv=.int .i64 q/\TX b w0 Y tot (bksL q (brs.drop q)++(bytesL [sNl]++R)) wr)
     case atStart=>exact⟨0,by omega,rfl,hX⟩
     case round=>
      clear hX hY;obtain⟨q,hq,rfl,hX⟩:=hrel;have hY:=hX.f;by_cases hlq:q<hn
      ·have hbl:=hX.bl;obtain⟨b2,off2,rfl,_,hx2,hd0⟩:=hbr.at 6 (fun _=>rfl) (by omega) hlq;obtain⟨x,hx⟩:=zE brs[q]
       have hd:=fun (X:World) (k:Below w0.heap.size w0 X)=>show X.cell? ⟨b2,off2+q*6,none⟩=some (.bool x.fr.neg)/\X.cell? ⟨b2,off2+q*6+1,none⟩=some (.string x.fr.num)/\X.cell? ⟨b2,off2+q*6+2,none⟩=some (.string x.fr.den)/\X.cell? ⟨b2,off2+q*6+3,none⟩=some (.bool x.rt.neg)/\X.cell? ⟨b2,off2+q*6+4,none⟩=some (.string x.rt.num)/\X.cell? ⟨b2,off2+q*6+5,none⟩=some (.string x.rt.den) from by
        rw[hx];exact⟨hd0 X k 0 _ rfl,hd0 X k 1 _ rfl,hd0 X k 2 _ rfl,hd0 X k 3 _ rfl,hd0 X k 4 _ rfl,hd0 X k 5 _ rfl⟩
       have hfx:=hbf _ (List.getElem_mem hx2);rw[<-hx] at hfx;replace hX:=hX.as (R':=bytesL [sSep q,sSp,textR x.fr,sSp,textR x.rt]++(bksL (q+1) (brs.drop (q+1))++(bytesL [sNl]++R))) (by rw[bk_drop hx2,<-hx,List.append_assoc];rfl);clear hd0 hx
       go_upto_region 13 with fail
       generalize hZ:wr.alloc _=Y2;obtain⟨hK,hg⟩:=zA hZ;have hne:wr.heap.size≠b:=by have:=hX.lt;omega
       have hk2:=fun (X:World) (k:BF b Y2 X)=>show X.cell? ⟨wr.heap.size,0,none⟩=some (.bool x.fr.neg)/\X.cell? ⟨wr.heap.size,1,none⟩=some (.string x.fr.num)/\X.cell? ⟨wr.heap.size,2,none⟩=some (.string x.fr.den)/\X.cell? ⟨wr.heap.size,3,none⟩=some (.bool x.rt.neg)/\X.cell? ⟨wr.heap.size,4,none⟩=some (.string x.rt.num)/\X.cell? ⟨wr.heap.size,5,none⟩=some (.string x.rt.den) from⟨(k.blk hK (by decide) hne).cells 0,(k.blk hK (by decide) hne).cells 1,(k.blk hK (by decide) hne).cells 2,(k.blk hK (by decide) hne).cells 3,(k.blk hK (by decide) hne).cells 4,(k.blk hK (by decide) hne).cells 5⟩
       replace hY:=hY.trans (BF.of_below hg);replace hX:=(hX.grow hg).here;clear hZ hK hg hne hd hbl
       obtain⟨mm,hmn,hm2,hsp⟩:∃mm:Nat,min (q:Int) 1=(mm:Int)/\mm<2/\([.string ⟨#[58]⟩,.string ⟨#[44]⟩]:List Value)[mm]?=some (.string (sSep q)):=by
        by_cases h0:q=0
        ·subst h0;exact⟨0,rfl,by omega,rfl⟩
        ·exact⟨1,by omega,by omega,by unfold sSep;rw[if_neg h0];rfl⟩
       have mm0:(0:Int)<=(mm:Int):=by omega
       have mm1:(mm:Int)<2:=by omega
       generalize wr.heap.size=K at hk2⊢;refine reS (BF b Y2) 99 (BF.of_below (drewN_below _ _ 1)) (fun w1 h1 hS=>?_);replace hX:=hX.grow h1;clear h1;refine reZ 0 ?_;refine reZ 2 ?_;refine reZ 3 ?_;refine reZ 6 ?_;refine reZ 7 ?_;refine reZ 9 ?_;refine reZ 10 ?_;refine reTwo 1 8 (opV (fun _=>hS.trans (BF.of_below (zB _ _))) (fun hS=>?_)) (opC (qText_any x.fr _ (hL.below hX.bl).e.base hfx.1.1 hfx.1.2) ?_)
       ·have hzb:w1.heap.size≠b:=by have:=hX.lt;omega
        generalize hZ:w1.alloc _=w9 at hS⊢;obtain⟨hk9,hg9⟩:=zA hZ;replace hX:=hX.grow hg9;have hz9:=fun (X:World) (k:BF b Y2 X/\Blk X w1.heap.size 9 [.string ⟨#[58]⟩,.string ⟨#[44]⟩])=>show X.cell? ⟨w1.heap.size,mm,none⟩=some (.string (sSep q)) from by rw[k.2.cells mm];exact hsp
        refine reM (fun X=>BF b Y2 X/\Blk X w1.heap.size 9 [.string ⟨#[58]⟩,.string ⟨#[44]⟩]) ⟨hS,hk9⟩ (fun _ h=>h.1) (fun hS=>?_);clear hZ hk9 hg9;generalize w1.heap.size=Z at hz9 hS hzb⊢;refine reZ 4 ?_;refine reZ 5 ?_;refine reC 8 (qText_any x.fr _ (hL.below hX.bl).e.base hfx.1.1 hfx.1.2) ?_;rintro e w2 ⟨rfl,hb2⟩;replace hX:=hX.grow hb2;refine⟨_,rfl,⟨hS.1.trans (BF.of_below hb2),hS.2.below hb2 hS.2.lt⟩,fun hS=>?_⟩;clear hb2;refine reC 11 (qText_any x.rt _ (hL.below hX.bl).e.base hfx.2.1 hfx.2.2) ?_;rintro e w2 ⟨rfl,hb2⟩;replace hX:=hX.grow hb2;refine⟨_,rfl,⟨hS.1.trans (BF.of_below hb2),hS.2.below hb2 hS.2.lt⟩,fun hS=>?_⟩;clear hb2;refine reV 12 (fun _=>⟨hS.1.trans (BF.of_below (zB _ _)),hS.2.alloc _⟩) (fun _=>?_);refine reC 13 (TX.words [sSep q,sSp,textR x.fr,sSp,textR x.rt] hX hlt) ?_;rintro e w5 ⟨rfl,hX,hf5⟩;refine⟨_,rfl,⟨hX.f,(hf5.blk (hS.2) (by decide) hzb)⟩,fun hS=>?_⟩;refine reE ?_;go_wp2
        go_roundg (hn-(q+1))
        case measure=>omega
        case rel=>exact⟨q+1,by omega,by go_num,hX.back hY⟩
       ·rintro e w2 ⟨rfl,hb2⟩;replace hX:=hX.grow hb2;refine⟨_,rfl,hS.trans (BF.of_below hb2),fun hS=>?_⟩;clear hb2;refine reTwo 1 11 (opV (fun _=>hS.trans (BF.of_below (zB _ _))) (fun hS=>?_)) (opC (qText_any x.rt _ (hL.below hX.bl).e.base hfx.2.1 hfx.2.2) ?_)
        ·have hzb:w2.heap.size≠b:=by have:=hX.lt;omega
         generalize hZ:w2.alloc _=w9 at hS⊢;obtain⟨hk9,hg9⟩:=zA hZ;replace hX:=hX.grow hg9;have hz9:=fun (X:World) (k:BF b Y2 X/\Blk X w2.heap.size 9 [.string ⟨#[58]⟩,.string ⟨#[44]⟩])=>show X.cell? ⟨w2.heap.size,mm,none⟩=some (.string (sSep q)) from by rw[k.2.cells mm];exact hsp
         refine reM (fun X=>BF b Y2 X/\Blk X w2.heap.size 9 [.string ⟨#[58]⟩,.string ⟨#[44]⟩]) ⟨hS,hk9⟩ (fun _ h=>h.1) (fun hS=>?_);clear hZ hk9 hg9;generalize w2.heap.size=Z at hz9 hS hzb⊢;refine reZ 4 ?_;refine reZ 5 ?_;refine reC 11 (qText_any x.rt _ (hL.below hX.bl).e.base hfx.2.1 hfx.2.2) ?_;rintro e w2 ⟨rfl,hb2⟩;replace hX:=hX.grow hb2;refine⟨_,rfl,⟨hS.1.trans (BF.of_below hb2),hS.2.below hb2 hS.2.lt⟩,fun hS=>?_⟩;clear hb2;refine reV 12 (fun _=>⟨hS.1.trans (BF.of_below (zB _ _)),hS.2.alloc _⟩) (fun _=>?_);refine reC 13 (TX.words [sSep q,sSp,textR x.fr,sSp,textR x.rt] hX hlt) ?_;rintro e w5 ⟨rfl,hX,hf5⟩;refine⟨_,rfl,⟨hX.f,(hf5.blk (hS.2) (by decide) hzb)⟩,fun hS=>?_⟩;refine reE ?_;go_wp2
         go_roundg (hn-(q+1))
         case measure=>omega
         case rel=>exact⟨q+1,by omega,by go_num,hX.back hY⟩
        ·rintro e w2 ⟨rfl,hb2⟩;replace hX:=hX.grow hb2;refine⟨_,rfl,hS.trans (BF.of_below hb2),fun hS=>?_⟩;clear hb2;refine reV 1 (fun _=>hS.trans (BF.of_below (zB _ _))) (fun hS=>?_);have hzb:w2.heap.size≠b:=by have:=hX.lt;omega
         generalize hZ:w2.alloc _=w9 at hS⊢;obtain⟨hk9,hg9⟩:=zA hZ;replace hX:=hX.grow hg9;have hz9:=fun (X:World) (k:BF b Y2 X/\Blk X w2.heap.size 9 [.string ⟨#[58]⟩,.string ⟨#[44]⟩])=>show X.cell? ⟨w2.heap.size,mm,none⟩=some (.string (sSep q)) from by rw[k.2.cells mm];exact hsp
         refine reM (fun X=>BF b Y2 X/\Blk X w2.heap.size 9 [.string ⟨#[58]⟩,.string ⟨#[44]⟩]) ⟨hS,hk9⟩ (fun _ h=>h.1) (fun hS=>?_);clear hZ hk9 hg9;generalize w2.heap.size=Z at hz9 hS hzb⊢;refine reZ 4 ?_;refine reZ 5 ?_;refine reV 12 (fun _=>⟨hS.1.trans (BF.of_below (zB _ _)),hS.2.alloc _⟩) (fun _=>?_);refine reC 13 (TX.words [sSep q,sSp,textR x.fr,sSp,textR x.rt] hX hlt) ?_;rintro e w5 ⟨rfl,hX,hf5⟩;refine⟨_,rfl,⟨hX.f,(hf5.blk (hS.2) (by decide) hzb)⟩,fun hS=>?_⟩;refine reE ?_;go_wp2
         go_roundg (hn-(q+1))
         case measure=>omega
         case rel=>exact⟨q+1,by omega,by go_num,hX.back hY⟩
      ·replace hX:=hX.as (R':=bytesL [sNl]++R) (by rw[List.drop_of_length_le (by have:=hbr.len;simp only at this;omega)];rfl);go_wp2_with fail;refine (TX.words [sNl] hX hlt).mono ?_;rintro e w3 ⟨rfl,hX,_⟩;go_wp2
       go_roundg (sn-(j+1))
       case measure=>omega
       case rel=>exact⟨j+1,by omega,by go_num,(hX.as hR).back hW⟩
    ·replace hX:=hX.as (R':=l.provs.flatMap pvL) (by rw[List.drop_of_length_le (by have h1:=h.s.len;have h2:=congrArg List.length h.sl;rw[List.length_map] at h2;simp only at h1;omega)];rfl);go_wp2
     go_loopg [76] pn (fun g iv wr=>∃j:Nat,j+g=pn/\iv=.int .i64 j/\TX b w0 W tot ((l.provs.drop j).flatMap pvL) wr)
     case atStart=>exact⟨0,by omega,rfl,hX⟩
     case round=>
      clear hX hW;obtain⟨j,hj,rfl,hX⟩:=hrel;have hW:=hX.f;by_cases hlj:j<pn
      ·have hbl:=hX.bl;obtain⟨bb,off,x,rfl,_,hx,hxe,hd⟩:=pv_at h.p hlj;have hxl:j<l.provs.length:=by rw[<-h.pl,List.length_map];exact hx
       have hle:l.provs[j]=x.1:=by have e:=h.pl;simp[<-e,hxe]
       have hmem:=List.getElem_mem hxl;rw[hle] at hmem;have hty:=hT.p _ hmem;have hfp:=hf.pb _ hmem;have hbr:RowAt w0 Nd.cells x.1.body x.2:=by have:=h.pb _ (List.getElem_mem hx);rw[hxe] at this;exact this
       obtain⟨R,hR⟩:=zE ((l.provs.drop (j+1)).flatMap pvL);replace hX:=hX.as (R':=bytesL [sPrv,x.1.name,sSp,tyText x.1.ty]++((if x.1.charge then bytesL [sChg] else [])++((if plainP x.1 then [] else bytesL [sStp,textR x.1.step,sCap,textR x.1.cap])++(bytesL [sCs,bodyT x.1.body,sNl]++R)))) (by rw[fm_drop pvL hxl,hle,hR];unfold pvL pvW stW;simp only[List.append_assoc]);clear hxe hle hmem
       go_upto_region 20 with fail
       generalize hZ:wr.alloc _=Y;obtain⟨hK,hg⟩:=zA hZ;have hne:wr.heap.size≠b:=by have:=hX.lt;omega
       have hk:=fun (X:World) (k:BF b Y X)=>show X.cell? ⟨wr.heap.size,0,none⟩=some (.string x.1.name)/\X.cell? ⟨wr.heap.size,1,none⟩=some (.bool x.1.ty.truth)/\X.cell? ⟨wr.heap.size,2,none⟩=some (.int .i64 x.1.ty.money)/\X.cell? ⟨wr.heap.size,3,none⟩=some (.int .i64 x.1.ty.days)/\X.cell? ⟨wr.heap.size,4,none⟩=some (.slice x.2.a x.2.n x.2.c)/\X.cell? ⟨wr.heap.size,5,none⟩=some (.bool x.1.charge)/\X.cell? ⟨wr.heap.size,6,none⟩=some (.bool x.1.step.neg)/\X.cell? ⟨wr.heap.size,7,none⟩=some (.string x.1.step.num)/\X.cell? ⟨wr.heap.size,8,none⟩=some (.string x.1.step.den)/\X.cell? ⟨wr.heap.size,9,none⟩=some (.bool x.1.cap.neg)/\X.cell? ⟨wr.heap.size,10,none⟩=some (.string x.1.cap.num)/\X.cell? ⟨wr.heap.size,11,none⟩=some (.string x.1.cap.den) from⟨(k.blk hK (by decide) hne).cells 0,(k.blk hK (by decide) hne).cells 1,(k.blk hK (by decide) hne).cells 2,(k.blk hK (by decide) hne).cells 3,(k.blk hK (by decide) hne).cells 4,(k.blk hK (by decide) hne).cells 5,(k.blk hK (by decide) hne).cells 6,(k.blk hK (by decide) hne).cells 7,(k.blk hK (by decide) hne).cells 8,(k.blk hK (by decide) hne).cells 9,(k.blk hK (by decide) hne).cells 10,(k.blk hK (by decide) hne).cells 11⟩
       replace hW:=hW.trans (BF.of_below hg);replace hX:=(hX.grow hg).here;clear hZ hK hg hne hd hbl;generalize wr.heap.size=K at hk⊢;refine reS (BF b Y) 99 (BF.of_below (drewN_below _ _ 1)) (fun w1 h1 hS=>?_);replace hX:=hX.grow h1
       iterate 5 refine reA ?_
       refine reC 5 (uTypeText_any x.1.ty w1 (hL.below hX.bl) hty.1 hty.2.1 hty.2.2.1 hty.2.2.2) ?_;rintro e w2 ⟨rfl,hb2⟩;replace hX:=hX.grow hb2;refine⟨_,rfl,hX.f,fun hS=>?_⟩;refine reV 6 (fun _=>hS.trans (BF.of_below (zB _ _))) (fun _=>?_);refine reC 7 (TX.words [sPrv,x.1.name,sSp,tyText x.1.ty] hX hlt) ?_;rintro e w3 ⟨rfl,hX,_⟩;refine⟨_,rfl,hX.f,fun hS=>?_⟩;refine reE ?_;have hkw:=hk _ hX.f
       go_upto_if 89 with fail
       go_cut [] from 77 to 92 (fun X=>TX b w0 Y tot ((if plainP x.1 then [] else bytesL [sStp,textR x.1.step,sCap,textR x.1.cap])++(bytesL [sCs,bodyT x.1.body,sNl]++R)) X)
       case first=>
        cases hch:x.1.charge
        ·rw[hch] at hX;go_wp2
         go_meet
         case rel=>exact hX
        ·rw[hch] at hX;go_wp2_with fail;refine (TX.words [sChg] hX hlt).mono ?_;rintro e w4 ⟨rfl,hX,_⟩;go_wp2
         go_meet
         case rel=>exact hX
       case rest=>
        clear hX hkw;have hX:=hcut;clear hcut;have hkw:=hk _ hX.f;go_wp2_with fail;refine (uPlain_any x wc).mono ?_;rintro e w4 ⟨rfl,hb4⟩;replace hX:=hX.grow hb4;clear hkw hb4
        go_upto_if 95 with fail
        go_cut [] from 93 to 104 (fun X=>TX b w0 Y tot (bytesL [sCs,bodyT x.1.body,sNl]++R) X)
        case first=>
         cases hpl:plainP x.1
         ·rw[hpl] at hX;go_wp2;refine reS (BF b Y) 99 (hX.f.trans (BF.of_below (drewN_below _ _ 1))) (fun w1 h1 hS=>?_);replace hX:=hX.grow h1;refine reZ 0 ?_;refine reZ 1 ?_;refine reZ 2 ?_;refine reZ 4 ?_;refine reZ 5 ?_;refine reC 3 (qText_any x.1.step _ (hL.below hX.bl).e.base hfp.1.1 hfp.1.2) ?_;rintro e w5 ⟨rfl,hb5⟩;replace hX:=hX.grow hb5;refine⟨_,rfl,hX.f,fun hS=>?_⟩;refine reC 6 (qText_any x.1.cap _ (hL.below hX.bl).e.base hfp.2.1.1 hfp.2.1.2) ?_;rintro e w6 ⟨rfl,hb6⟩;replace hX:=hX.grow hb6;refine⟨_,rfl,hX.f,fun hS=>?_⟩;refine reV 7 (fun _=>hS.trans (BF.of_below (zB _ _))) (fun _=>?_);refine reC 8 (TX.words [sStp,textR x.1.step,sCap,textR x.1.cap] hX hlt) ?_;rintro e w7 ⟨rfl,hX,_⟩;refine⟨_,rfl,hX.f,fun hS=>?_⟩;refine reE ?_;go_wp2
          go_meet
          case rel=>exact hX
         ·rw[hpl] at hX;go_wp2
          go_meet
          case rel=>exact hX
        case rest=>
         clear hX;have hX:=hcut;clear hcut;have hkw:=hk _ hX.f;go_wp2_with fail;refine ((eText_any x.1.body x.2.a x.2.n x.2.c wc (hL.below hX.bl).e (let r:=hbr.below hX.bl;⟨r.len,r.cap,r.max,r.rd⟩) hfp.2.2).mono fun e w' h=>(⟨⟨_,h.1⟩,h.2⟩:(∃z,e=.returned (.tuple #[.string (bodyT x.1.body),.int .i64 z]))/\Below wc.heap.size wc w')).mono ?_;rintro e w5 ⟨⟨z,rfl⟩,hb5⟩;replace hX:=hX.grow hb5;go_wp2_with fail;refine (TX.words [sCs,bodyT x.1.body,sNl] hX hlt).mono ?_;rintro e w6 ⟨rfl,hX,_⟩;go_wp2
         go_roundg (pn-(j+1))
         case measure=>omega
         case rel=>exact⟨j+1,by omega,by go_num,(hX.as hR).back hW⟩
      ·replace hX:=hX.as (R':=[]) (by rw[List.drop_of_length_le (by have h1:=h.p.len;have h2:=congrArg List.length h.pl;rw[List.length_map] at h2;simp only at h1;omega)];rfl);obtain⟨t0,h1,h2⟩:=hX.t;rw[List.append_nil] at h2;subst h2;go_wp2;go_end0;exact⟨rfl,h1⟩
def textR0 (l:Lw):Value:=.tuple #[.string ⟨(if checkL l=0 then textL l else []).toArray⟩,.int .i64 (checkL l)]
theorem WS.str {B b:Nat} {w0 w:World} {bs:List UInt8} (h:WS B b w0 w bs) (h0:bs≠[]):Calls Tryz.prog 31 #[.pointer (some ⟨b,0,none⟩)] w fun e w'=>e=.returned (.string ⟨bs.toArray⟩)/\Below B w0 w':=by
 rcases h.ib with k|k<;>exact (strW_any B b _ bs w k h0).mono fun e w' r=>⟨r.1,h.bl.trans r.2⟩
theorem WS.fresh (w:World):WS w.heap.size w.heap.size w (w.alloc (.cells #[.pointer none,.slice none 0 0] 80)) []:=by
 refine⟨.inl ⟨Nat.le_refl _,.slice none 0 0,?_,World.ownsRow_nil _ _ _ _,fun e=>by cases e⟩,(Below.refl _ _).alloc (Nat.le_refl _) _,Nat.le_refl _⟩;exact Blk.new w _ _
theorem uText_any (l:Lw) (ss:List (Sc × Hd)) (ps:List (Pv × Hd)) (f s p:Hd) (w:World) (hL:LaidK w) (h:LawAt w l ss ps f s p) (hf:FineL l) (hT:checkL l=0->FineT l/\textL l≠[]/\(textL l).length<=1000000000000):
  Calls Tryz.prog 11 #[lawV f s p] w fun e w'=>e=.returned (textR0 l)/\Below w.heap.size w w':=by
 have HC:=zH (fun W hb=>uCheck_any l ss ps f s p W (hL.below hb) (h.below hb) hf)
 have HW:Hid (checkL l=0->∀W,Below w.heap.size w W->Calls Tryz.prog 30 #[.pointer (some ⟨W.heap.size,0,none⟩),lawV f s p] (W.alloc (.cells #[.pointer none,.slice none 0 0] 80)) fun e w'=>e=.returned (.tuple #[])/\WS W.heap.size W.heap.size W w' (textL l)):=fun hz W hb=>by
  have k:=uWLaw_any l ss ps f s p W.heap.size W.heap.size W _ [] (WS.fresh W) rfl (hL.below hb) (h.below hb) hf (hT hz).1 (by rw[List.length_nil];have:=(hT hz).2.2;omega);rw[List.nil_append] at k;exact k
 have HN:Hid (checkL l=0->textL l≠[]):=fun hz=>(hT hz).2.1
 unfold textR0;obtain⟨z,hz⟩:=zE (checkL l);rw[<-hz] at HC HW HN⊢;obtain⟨fa,fn,fc⟩:=f;obtain⟨sa,sn,sc⟩:=s;obtain⟨pa,pn,pc⟩:=p;unfold lawV at HC HW⊢;simp only at HC HW⊢;clear hL h hf hT hz;obtain⟨W,hW⟩:=zE (w.alloc (.cells #[.slice fa fn fc,.slice sa sn sc,.slice pa pn pc] 28));obtain⟨Q,hQ⟩:=zE w.heap.size;have HKL:Hid (Blk W Q 28 [.slice fa fn fc,.slice sa sn sc,.slice pa pn pc]):=by show Blk _ _ _ _;rw[hW,hQ];exact Blk.new w _ _
 have HBA:Hid (Below w.heap.size w W):=by show Below _ _ _;rw[hW];exact zB _ _
 have hkc:=HKL.out.cells;by_cases hz0:z=0
 ·subst hz0;rw[if_pos rfl];have HWW:=zH (HW.out rfl);have HNN:=zH (HN.out rfl);clear HW HN;generalize textL l=tl at*;go_enter Tryz.func11,Tryz.ntmps11
  go_upto_region 1 with fail
  simp only[<-hW,<-hQ]
  clear hW hQ;go_wp2_with fail;refine (HC.out _ HBA.out).mono ?_;rintro e w1 ⟨rfl,hb1⟩;have HB1:=zH (bstep HBA.out hb1);have HK1:Hid (Blk w1 Q 28 [.slice fa fn fc,.slice sa sn sc,.slice pa pn pc]):=HKL.out.below hb1 HKL.out.lt;have HA1:Hid (Below w1.heap.size w1 (w1.alloc (.cells #[.pointer none,.slice none 0 0] 80))):=(Below.refl _ _).alloc (Nat.le_refl _) _;have hkd:=(HK1.out.below HA1.out HK1.out.lt).cells;clear hb1 hkc;go_wp2_with fail;refine (HWW.out _ HB1.out).mono ?_;rintro e w2 ⟨rfl,hws⟩;have HST:=zH (hws.str HNN.out);clear hws hkd;go_wp2_with fail;refine HST.out.mono ?_;rintro e w3 ⟨rfl,hb3⟩;have HB3:=zH (bstep HB1.out hb3);clear hb3;go_wp2;go_ret2;exact⟨rfl,HB3.out⟩
 ·rw[if_neg hz0];have e1:(z !=0)=true:=by simp[hz0]
  clear HW HN hz0;go_enter Tryz.func11,Tryz.ntmps11
  go_upto_region 1 with fail
  simp only[<-hW,<-hQ]
  clear hW hQ;go_wp2_with fail;refine (HC.out _ HBA.out).mono ?_;rintro e w1 ⟨rfl,hb1⟩;have HB1:=zH (bstep HBA.out hb1);clear hb1 hkc;go_wp2;go_ret2;exact⟨rfl,HB1.out⟩
end Go.Proofs.YtimokmplkpbmdaaGreatDoor
