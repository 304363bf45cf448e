/- A part of the proof: Em Eo Tg Ep Eq Eu Ti. -/
import Derived.Test.YtimokmplkpbmdaaGreatDoorQ26
set_option linter.all false
set_option maxRecDepth 100000
set_option maxHeartbeats 0
namespace Go.Proofs.YtimokmplkpbmdaaGreatDoor
open Go.RowKit
theorem Fq (cs s:List UInt8):(⟨s.toArray⟩:ByteArray).extract 0 ((⟨s.toArray⟩:ByteArray).size-(qc ⟨s.toArray⟩ ⟨cs.toArray⟩).size)=⟨(dX cs s).toArray⟩:=by
 have h:qc ⟨s.toArray⟩ ⟨cs.toArray⟩=⟨(gB cs s).toArray⟩:=rfl;rw[h,Lib.extract_eq];congr 2;show (s.drop 0).take (s.toArray.size-(gB cs s).toArray.size-0)=dX cs s;rw[List.drop_zero,Nat.sub_zero,List.size_toArray,List.size_toArray];have h2:=acQ cs s;have h3:=congrArg List.length h2;rw[List.length_append] at h3;rw[show s.length-(gB cs s).length=(dX cs s).length from by omega]
 conv=>lhs;arg 2;rw[<-h2]
 rw[List.take_left]
theorem ZT (s cs:List UInt8) (R:Nat) (t:TypeId) (l:List Value) (w:World) (hR:aj w R t (.string ⟨s.toArray⟩::l)) (h63:s.length<=1048576)
  (hcs:cs.length<4294967281) (ha:cs.all (fun b=>decide (b.toNat<128))=true):
  Calls Tryz.prog 215 #[.pointer (some ⟨R,0,none⟩),.string ⟨cs.toArray⟩] w fun e w'=>e=.returned (.string ⟨(dX cs s).toArray⟩)/\aj w' R t (.string ⟨(gB cs s).toArray⟩::l)/\aF R w w':=by
 have h:=QG ⟨s.toArray⟩ ⟨cs.toArray⟩ R t l w hR (by show s.length<=_;omega) hcs (ascii_of_all ha);rw[Fq] at h;exact h
theorem IZ (s:List UInt8) (R:Nat) (t:TypeId) (l:List Value) (w:World) (hR:aj w R t (.string ⟨s.toArray⟩::l)) (hU:Under R w) (hs:s.length<=1048576) (a:Ra) (r:List UInt8) (h:iT s=some (a,r)):
  Calls Tryz.prog 219 #[.pointer (some ⟨R,0,none⟩)] w fun e w'=>e=.returned a.v/\aj w' R t (.string ⟨r.toArray⟩::l)/\aF R w w':=by
 unfold iT at h;split at h
 ·next hp=>
  have h1:=JL ⟨s.toArray⟩ R t l w hR hU hs ⟨(dX oG s).toArray⟩ (Fq oG s);injection h with h;injection h with h2 h3;subst h3;refine h1.mono (fun e w' h=>?_);rw[if_pos hp,h2] at h;exact h
 ·cases h
theorem Nz (s:List UInt8) (R:Nat) (t:TypeId) (l:List Value) (w:World) (hR:aj w R t (.string ⟨s.toArray⟩::l)) (hU:Under R w) (hs:s.length<=1048576) (h:iT s=none):
  Calls Tryz.prog 219 #[.pointer (some ⟨R,0,none⟩)] w fun e w'=>e=.panicked uK/\aF R w w':=by
 unfold iT at h;split at h
 ·cases h
 ·next hp=>
  have h1:=JL ⟨s.toArray⟩ R t l w hR hU hs ⟨(dX oG s).toArray⟩ (Fq oG s);refine h1.mono (fun e w' h=>?_);rw[if_neg hp] at h;exact⟨h.1,h.2.2⟩
theorem Xi (s p:List UInt8) (R:Nat) (t:TypeId) (l:List Value) (w:World) (hR:aj w R t (.string ⟨s.toArray⟩::l)) (h:Lib.hasPrefix s p=true):
  Calls Tryz.prog 216 #[.pointer (some ⟨R,0,none⟩),.string ⟨p.toArray⟩] w fun e w'=>e=.returned (.tuple #[])/\aj w' R t (.string ⟨(s.drop p.length).toArray⟩::l)/\aF R w w':=by
 have h1:=Zu ⟨s.toArray⟩ ⟨p.toArray⟩ R t l w hR h;have h2:Lib.trimPrefix s p=s.drop p.length:=by unfold Lib.trimPrefix;rw[if_pos h]
 refine h1.mono ?_;rintro e w' ⟨rfl,rfl⟩;refine⟨rfl,?_,(aF.refl R w).set 0 _⟩;have h3:=hR.set 0 (.string ⟨(Lib.trimPrefix s p).toArray⟩);rw[h2] at h3;show aj (w.setCell _ (.string ⟨(Lib.trimPrefix s p).toArray⟩)) _ _ _;rw[h2];exact h3
theorem Ai {s:List UInt8} {a:Ra} {r:List UInt8} (h:iT s=some (a,r)):r.length<=s.length:=by
 unfold iT at h;split at h
 ·injection h with h;injection h with h1 h2;subst h2;exact (List.dropWhile_sublist _).length_le
 ·cases h
theorem ZU (c:UInt8) (cs:List UInt8):Lib.trimS [c] cs=if cs.contains c then [] else [c]:=by
 unfold Lib.trimS Lib.trimLeftS Lib.trimRightS;cases h:cs.contains c
 ·simp at h;simp[h]
 ·simp at h;simp[h]
def acT (r:Option (Option (Nd × List UInt8))) (s:List UInt8) (R:Nat) (t:TypeId) (l:List Value) (w:World) (e:Ending) (w':World):Prop:=
 (match r with
 |none=>e=.panicked uK
 |some none=>e=.returned (.tuple #[(nd 0 zR []).v,.bool false])/\aj w' R t (.string ⟨s.toArray⟩::l)
 |some (some q)=>e=.returned (.tuple #[q.1.v,.bool true])/\aj w' R t (.string ⟨q.2.toArray⟩::l))/\aF R w w'
theorem QK (s p:List UInt8) (w:World):Calls Tryz.prog 211 #[.string ⟨s.toArray⟩,.string ⟨p.toArray⟩] w fun e w'=>e=.returned (.tuple #[.string ⟨(Lib.trimPrefix s p).toArray⟩,.bool (Lib.hasPrefix s p)])/\w'=w:=Tryz.strings_CutPrefix ⟨s.toArray⟩ ⟨p.toArray⟩ w
theorem acU (s cs:List UInt8) (w:World) (hs:s.length<=1048576) (hcs:cs.length<4294967281) (ha:cs.all (fun b=>decide (b.toNat<128))=true):
  Calls Tryz.prog 179 #[.string ⟨s.toArray⟩,.string ⟨cs.toArray⟩] w fun e w'=>e=.returned (.string ⟨(Lib.trimS s cs).toArray⟩)/\Below w.heap.size w w':=
 Any.strings_Trim_laid Tryz.lays160 (by kernel_rfl) ⟨s.toArray⟩ ⟨cs.toArray⟩ w (by show s.length<=_;omega) hcs (ascii_of_all ha)
structure LS (w:World) (R:Nat) (t:TypeId) (l:List Value) (S:ByteArray) (X:World):Prop where
 p:aj X R t (.string S::l)
 b:aj X w.heap.size 49 [.int .i64 0,.bool false,.string ⟨#[]⟩,.string ⟨#[]⟩,.string ⟨#[]⟩]
 o:aF R w X
 u:Under R X
 r:R<w.heap.size
section
variable {w X Y:World} {R:Nat} {t:TypeId} {l:List Value} {S S':ByteArray}
theorem LS.new (hR:aj w R t (.string S::l)) (hU:Under R w) (h:w.alloc (.cells #[.int .i64 0,.bool false,.string ⟨#[]⟩,.string ⟨#[]⟩,.string ⟨#[]⟩] 49)=X):LS w R t l S X:=by
 obtain⟨h1,h2⟩:=zA h;exact⟨hR.below h2 hR.lt,h1,aF.of_below h2,hU.dG (aF.of_below h2),hR.lt⟩
theorem LS.step (h:LS w R t l S X) (ho:aF R X Y) (hk:aj Y R t (.string S'::l)):LS w R t l S' Y:=⟨hk,ho.blk h.b (by have:=h.r;omega),h.o.trans ho,h.u.dG ho,h.r⟩
theorem LS.put (h:LS w R t l S X) (S':ByteArray):LS w R t l S' (X.setCell ⟨R,0,none⟩ (.string S')):=h.step ((aF.refl R X).set 0 _) (h.p.set 0 _)
theorem LS.below (h:LS w R t l S X) (hb:Below X.heap.size X Y):LS w R t l S Y:=h.step (aF.of_below hb) (h.p.below hb h.p.lt)
theorem LS.upd (h:LS w R t l S X) {N:Nat} (hN:w.heap.size<N) (i:Nat) (v:Value):LS w R t l S (X.setCell ⟨N,i,none⟩ v):=by
 obtain⟨h1,h2,h3,⟨w0,h4,h5,h6⟩,h7⟩:=h;exact⟨h1.other (p:=⟨N,i,none⟩) (by show R≠N;omega) v,h2.other (p:=⟨N,i,none⟩) (by show w.heap.size≠N;omega) v,h3.fresh (Nat.le_of_lt hN) i v,⟨w0,h4,h5.setCell (p:=⟨N,i,none⟩) (by show w0.heap.size<=N;omega) v,h6⟩,h7⟩
theorem LS.fin (h:LS w R t l S X) (v0 v1 v2 v3 v4:Value):aj (((((X.setCell ⟨w.heap.size,0,none⟩ v0).setCell ⟨w.heap.size,1,none⟩ v1).setCell ⟨w.heap.size,2,none⟩ v2).setCell ⟨w.heap.size,3,none⟩ v3).setCell ⟨w.heap.size,4,none⟩ v4) R t (.string S::l)/\aF R w (((((X.setCell ⟨w.heap.size,0,none⟩ v0).setCell ⟨w.heap.size,1,none⟩ v1).setCell ⟨w.heap.size,2,none⟩ v2).setCell ⟨w.heap.size,3,none⟩ v3).setCell ⟨w.heap.size,4,none⟩ v4):=
 ⟨(((((aF.refl w.heap.size X).set 0 v0).set 1 v1).set 2 v2).set 3 v3 |>.set 4 v4).blk h.p (Nat.ne_of_lt h.r),((((h.o.fresh (Nat.le_refl _) 0 _).fresh (Nat.le_refl _) 1 _).fresh (Nat.le_refl _) 2 _).fresh (Nat.le_refl _) 3 _).fresh (Nat.le_refl _) 4 _⟩
end
theorem acV (s:List UInt8) (R:Nat) (t:TypeId) (l:List Value) (w:World) (hR:aj w R t (.string ⟨s.toArray⟩::l)) (hU:Under R w) (hs:s.length<=1048576):
  Calls Tryz.prog 214 #[.pointer (some ⟨R,0,none⟩)] w (acT (qo s) s R t l w):=by
 obtain⟨z,hz⟩:=zE (qo s);rw[<-hz];unfold qo at hz;have HZ:=zH hz;clear hz;go_enter Tryz.func214,Tryz.ntmps214
 go_upto_region 1 with fail
 generalize hX:w.alloc _=W;have h:=LS.new hR hU hX;clear hX hR hU;have yS:=QK s [36] W;have hc:=h.p.cells;have hf:=h.p.aI;cases JZ:Lib.hasPrefix s [36]
 ·have htp:Lib.trimPrefix s [36]=s:=by unfold Lib.trimPrefix;rw[if_neg (by rw[JZ];simp)]
  rw[htp,JZ] at yS;rw[if_neg (by rw[JZ];simp)] at HZ;clear htp JZ;go_wp2_with fail;refine yS.mono ?_;rintro e w1 ⟨rfl,rfl⟩;have hc2:=h.b.cells;have hf2:=h.b.aI;cases s with
  |nil=>
   obtain rfl:z=some none:=HZ.out;go_wp2;refine bodyPost_ret (v:=.tuple #[(nd 0 zR []).v,.bool false]) (by simp[results,Tryz.results214,go_sem,hc2,nd,Nd.v,zR]) rfl (⟨⟨rfl,(h.fin _ _ _ _ _).1⟩,(h.fin _ _ _ _ _).2⟩)
  |cons c m=>
   have HT:=acU [c] wW w1 (by simp) (by decide) (by decide);have hx:(⟨(c::m).toArray⟩:ByteArray).extract 0 1=⟨[c].toArray⟩:=by rw[Lib.extract_eq];rfl
   have hs1:1<=(⟨(c::m).toArray⟩:ByteArray).size:=by show 1<=(c::m).length;simp
   have e0:((⟨(c::m).toArray⟩:ByteArray).toList==[])=false:=by rw[ByteArray.toList_eq];rfl
   have e1:(⟨(c::m).toArray⟩:ByteArray).toList.isEmpty=false:=by rw[ByteArray.toList_eq];rfl
   have e2:(((⟨(c::m).toArray⟩:ByteArray).extract 0 1).toList !=[])=true:=by rw[hx,ByteArray.toList_eq];rfl
   have e3:((⟨(c::m).toArray⟩:ByteArray).extract 0 1).toList.isEmpty=false:=by rw[hx,ByteArray.toList_eq];rfl
   rw[ZU,<-hx] at HT;have ED:=zH (fun X (h:LS w R t l ⟨(c::m).toArray⟩ X) hn=>Nz (c::m) R t l X h.p h.u hs hn);have BH:=zH (fun X (h:LS w R t l ⟨(c::m).toArray⟩ X) a r hn=>IZ (c::m) R t l X h.p h.u hs a r hn);obtain⟨S,hS⟩:=zE (⟨(c::m).toArray⟩:ByteArray);have HS:=zH hS;rw[<-hS] at hx hs1 e0 e1 e2 e3 HT ED BH h yS hc⊢;clear hS;have HLC:Hid (z=if !wW.contains c then some none else (iT (c::m)).map fun q=>if Lib.hasPrefix q.2 [100] then some (nd 2 q.1 [],q.2.drop 1) else some (nd 3 q.1 [],q.2)):=HZ.out;cases hlc:wW.contains c
   ·rw[hlc,if_neg (by simp),<-hx] at HT;unfold wW at HT;obtain rfl:z=some none:=by rw[HLC.out,hlc];rfl
    clear hx ED BH HZ hlc HLC;go_wp2_with fail;refine HT.mono ?_;rintro e w2 ⟨rfl,hb2⟩;have h2:=h.below hb2;have hc2:=h2.b.cells;have hf2:=h2.b.aI;clear hc hf;go_wp2;exact bodyPost_ret (v:=.tuple #[(nd 0 zR []).v,.bool false]) (by simp[results,Tryz.results214,go_sem,hc2,nd,Nd.v,zR]) rfl ⟨⟨rfl,HS.out ▸ (h2.fin _ _ _ _ _).1⟩,(h2.fin _ _ _ _ _).2⟩
   ·rw[hlc,if_pos rfl] at HT;unfold wW at HT;replace HZ:Hid (z=(iT (c::m)).map fun q=>if Lib.hasPrefix q.2 [100] then some (nd 2 q.1 [],q.2.drop 1) else some (nd 3 q.1 [],q.2)):=by show _=_;rw[HLC.out,hlc];rfl
    clear hx hlc hc2 hf2 HLC;go_wp2_with fail;refine HT.mono ?_;rintro e w2 ⟨rfl,hb2⟩;have h2:=h.below hb2;clear hc hf h;go_wp2_with fail;cases hn:iT (c::m) with
    |none=>
     obtain rfl:z=none:=by rw[HZ.out,hn];rfl
     refine (ED.out _ h2 hn).mono ?_;rintro e w3 ⟨rfl,ho⟩;have hend:=h2.o.trans ho;clear h2 ho;go_wp2;exact⟨rfl,rfl,hend⟩
    |some ar=>
     obtain⟨⟨neg,num,den⟩,r⟩:=ar;rw[hn] at HZ;refine (BH.out _ h2 ⟨neg,num,den⟩ r hn).mono ?_;rintro e w3 ⟨rfl,hk,ho⟩;have h3:=h2.step ho hk;unfold Ra.v;clear hn h2 hk ho ED BH
     go_upto_region 8 with fail
     generalize hX:w3.alloc _=X;obtain⟨hz,hbz⟩:=zA hX;have h4:=h3.below hbz;have HC2:=QK r [100] X;have hc:=h4.p.cells;have hf:=h4.p.aI;have hNl:=h3.b.lt;clear hX h3 hbz;cases hd:Lib.hasPrefix r [100]
     ·have htp:Lib.trimPrefix r [100]=r:=by unfold Lib.trimPrefix;rw[if_neg (by rw[hd];simp)]
      rw[htp,hd] at HC2;obtain rfl:z=some (some (nd 3 ⟨neg,num,den⟩ [],r)):=by rw[HZ.out];simp only[Option.map_some,hd,if_neg Bool.false_ne_true]
      go_wp2_with fail;refine HC2.mono ?_;rintro e w5 ⟨rfl,rfl⟩;have hzc:=hz.cells;have hc2:=h4.b.cells;have hf2:=h4.b.aI;clear hc hf HZ hd htp;go_wp2;exact bodyPost_ret (v:=.tuple #[(nd 3 ⟨neg,num,den⟩ []).v,.bool true]) (by simp[results,Tryz.results214,go_sem,hc2,nd,Nd.v]) rfl ⟨⟨rfl,(h4.fin _ _ _ _ _).1⟩,(h4.fin _ _ _ _ _).2⟩
     ·have htp:Lib.trimPrefix r [100]=r.drop 1:=by unfold Lib.trimPrefix;rw[if_pos hd];rfl
      rw[htp,hd] at HC2;obtain rfl:z=some (some (nd 2 ⟨neg,num,den⟩ [],r.drop 1)):=by rw[HZ.out];simp only[Option.map_some,hd,if_true]
      generalize r.drop 1=r1 at*;go_wp2_with fail;refine HC2.mono ?_;rintro e w5 ⟨rfl,rfl⟩;have hzf:=hz.aI;have hzc:=hz.cells;have hn1:¬(w3.heap.size=R):=by have:=h4.r;omega
      have hn2:¬(R=w3.heap.size):=by have:=h4.r;omega
      have hc2:=h4.b.cells;have hf2:=h4.b.aI
      go_upto_region 12 with fail
      have hz5:=(hz.other (p:=⟨R,0,none⟩) (by show _≠R;have:=h4.r;omega) (.string ⟨r1.toArray⟩)).set 0 (.int .i64 2);have h6:=(h4.put ⟨r1.toArray⟩).upd hNl 0 (.int .i64 2);simp only[List.set_cons_zero] at hz5;generalize World.setCell _ _ _=V at h6 hz5⊢;clear hc hf HZ hd htp h4 hz hzf hzc hc2 hf2;have hzc:=hz5.cells;have hc2:=h6.b.cells;have hf2:=h6.b.aI;go_wp2;exact bodyPost_ret (v:=.tuple #[(nd 2 ⟨neg,num,den⟩ []).v,.bool true]) (by simp[results,Tryz.results214,go_sem,hc2,nd,Nd.v]) rfl ⟨⟨rfl,(h6.fin _ _ _ _ _).1⟩,(h6.fin _ _ _ _ _).2⟩
 ·have htp:Lib.trimPrefix s [36]=s.drop 1:=by unfold Lib.trimPrefix;rw[if_pos JZ];rfl
  rw[htp,JZ] at yS;rw[if_pos JZ] at HZ;have aeD:(s.drop 1).length<=1048576:=by rw[List.length_drop];omega
  generalize s.drop 1=s1 at*;have h2:=h.put ⟨s1.toArray⟩;clear htp JZ;go_wp2_with fail;refine yS.mono ?_;rintro e w1 ⟨rfl,rfl⟩;go_wp2_with fail;cases hn:iT s1 with
  |none=>
   obtain rfl:z=none:=by rw[HZ.out,hn];rfl
   refine (Nz s1 R t l _ h2.p h2.u aeD hn).mono ?_;rintro e w2 ⟨rfl,ho⟩;have hend:=h2.o.trans ho;clear h2 ho hc hf;go_wp2;exact⟨rfl,rfl,hend⟩
  |some ar=>
   obtain⟨⟨neg,num,den⟩,r⟩:=ar;obtain rfl:z=some (some (nd 1 ⟨neg,num,den⟩ [],r)):=by rw[HZ.out,hn];rfl
   refine (IZ s1 R t l _ h2.p h2.u aeD ⟨neg,num,den⟩ r hn).mono ?_;rintro e w2 ⟨rfl,hk,ho⟩;have h3:=h2.step ho hk;have hc2:=h3.b.cells;have hf2:=h3.b.aI;unfold Ra.v;clear hc hf h2 hk ho;go_wp2;refine bodyPost_ret (v:=.tuple #[(nd 1 ⟨neg,num,den⟩ []).v,.bool true]) (by simp[results,Tryz.results214,go_sem,hc2,nd,Nd.v]) rfl (⟨⟨rfl,(h3.fin _ _ _ _ _).1⟩,(h3.fin _ _ _ _ _).2⟩)
theorem rE {P:Program} (W:World) (news:Array Value) {ops:Array Oper} {o:Oper} {a:Act} {K:Act->World->Prop} {Q:Exit->Act->World->Prop} {E:Prop} (hgd:o.guard=none) (s x:Operand) (t:TypeId)
  (ho:o.op=.call {callee:=.builtin .append,args:=#[s,x],argTypes:=#[t,t]})
  (base:Nat) (e:TypeId) (z:Value) (size bytes m:Nat) (ht:P.underlying t=some (.slice e)) (hinfo:(P.info? e).map (fun i=>(i.zero,i.size,i.bytes))=some (some z,size,bytes)) (hzs:z.cells.size=size) (hsz:0<size)
  (v:Value) (n:Nat) (xs:List Value) (hs:a.eval s=v) (hown:W.ownsRow base e size v n xs)
  (hx:a.eval x=.slice (some ⟨W.heap.size,0,none⟩) m m) (hl:news.size=m*size) (h1:∀u∈news.toList,u.oneCell'=true)
  (h63:n+m<=maxLen) (hbytes:(n+m)*bytes<=140737488355328) (hbase:base<=W.heap.size)
  (h:∀v' w',w'.ownsRow base e size v' (n+m) (xs++news.toList)->W.grownBy w' v.ownBlock->(∀g,v'.ownBlock=some g->v.ownBlock=some g∨W.heap.size<=g)->K (a.put o.dst v') w'):
  if Region.wanted o (yielded ops a.tmps)=true then Oper.wp P o a (W.alloc (.cells news e)) K Q else E:=by
 have hw:Region.wanted o (yielded ops a.tmps)=true:=by simp[Region.wanted,hgd]
 rw[if_pos hw];obtain⟨i,hi,hzz⟩:=Option.map_eq_some_iff.1 hinfo;simp only[Prod.mk.injEq] at hzz;obtain⟨hz,hs1,hb⟩:=hzz
 have hnews:∀j u,news.toList[j]?=some u->(W.alloc (.cells news e)).cell? ((⟨W.heap.size,0,none⟩:Addr).add j)=some u:=by
  intro j u hj;have hb:=aj.new W e news;have hj':j<news.toList.length:=(List.getElem?_eq_some_iff.1 hj).1;have:=hb.cell hj';rw[show Addr.add ⟨W.heap.size,0,none⟩ j=⟨W.heap.size,j,none⟩ from by unfold Addr.add;split<;>simp_all,this,<-(List.getElem?_eq_some_iff.1 hj).2]
 obtain⟨v',w',hr,h2,h3,h4,h5⟩:=run_append_own_at (P:=P) (W.alloc (.cells news e)) base t o.type e i z size bytes ht hi hz hs1 hb hzs hsz v n xs (hown.alloc _) ⟨W.heap.size,0,none⟩ m m news.toList (by simpa using hl) hnews h1 h63 hbytes (by simp;omega);unfold Oper.wp execOp;simp only[ho,resolve,invoke,builtin,Sem.run_bind,Sem.run_pure,Result.andThen_ok,List.map_toArray,List.map_cons,List.map_nil,hs,hx,hr]
 refine h v' w' h2 ?_ ?_
 ·have ha:=World.grownBy_alloc W (.cells news e) v.ownBlock;exact⟨h3.os.trans ha.os,h3.tape.trans ha.tape,h3.output.trans ha.output,Nat.le_trans ha.size h3.size,fun k hk hne=>(h3.block k (Nat.lt_of_lt_of_le hk ha.size) hne).trans (ha.block k hk hne)⟩
 ·intro g hgv;rcases h5 with hv|hv
  ·exact .inl (by rw[<-hv];exact hgv)
  ·rw[hv] at hgv;injection hgv with hgv;subst hgv;exact .inr (by rw[World.size_alloc];omega)
structure PF (R:Nat) (w:World) (v:Value) (w':World) (v':Value):Prop where
 os:w'.os=w.os
 tape:w'.tape=w.tape
 output:w'.output=w.output
 size:w.heap.size<=w'.heap.size
 block:∀k,k<w.heap.size->k≠R->v.ownBlock≠some k->w'.heap[k]?=w.heap[k]?
 own:∀g,v'.ownBlock=some g->v.ownBlock=some g∨w.heap.size<=g
theorem PF.trans {R:Nat} {w w' w'':World} {v v' v'':Value} (h:PF R w v w' v') (k:PF R w' v' w'' v''):PF R w v w'' v'':=
 ⟨k.os.trans h.os,k.tape.trans h.tape,k.output.trans h.output,Nat.le_trans h.size k.size,
   fun i hi hR hv=>(k.block i (Nat.lt_of_lt_of_le hi h.size) hR (fun he=>by rcases h.own i he with h'|h';exact hv h';omega)).trans (h.block i hi hR hv),
   fun g hg=>by
    rcases k.own g hg with h'|h'
    ·exact h.own g h'
    ·exact .inr (Nat.le_trans h.size h')⟩
theorem PF.NC {R:Nat} {w w':World} {v:Value} (h:aF R w w'):PF R w v w' v:=
 ⟨h.os,h.tape,h.output,h.size,fun k hk hR _=>h.block k hk hR,fun g hg=>.inl hg⟩
theorem PF.of_below {R:Nat} {w w':World} {v:Value} (h:Below w.heap.size w w'):PF R w v w' v:=PF.NC (aF.of_below h)
theorem PF.blk {R b:Nat} {w w':World} {v v':Value} {t:TypeId} {cs:List Value} (h:PF R w v w' v') (hb:aj w b t cs) (hR:b≠R) (hv:v.ownBlock≠some b):aj w' b t cs:=hb.of_block (h.block b hb.lt hR hv)
theorem PF.below {R B n:Nat} {w w':World} {v v':Value} {xs:List Value} {e:TypeId} {sz:Nat} (h:PF R w v w' v') (hown:w.ownsRow (R+1) e sz v n xs) (hB:B<=R) (hw:B<=w.heap.size):Below B w w':=
 ⟨h.os,h.tape,h.output,h.size,fun k hk=>h.block k (by omega) (by omega) (fun he=>by have:=(hown.lt k he).1;omega)⟩
def ND (r:Option PS) (R:Nat) (v:Value) (w:World) (e:Ending) (w':World):Prop:=
 match r with
 |none=>e=.panicked uK/\Below R w w'
 |some q=>e=.returned (.tuple #[])/\∃v',aj w' R 240 [.string ⟨q.1.toArray⟩,v',.int .i64 (q.2.2:Int)]/\w'.ownsRow (R+1) 49 5 v' q.2.1.length (eP q.2.1)/\PF R w v w' v'
theorem kH (s:List UInt8) (n:Nat):(s.drop n).length<=s.length:=by rw[List.length_drop];omega
theorem uP (cs s:List UInt8):(gB cs s).length<=s.length:=(List.dropWhile_sublist _).length_le
theorem CG (cs s:List UInt8):(dX cs s).length<=s.length:=(List.takeWhile_sublist _).length_le
theorem NG {s:List UInt8} {q:Nd × List UInt8} (h:qo s=some (some q)):q.2.length<=s.length:=by
 unfold qo at h;split at h
 ·cases hn:iT (s.drop 1) with
  |none=>rw[hn] at h;cases h
  |some ar=>
   obtain⟨a,r⟩:=ar;rw[hn] at h;injection h with h;injection h with h;have:=Ai hn;have:=kH s 1;rw[<-h];show r.length<=_;omega
 ·split at h
  ·cases h
  ·cases hn:iT s with
   |none=>rw[hn] at h;cases h
   |some ar=>
    obtain⟨a,r⟩:=ar;rw[hn] at h;have h1:=Ai hn;have h2:=kH r 1;simp only[Option.map_some] at h;split at h
    ·injection h with h;injection h with h;rw[<-h];show (r.drop 1).length<=_;omega
    ·injection h with h;injection h with h;rw[<-h];exact h1
structure PB (s:List UInt8) (ns:List Nd) (b:Nat) (q:PS):Prop where
 rest:q.1.length<=s.length
 begun:b<=q.2.2
 most:q.2.2<=60
 nodes:ns.length+q.2.2≥q.2.1.length+b
theorem acW {p:List UInt8->List Nd->Nat->Option PS} (hp:∀s ns b q,p s ns b=some q->PB s ns b q) (m:Nat):∀k s ns b q,b<=60->o9 p m k s ns b=some q->PB s ns b q:=by
 induction m with
 |zero=>
  intro k s ns b q hb h;injection h with h;subst h;exact⟨Nat.le_refl _,Nat.le_refl _,hb,Nat.le_refl _⟩
 |succ m ih=>
  intro k s ns b q hb h;rw[o9] at h;split at h
  ·obtain⟨t,h1,h2⟩:=Option.bind_eq_some_iff.1 h;have p1:=hp _ _ _ _ h1;have p2:=ih _ _ _ _ _ p1.most h2;have:=kH s (kG k).length;exact⟨Nat.le_trans p2.rest (Nat.le_trans p1.rest this),Nat.le_trans p1.begun p2.begun,p2.most,by have:=p1.nodes;have:=p2.nodes;omega⟩
  ·cases h
theorem NH {y:Bool} {s:List UInt8} {q:Ra × List UInt8} (h:wX y s=some q):q.2.length<=s.length:=by
 unfold wX at h;split at h
 ·split at h
  ·obtain⟨t,h1,h2⟩:=Option.bind_eq_some_iff.1 h;split at h2
   ·injection h2 with h2;have a1:=Ai h1;have a2:=kH s 1;have a3:=kH t.2 1;rw[<-h2];show (t.2.drop 1).length<=_;obtain⟨t1,t2⟩:=t;simp only at*;omega
   ·cases h2
  ·cases h
 ·injection h with h;rw[<-h];exact Nat.le_refl _
theorem NI (s:List UInt8):(jM s).2.length<=s.length/\(jM s).1.length<=s.length+1:=by
 have h1:=uP bD s;have h2:=CG bD s;have h3:=kH (gB bD s) 1;unfold jM;split
 ·exact⟨by show (List.drop 1 _).length<=_;omega,by simp;omega⟩
 ·exact⟨h1,by show (dX bD s).length<=_;omega⟩
theorem QL (f:Nat):∀s ns b q,kX f s ns b=some q->PB s ns b q/\b<q.2.2:=by
 induction f with
 |zero=>intro s ns b q h;cases h
 |succ f ih=>
  intro s ns b q h;rw[kX] at h;split at h
  ·cases h
  ·next hb=>
   obtain⟨t,h1,h2⟩:=Option.bind_eq_some_iff.1 h;cases t with
   |some t=>
    injection h2 with h2;have:=NG h1;subst h2;exact⟨⟨this,Nat.le_succ _,by show b+1<=60;omega,by simp;omega⟩,Nat.lt_succ_self _⟩
   |none=>
    have hl:=uP bD s;simp only at h2;split at h2
    ·injection h2 with h2;subst h2;exact⟨⟨hl,Nat.le_succ _,by show b+1<=60;omega,by simp;omega⟩,Nat.lt_succ_self _⟩
    ·split at h2
     ·injection h2 with h2;subst h2;exact⟨⟨hl,Nat.le_succ _,by show b+1<=60;omega,by simp;omega⟩,Nat.lt_succ_self _⟩
     ·split at h2
      ·cases h2
      ·have hd:=(NI s).1;unfold tailA at h2;obtain⟨u,h3,h4⟩:=Option.bind_eq_some_iff.1 h2;obtain⟨x,h5,h6⟩:=Option.bind_eq_some_iff.1 h4;have a1:=NH h3
       have a2:(if (aB (placeOf ⟨(jM s).1.toArray⟩)).dF=true then gB fG (jM s).2 else (jM s).2).length<=(jM s).2.length:=by
        split
        ·exact uP _ _
        ·exact Nat.le_refl _
       have a3:=acW (fun s ns b q h=>(ih s ns b q h).1) _ _ _ _ _ _ (by omega) h5;have a4:=a3.rest;have a5:=a3.begun;have a6:=a3.most;have a7:=a3.nodes;split at h6
       ·split at h6
        ·injection h6 with h6;subst h6;have a8:=kH x.1 1;exact⟨⟨by show (x.1.drop 1).length<=_;omega,by show b<=x.2.2;omega,a6,by simp;omega⟩,by show b<x.2.2;omega⟩
        ·cases h6
       ·injection h6 with h6;subst h6;exact⟨⟨by show x.1.length<=_;omega,by show b<=x.2.2;omega,a6,by simp;omega⟩,by show b<x.2.2;omega⟩
theorem y9 {P:Program} {md:Region.Mode} {S:World->Prop} {x0 f:Nat} {l:Array Bool} (i:Nat) {W:World} {news:Array Value} {ops:Array Oper} {o:Oper} {a:Act} {Q:Exit->Act->World->Prop} {s x:Operand} {t e:TypeId} {z v:Value} {base size bytes n:Nat} {xs:List Value} {a':Value->Act}
  (hinfo:(P.info? e).map (fun i=>(i.zero,i.size,i.bytes))=some (some z,size,bytes)) (ht:P.underlying t=some (.slice e)) (hown:W.ownsRow base e size v n xs) (hn:n<=100000) (hbase:base<=W.heap.size)
  (h:∀v' w',w'.ownsRow base e size v' (n+1) (xs++news.toList)->W.grownBy w' v.ownBlock->(∀g,v'.ownBlock=some g->v.ownBlock=some g∨W.heap.size<=g)->Below base W w'->S w'/\(S w'->dw P md ops Q S x0 f (l.setIfInBounds i true) (a' v') w'))
  (hi:ops[i]?=some o:=by rfl) (hr:Region.ready md ops l=[i]:=by kernel_rfl)
  (hgd:o.guard=none:=by rfl) (ho:o.op=.call {callee:=.builtin .append,args:=#[s,x],argTypes:=#[t,t]}:=by rfl) (hs:a.eval s=v:=by rfl) (hx:a.eval x=.slice (some ⟨W.heap.size,0,none⟩) 1 1:=by rfl)
  (hl:news.size=1*size:=by rfl) (hzs:z.cells.size=size:=by rfl) (hsz:0<size:=by decide) (hby:bytes<=1000:=by decide) (h1:∀u∈news.toList,u.oneCell'=true:=by (simp<;>(repeat' constructor)))
  (ha:∀v,a.put o.dst v=a' v:=by (intro v;(try simp only[Act.put,tk1,tk2,tk3,tk4,gU,gV]);rfl)):dw P md ops Q S x0 (f+1) l a (W.alloc (.cells news e)):=by
 refine reR i (fun K hK=>?_) hi hr;refine rE W news hgd s x t ho base e z size bytes 1 ht hinfo hzs hsz v n xs hs hown hx hl h1 (by unfold maxLen;omega) (Nat.le_trans (Nat.mul_le_mul (show n+1<=100001 by omega) hby) (by decide)) hbase (fun v' w' h2 h3 h4=>?_);have hb:Below base W w':=(Below.refl _ _).grown h3 hbase (fun k hk=>(hown.lt k hk).1);obtain⟨h5,h6⟩:=h v' w' h2 h3 h4 hb;exact hK.out _ _ (fun _=>h5) (fun s=>by rw[ha];exact h6 h5)
theorem ZV {w0 w:World} (hL:dK w0) {R:Nat} (hR0:w0.heap.size<=R) (h:Below w0.heap.size w0 w):Under R w:=⟨w0,hL.base,h,hR0⟩
theorem PF.push {R:Nat} {W w5:World} {v v5:Value} (hg:W.grownBy w5 v.ownBlock) (hv:∀g,v5.ownBlock=some g->v.ownBlock=some g∨W.heap.size<=g) (i:Nat) (u:Value):PF R W v (w5.setCell ⟨R,i,none⟩ u) v5:=
 ⟨hg.os,hg.tape,hg.output,by simpa [World.setCell] using hg.size,fun k hk hR hne=>(Below.heap_setCell w5 _ u k (by show k≠R;exact hR)).trans (hg.block k hk (fun h=>hne h.symm)),hv⟩
theorem eX {w:World} {R:Nat} {e:TypeId} {sz:Nat} {v:Value} {n:Nat} {xs:List Value} (h:w.ownsRow (R+1) e sz v n xs) (i:Nat) (u:Value):(w.setCell ⟨R,i,none⟩ u).ownsRow (R+1) e sz v n xs:=
 h.kept (oC w R i u) (by
  cases hv:v.ownBlock with
  |none=>exact .inl rfl
  |some g=>exact .inr (by intro h';injection h' with h';have:=(h.lt g hv).1;omega))
theorem ZW (ns:List Nd) (n:Nd):eP (ns++[n])=eP ns++n.cells:=by rw[mQ];simp[eP]
theorem acX {R:Nat} {w w':World} {e:TypeId} {sz:Nat} {v:Value} {n:Nat} {xs:List Value} (h:w.ownsRow (R+1) e sz v n xs) (ho:aF R w w'):w'.ownsRow (R+1) e sz v n xs:=
 h.kept (row:=some R) ⟨ho.os,ho.tape,ho.output,ho.size,fun k hk hne=>ho.block k hk (fun h=>hne (by rw[h]))⟩ (by
  cases hv:v.ownBlock with
  |none=>exact .inl rfl
  |some g=>exact .inr (by intro h';injection h' with h';have:=(h.lt g hv).1;omega))
theorem PF.drew {R:Nat} {w w':World} {v v':Value} (h:PF R w v w' v'):PF R w v w'.drew v':=⟨h.os,h.tape,h.output,h.size,h.block,h.own⟩
theorem PF.alloc {R:Nat} {w w':World} {v v':Value} (h:PF R w v w' v') (o:Obj):PF R w v (w'.alloc o) v':=h.trans (PF.of_below (zB _ _))
def SP (R N:Nat) (cs ds:List Value) (X:World):Prop:=aj X R 240 cs/\aj X N 49 ds
theorem SP.all {R N:Nat} {a b c d0 d1 d2 d3 d4:Value} {X:World} (_:SP R N [a,b,c] [d0,d1,d2,d3,d4] X):∀Y,SP R N [a,b,c] [d0,d1,d2,d3,d4] Y->Y.cell? ⟨R,1,none⟩=some b/\Y.cell? ⟨N,0,none⟩=some d0/\Y.cell? ⟨N,1,none⟩=some d1/\Y.cell? ⟨N,2,none⟩=some d2/\Y.cell? ⟨N,3,none⟩=some d3/\Y.cell? ⟨N,4,none⟩=some d4/\Y.frozen? ⟨R,1,none⟩=false:=
 fun _ k=>⟨k.1.cells 1,k.2.cells 0,k.2.cells 1,k.2.cells 2,k.2.cells 3,k.2.cells 4,k.1.aI 1⟩
theorem SP.alloc {R N:Nat} {cs ds:List Value} {X:World} (h:SP R N cs ds X) (o:Obj):SP R N cs ds (X.alloc o):=⟨h.1.alloc o,h.2.alloc o⟩
structure XA (w:World) (R:Nat) (v:Value) (L:List (Nat × TypeId × List Value)) (s:List UInt8) (ns:List Nd) (b:Nat) (u:Value) (X:World):Prop where
 k:aj X R 240 [.string ⟨s.toArray⟩,u,.int .i64 (b:Int)]
 o:X.ownsRow (R+1) 49 5 u ns.length (eP ns)
 p:PF R w v X u
 e:Below R w X
 l:∀q∈L,aj X q.1 q.2.1 q.2.2/\R<q.1/\w.heap.size<=q.1/\u.ownBlock≠some q.1
 s:s.length<=1048576
 n:ns.length<=b
section
variable {w X X':World} {R:Nat} {v u u':Value} {L:List (Nat × TypeId × List Value)} {s s':List UInt8} {ns ns':List Nd} {b b':Nat}
theorem XA.to (h:XA w R v L s ns b u X) (p:PF R X u X' u') (k:aj X' R 240 [.string ⟨s'.toArray⟩,u',.int .i64 (b':Int)]) (o:X'.ownsRow (R+1) 49 5 u' ns'.length (eP ns')) (hs:s'.length<=s.length) (hn:ns'.length<=b'):XA w R v L s' ns' b' u' X':=
 ⟨k,o,h.p.trans p,h.e.trans (p.below h.o (Nat.le_refl _) (Nat.le_of_lt h.k.lt)),fun q hq=>
   let ⟨h1,h2,h3,h4⟩:=h.l q hq
   ⟨p.blk h1 (Nat.ne_of_gt h2) h4,h2,h3,fun h5=>by rcases p.own _ h5 with h6|h6;exact h4 h6;have:=h1.lt;omega⟩,Nat.le_trans hs h.s,hn⟩
theorem XA.dG (h:XA w R v L s ns b u X) (k:aj X' R 240 [.string ⟨s'.toArray⟩,u,.int .i64 (b:Int)]) (o:aF R X X') (hs:s'.length<=s.length):XA w R v L s' ns b u X':=h.to (PF.NC o) k (acX h.o o) hs h.n
theorem XA.grow (h:XA w R v L s ns b u X) (o:Below X.heap.size X X'):XA w R v L s ns b u X':=h.dG (h.k.below o h.k.lt) (aF.of_below o) (Nat.le_refl _)
theorem XA.new {t:TypeId} {cs:Array Value} (h:XA w R v L s ns b u X) (e:X.alloc (.cells cs t)=X'):XA w R v ((X.heap.size,t,cs.toList)::L) s ns b u X':=
 let h2:=h.grow (zA e).2
 ⟨h2.k,h2.o,h2.p,h2.e,fun q hq=>by
   rcases List.mem_cons.1 hq with rfl|hq
   ·exact⟨(zA e).1,h.k.lt,h.e.size,fun h5=>by have:=(h.o.lt _ h5).2;omega⟩
   ·exact h2.l q hq,h2.s,h2.n⟩
theorem XA.set {N:Nat} {t:TypeId} {cs:List Value} (h:XA w R v ((N,t,cs)::L) s ns b u X) (i:Nat) (x:Value) (hN:∀q∈L,q.1≠N):XA w R v ((N,t,cs.set i x)::L) s ns b u (X.setCell ⟨N,i,none⟩ x):=by
 obtain⟨h1,h2,h3,h4⟩:=h.l _ (List.mem_cons_self ..)
 refine⟨h.k.other (p:=⟨N,i,none⟩) (Nat.ne_of_lt h2) _,h.o.kept (oC X N i x) (by cases hu:u.ownBlock with|none=>exact .inl rfl|some g=>exact .inr (fun h'=>h4 (hu.trans h'))),
  ⟨h.p.os,h.p.tape,h.p.output,by simpa [World.setCell] using h.p.size,fun k hk hR hne=>(Below.heap_setCell X _ x k (by show k≠N;omega)).trans (h.p.block k hk hR hne),h.p.own⟩,
  h.e.setCell (p:=⟨N,i,none⟩) (Nat.le_of_lt h2) _,fun q hq=>?_,h.s,h.n⟩
 rcases List.mem_cons.1 hq with rfl|hq
 ·exact⟨h1.set i x,h2,h3,h4⟩
 ·obtain⟨g1,g2⟩:=h.l q (List.mem_cons_of_mem _ hq);exact⟨g1.other (p:=⟨N,i,none⟩) (hN q hq) _,g2⟩
theorem XA.b0 {q:Nat × TypeId × List Value} (h:XA w R v (q::L) s ns b u X):aj X q.1 q.2.1 q.2.2:=(h.l _ (List.mem_cons_self ..)).1
theorem XA.sp {N:Nat} {ds:List Value} (h:XA w R v ((N,49,ds)::L) s ns b u X):SP R N [.string ⟨s.toArray⟩,u,.int .i64 (b:Int)] ds X:=⟨h.k,h.b0⟩
theorem XA.grown {N:Nat} {ds:List Value} (h:XA w R v ((N,49,ds)::L) s ns b u X) (hg:X.grownBy X' u.ownBlock):SP R N [.string ⟨s.toArray⟩,u,.int .i64 (b:Int)] ds X':=
 ⟨h.k.of_block (hg.block R h.k.lt (fun e=>by have:=(h.o.lt R e.symm).1;omega)),h.b0.of_block (hg.block N h.b0.lt (fun e=>(h.l _ (List.mem_cons_self ..)).2.2.2 e.symm))⟩
theorem XA.tl {q:Nat × TypeId × List Value} (h:XA w R v (q::L) s ns b u X):XA w R v L s ns b u X:={h with l:=fun p hp=>h.l p (List.mem_cons_of_mem _ hp)}
theorem XA.sw {q r:Nat × TypeId × List Value} (h:XA w R v (q::r::L) s ns b u X):XA w R v (r::q::L) s ns b u X:={h with l:=fun p hp=>h.l p (by simp only[List.mem_cons] at hp⊢;rcases hp with h|h|h<;>simp[h])}
theorem XA.two {t1 t2:TypeId} {c1 c2:Array Value} {l1 l2:List Value} (h:XA w R v L s ns b u X) (e1:c1.toList=l1:=by rfl) (e2:c2.toList=l2:=by rfl):XA w R v ((X.heap.size+1,t2,l2)::(X.heap.size,t1,l1)::L) s ns b u ((X.alloc (.cells c1 t1)).alloc (.cells c2 t2)).drew:=by
 subst e1 e2;have h:=(h.new (cs:=c1) (t:=t1) rfl).new (cs:=c2) (t:=t2) rfl;rw[World.size_alloc] at h;exact h.grow (ak _ _ 1)
theorem XA.span (cs:List UInt8) (h:XA w R v L s ns b u X) (h1:cs.length<4294967281:=by decide) (h2:cs.all (fun b=>decide (b.toNat<128))=true:=by decide):
  Calls Tryz.prog 215 #[.pointer (some ⟨R,0,none⟩),.string ⟨cs.toArray⟩] X fun e X'=>e=.returned (.string ⟨(dX cs s).toArray⟩)/\XA w R v L (gB cs s) ns b u X':=
 (ZT s cs R _ _ X h.k h.s h1 h2).mono (by rintro e X' ⟨rfl,hk,ho⟩;exact⟨rfl,h.dG hk ho (uP _ _)⟩)
theorem XA.want (p:List UInt8) (h:XA w R v L s ns b u X):
  Calls Tryz.prog 216 #[.pointer (some ⟨R,0,none⟩),.string ⟨p.toArray⟩] X fun e X'=>(Lib.hasPrefix s p=true/\e=.returned (.tuple #[])/\XA w R v L (s.drop p.length) ns b u X')∨(Lib.hasPrefix s p=false/\e=.panicked uK/\Below R w X'):=by
 cases hp:Lib.hasPrefix s p
 ·refine (acM ⟨s.toArray⟩ ⟨p.toArray⟩ R _ _ X h.k hp).mono ?_;rintro e X' ⟨rfl,rfl⟩;exact .inr ⟨rfl,rfl,h.e⟩
 ·refine (Xi s p R _ _ X h.k hp).mono ?_;rintro e X' ⟨rfl,hk,ho⟩;exact .inl ⟨rfl,rfl,h.dG hk ho (kH _ _)⟩
theorem XA.num (h:XA w R v L s ns b u X) (hU:Under R X):
  Calls Tryz.prog 219 #[.pointer (some ⟨R,0,none⟩)] X fun e X'=>(∃a r,iT s=some (a,r)/\e=.returned a.v/\XA w R v L r ns b u X')∨(iT s=none/\e=.panicked uK/\Below R w X'):=by
 cases hn:iT s with
 |none=>
  refine (Nz s R _ _ X h.k hU h.s hn).mono ?_;rintro e X' ⟨rfl,ho⟩;exact .inr ⟨rfl,rfl,h.e.trans (ho.below (Nat.le_refl _) (Nat.le_of_lt h.k.lt))⟩
 |some q=>
  refine (IZ s R _ _ X h.k hU h.s q.1 q.2 hn).mono ?_;rintro e X' ⟨rfl,hk,ho⟩;exact .inl ⟨_,_,rfl,rfl,h.dG hk ho (Ai hn)⟩
theorem XA.fin {w5:World} {u5:Value} {n:Nd} {T:Option PS} (h:XA w R v L s ns b u X) (hg:X.grownBy w5 u.ownBlock) (ho:w5.ownsRow (R+1) 49 5 u5 (ns.length+1) (eP ns++n.cells)) (h4:∀g,u5.ownBlock=some g->u.ownBlock=some g∨X.heap.size<=g) (hT:T=some (s,ns++[n],b)):
  ND T R v w (.returned (.tuple #[])) (w5.setCell ⟨R,1,none⟩ u5):=by
 subst hT;exact⟨rfl,u5,(h.k.of_block (hg.block R h.k.lt (fun e=>by have:=(h.o.lt R e.symm).1;omega))).set 1 _,by rw[List.length_append,ZW];exact eX ho 1 _,h.p.trans (PF.push hg h4 1 _)⟩
theorem vS {T:Option PS} (hT:T=none) (h:Below R w X):ND T R v w (.panicked uK) X:=by subst hT;exact⟨rfl,h⟩
end
theorem CJ {α:Type} [Inhabited α] (eq:α->α->Bool) (x:α):∀(l:List α) (i:Nat),Lib.idxByFrom eq x l i= -1∨∃k,k<l.length/\Lib.idxByFrom eq x l i=((i+k:Nat):Int)/\eq x l[k]! =true:=by
 intro l
 induction l with
 |nil=>intro i;exact .inl rfl
 |cons y l ih=>
  intro i;rw[Lib.idxByFrom];cases h:eq x y
  ·simp only[Bool.false_eq_true,if_false]
   rcases ih (i+1) with h1|⟨k,h1,h2,h3⟩
   ·exact .inl h1
   ·refine .inr ⟨k+1,by simp;omega,by rw[h2];congr 1;omega,?_⟩;simpa using h3
  ·simp only[if_true]
   exact .inr ⟨0,by simp,by simp,by simpa using h⟩
theorem Un {q:List UInt8} {k:Nat} (h:placeOf ⟨q.toArray⟩=(k:Int)):k<25/\(aB (k:Int)).word=q/\q≠[]:=by
 have hl:iQ.length=25:=rfl;rcases CJ (fun (_:Sh) y=>uM ⟨q.toArray⟩ y) default iQ 0 with h1|⟨j,h1,h2,h3⟩
 ·have:placeOf ⟨q.toArray⟩= -1:=h1;omega
 ·have h4:placeOf ⟨q.toArray⟩=((0+j:Nat):Int):=h2;have hjk:j=k:=by omega
  subst hjk
  have hj:iQ[j]! =aB (j:Int):=by
   have:=IQ j (by omega);rw[getElem!_pos iQ j h1];rw[List.getElem?_eq_getElem h1] at this;exact Option.some.inj this
  rw[hj] at h3;unfold uM at h3;simp only[Bool.and_eq_true,decide_eq_true_eq,Bool.not_eq_true',decide_eq_false_iff_not] at h3;refine⟨by omega,?_,fun he=>h3.2 (by rw[he])⟩;have h5:=congrArg (fun b:ByteArray=>b.data.toList) h3.1;simpa using h5
theorem Xj (q:ByteArray):placeOf q= -1∨∃k:Nat,placeOf q=(k:Int):=by
 rcases CJ (fun (_:Sh) y=>uM q y) default iQ 0 with h1|⟨j,_,h2,_⟩
 ·exact .inl h1
 ·exact .inr ⟨0+j,h2⟩
theorem acY (s p:List UInt8) (w:World):Calls Tryz.prog 205 #[.string ⟨s.toArray⟩,.string ⟨p.toArray⟩] w fun e w'=>e=.returned (.bool (Lib.hasPrefix s p))/\w'=w:=Tryz.strings_HasPrefix ⟨s.toArray⟩ ⟨p.toArray⟩ w
theorem abG {a b:List UInt8} (h:a≠b):((⟨a.toArray⟩:ByteArray).toList==b)=false:=by
 rw[ByteArray.toList_eq,beq_eq_false_iff_ne];simpa using h
theorem Xk {w:World} (hL:dK w):∀j,j<iQ.length->∀i v,(Sh.cells iQ[j]!)[i]?=some v->w.cell? ⟨1,0+j*5+i,none⟩=some v:=by
 intro j hj i v hv
 have hi:i<5:=by
  have:=(List.getElem?_eq_some_iff.1 hv).1;exact this
 have hs:iQ[j]! =aB (j:Int):=by
  have:=IQ j hj;rw[getElem!_pos iQ j hj];rw[List.getElem?_eq_getElem hj] at this;exact Option.some.inj this
 rw[Nat.zero_add,hL.cell j i hj hi,<-hs];exact hv
theorem dK.row {w:World} {k oo:Nat} {Nw:List UInt8} {lit dF dJ:Bool} (h:dK w) (hk:k<25) (e:aB (k:Int)=⟨Nw,oo,lit,dF,dJ⟩):w.cell? ⟨1,k*5,none⟩=some (.string ⟨Nw.toArray⟩)/\w.cell? ⟨1,k*5+1,none⟩=some (.int .i64 (oo:Int))/\w.cell? ⟨1,k*5+2,none⟩=some (.bool lit)/\w.cell? ⟨1,k*5+3,none⟩=some (.bool dF)/\w.cell? ⟨1,k*5+4,none⟩=some (.bool dJ):=by
 have h1:=fun i hi=>h.cell k i hk hi
 rw[e] at h1;exact⟨h1 0 (by omega),h1 1 (by omega),h1 2 (by omega),h1 3 (by omega),h1 4 (by omega)⟩
theorem NJ {s:List UInt8} (h1:Lib.hasPrefix s [91]=true):wX true s=(iT (s.drop 1)).bind fun q=>if Lib.hasPrefix q.2 [93] then some (q.1,q.2.drop 1) else none:=by unfold wX;rw[if_pos rfl,if_pos h1]
def G9 (oo:Nat) (n:Nd) (t:PS):Option PS:=if 0<oo then (if Lib.hasPrefix t.1 [41] then some (t.1.drop 1,t.2.1++[n],t.2.2) else none) else some (t.1,t.2.1++[n],t.2.2)
theorem ZX (w0:World) (hL:dK w0) (R:Nat) (hR0:w0.heap.size<=R) (f:Nat):∀(s:List UInt8) (ns:List Nd) (b:Nat) (v:Value) (w:World),Below w0.heap.size w0 w->aj w R 240 [.string ⟨s.toArray⟩,v,.int .i64 (b:Int)]->
  w.ownsRow (R+1) 49 5 v ns.length (eP ns)->s.length<=1048576->ns.length<=b->b<=60->61<=b+f->Calls Tryz.prog 176 #[.pointer (some ⟨R,0,none⟩)] w (ND (kX f s ns b) R v w):=by
 induction f with
 |zero=>intro s ns b v w _ _ _ _ _ h1 h2;omega
 |succ f ih=>
  intro s ns b v w hw0 hR hown hs hns hb hbf;have hz:∀X,Below R w X->Below w0.heap.size w0 X:=fun X k=>hw0.trans (k.mono hR0)
  have hU:∀X,Below R w X->Under R X:=fun X k=>ZV hL hR0 (hz X k)
  have H:XA w R v [] s ns (b+1) v (w.setCell ⟨R,2,none⟩ (.int .i64 ((b:Int)+1))):=⟨hR.set 2 _,eX hown 2 _,PF.NC ((aF.refl R w).set 2 _),(Below.refl R w).setCell (p:=⟨R,2,none⟩) (Nat.le_refl _) _,fun _ h=>(by cases h),hs,by omega⟩
  have hc:=hR.cells;have hf:=hR.aI;obtain⟨T,hT⟩:=zE (kX (f+1) s ns b);rw[<-hT];rw[kX] at hT;have HT:=zH hT;clear hR hown hs hT;obtain⟨B,hB⟩:=zF (b+1);rw[hB] at H HT;have hB1:B<=b+1:=Nat.le_of_eq hB.symm;have hB2:b<B:=by omega
  clear hB;go_enter Tryz.func176,Tryz.ntmps176;rcases (by omega:b=60∨b<60) with rfl|hb
  ·go_wp2;exact⟨rfl,vS (by rw[HT.out,if_pos hB2]) H.e⟩
  ·have hb1:((b:Int)+1)<=60:=by omega
   go_wp2_with fail;generalize w.setCell _ _=W1 at H⊢;clear hc hf;refine (acV s R _ [v,.int .i64 (B:Int)] W1 H.k (hU _ H.e) H.s).mono ?_;have hT:=HT.out;rw[if_neg (by omega)] at hT;clear HT;cases hq:qo s with
   |none=>
    rw[hq] at hT;rintro e w2 ⟨rfl,ho⟩;have HT:=zH hT;clear hT;go_wp2;exact⟨rfl,vS HT.out (H.e.trans (ho.below (Nat.le_refl _) (Nat.le_of_lt H.k.lt)))⟩
   |some o=>
    rw[hq] at hT;cases o with
    |some q=>
     obtain⟨⟨op,⟨neg,num,den⟩,nm⟩,r⟩:=q;rintro e w2 ⟨⟨rfl,hk⟩,ho⟩;replace H:=H.dG hk ho (NG hq);clear hk ho hq;have HT:=zH hT;clear hT;unfold Nd.v;go_wp2_with fail;generalize hX:w2.alloc _=X;replace H:=H.new hX;generalize w2.heap.size=N at H⊢;clear hX;have hc:=H.sp.all;refine dN (SP R N _ _) 10 H.sp (fun w3 h3 hS=>?_);replace H:=H.grow h3
     iterate 6 refine aW ?_
     refine iy 6 (fun _=>hS.alloc _) (fun _=>?_);refine y9 7 jZ Tryz.underlying40 H.o (by omega) (Nat.succ_le_of_lt H.k.lt) (fun v5 w5 ho hg h4 _=>?_);obtain⟨g5,c5,rfl,_⟩:=wP ho (by omega);refine⟨H.grown hg,fun hS=>?_⟩
     iterate 2 refine aW ?_
     refine iL 10 (fun h=>absurd rfl h) (fun _=>?_);refine dH ?_;go_wp2;go_end0;exact H.fin (n:=⟨op,⟨neg,num,den⟩,nm⟩) hg ho h4 HT.out
    |none=>
     rintro e w2 ⟨⟨rfl,hk⟩,ho⟩;replace H:=H.dG hk ho (Nat.le_refl _);clear hk ho hq;replace HT:=zH hT;clear hT;unfold nd Nd.v zR;simp only
     go_wp2_with fail;generalize hX:w2.alloc _=X;replace H:=H.grow (zA hX).2;clear hX;have hs0:=H.s;refine (H.span bD).mono ?_;clear H;rintro e w3 ⟨rfl,H⟩;obtain⟨D,hD⟩:=zF (⟨(dX bD s).toArray⟩:ByteArray);rw[hD]
     go_upto_region 7 with fail
     generalize hW:w3.alloc _=W4;replace H:=H.new hW;generalize w3.heap.size=N4 at H⊢;clear hW;by_cases hy:dX bD s=yF
     ·have hT:=HT.out;simp only[Option.bind_some,if_pos hy] at hT;replace HT:=zH hT;obtain rfl:(⟨#[121,101,115]⟩:ByteArray)=D:=by rw[<-hD,hy];rfl
      have hc4:=H.b0.cells;clear hT hD hy;go_wp2_with fail;refine (lY 0 _ (by omega) (by omega)).mono ?_;rintro e w4 ⟨rfl,hb⟩;clear hc4;replace H:=H.grow hb;have hlt:=H.b0.lt;generalize aS 0=q0 at HT⊢;obtain⟨an,au,ad⟩:=q0;unfold Ra.v
      go_upto_region 9 with fail
      generalize hX:w4.alloc _=X;replace H:=H.new hX;generalize w4.heap.size=N at H hlt⊢;have hc4:=H.tl.b0.cells;clear hX hb;have hne:∀q∈([(N4,9,[.string (⟨#[121,101,115]⟩:ByteArray)])]:List (Nat × TypeId × List Value)),q.1≠N:=fun q hq=>by rw[List.mem_singleton.1 hq];exact Nat.ne_of_lt hlt
      go_wp2_with fail;refine (lY 1 _ (by omega) (by omega)).mono ?_;rintro e w5 ⟨rfl,hb⟩;clear hc4;replace H:=H.grow hb;generalize aS 1=q1 at HT⊢;obtain⟨bn,bu,bd⟩:=q1;unfold Ra.v;have hcn:=H.b0.cells;have hfn:=H.b0.aI;replace H:=((H.set 1 (.bool bn) hne).set 2 (.string bu) hne).set 3 (.string bd) hne;simp only[List.set] at H
      go_upto_region 11 with fail
      clear hcn hfn hb;have hc:=H.sp.all;refine dN (SP R N _ _) 10 H.sp (fun w9 h9 hS=>?_);replace H:=H.grow h9
      iterate 6 refine aW ?_
      refine iy 6 (fun _=>hS.alloc _) (fun _=>?_);refine y9 7 jZ Tryz.underlying40 H.o (by omega) (Nat.succ_le_of_lt H.k.lt) (fun v5 w5 ho hg h4 _=>?_);obtain⟨g5,c5,rfl,_⟩:=wP ho (by omega);refine⟨H.grown hg,fun hS=>?_⟩
      iterate 2 refine aW ?_
      refine iL 10 (fun h=>absurd rfl h) (fun _=>?_);refine dH ?_;go_wp2;go_end0;exact H.fin (n:=⟨4,⟨bn,bu,bd⟩,⟨#[]⟩⟩) hg ho h4 HT.out
     ·by_cases hn:dX bD s=Ez
      ·have hT:=HT.out;simp only[Option.bind_some,if_neg hy,if_pos hn] at hT;replace HT:=zH hT;obtain rfl:(⟨#[110,111]⟩:ByteArray)=D:=by rw[<-hD,hn];rfl
       have hc4:=H.b0.cells;clear hT hD hy hn;go_wp2_with fail;refine (lY 0 _ (by omega) (by omega)).mono ?_;rintro e w4 ⟨rfl,hb⟩;clear hc4;replace H:=H.grow hb;have hlt:=H.b0.lt;generalize aS 0=q0 at HT⊢;obtain⟨an,au,ad⟩:=q0;unfold Ra.v
       go_upto_region 9 with fail
       generalize hX:w4.alloc _=X;replace H:=H.new hX;generalize w4.heap.size=N at H hlt⊢;have hc4:=H.tl.b0.cells;clear hX hb
       go_upto_region 11 with fail
       clear hc4;have hc:=H.sp.all;refine dN (SP R N _ _) 10 H.sp (fun w9 h9 hS=>?_);replace H:=H.grow h9
       iterate 6 refine aW ?_
       refine iy 6 (fun _=>hS.alloc _) (fun _=>?_);refine y9 7 jZ Tryz.underlying40 H.o (by omega) (Nat.succ_le_of_lt H.k.lt) (fun v5 w5 ho hg h4 _=>?_);obtain⟨g5,c5,rfl,_⟩:=wP ho (by omega);refine⟨H.grown hg,fun hS=>?_⟩
       iterate 2 refine aW ?_
       refine iL 10 (fun h=>absurd rfl h) (fun _=>?_);refine dH ?_;go_wp2;go_end0;exact H.fin (n:=⟨4,⟨an,au,ad⟩,⟨#[]⟩⟩) hg ho h4 HT.out
      ·have hT:=HT.out;simp only[Option.bind_some,if_neg hy,if_neg hn] at hT;replace HT:=zH hT;clear hT;have hy1:(D.toList==[121,101,115])=false:=by rw[<-hD];exact abG hy
       have hy2:(D.toList==[110,111])=false:=by rw[<-hD];exact abG hn
       have hy3:(D.toList==(⟨#[121,101,115]⟩:ByteArray).toList)=false:=by rw[show (⟨#[121,101,115]⟩:ByteArray).toList=[121,101,115] by rw[ByteArray.toList_eq]];exact hy1
       have hy4:(D.toList==(⟨#[110,111]⟩:ByteArray).toList)=false:=by rw[show (⟨#[110,111]⟩:ByteArray).toList=[110,111] by rw[ByteArray.toList_eq]];exact hy2
       have hDs:D.size<=1048576:=by rw[<-hD];have:=CG bD s;show (dX bD s).length<=_;omega
       have hc4:=H.b0.cells;have hcr:=H.k.cells;have HD:=zH hD;clear hD hy hn;go_wp2_with fail;refine (acY (gB bD s) [46] W4).mono ?_;rintro e w4 ⟨rfl,rfl⟩;clear hc4 hcr hy1 hy2 hy3 hy4;obtain⟨xd,hx⟩:=zF (Lib.hasPrefix (gB bD s) [46]);rw[hx]
       go_upto_if 68 with fail
       go_cut [] from 64 to 72 (fun X=>XA w R v [(N4,9,[.string ⟨(jM s).1.toArray⟩])] (jM s).2 ns B v X)
       case first=>
        cases xd
        ·have HA:Hid (jM s=(dX bD s,gB bD s)):=by unfold jM;rw[hx];rfl
         go_wp2
         go_meet
         case rel=>rw[HA.out,HD.out];exact H
        ·have HA:Hid (jM s=(dX bD s++[46],(gB bD s).drop 1)):=by unfold jM;rw[hx];rfl
         have hQ:D++(⟨#[46]⟩:ByteArray)=⟨(dX bD s++[46]).toArray⟩:=ba_eq (by rw[aep,<-HD.out]);have hsm:¬(9223372036854775807<D.size+1):=by omega
         go_wp2_with fail;refine (H.want [46]).mono ?_;rintro e w5 (⟨_,rfl,H⟩|⟨h1,_⟩)
         ·have hc4:=H.b0.cells;have hf4:=H.b0.aI;have h5:=H.set 0 (.string (D++(⟨#[46]⟩:ByteArray))) (fun _ h=>by cases h);simp only[hQ] at h5;have H5:=zH h5;clear h5 H;go_wp2
          go_meet
          case rel=>rw[HA.out];exact H5.out
         ·rw[hx] at h1;cases h1
       case rest=>
        clear H hx;have H:=hcut;clear hcut;have hl:=hL.below (hz _ H.e);go_wp2_with fail;refine (TY ⟨(jM s).1.toArray⟩ N4 _ 1 0 25 _ H.b0 hl.glob (Xk hl)).mono ?_;rintro e w7 ⟨rfl,hb7⟩;replace H:=H.tl.grow hb7;replace hl:=hl.below hb7;clear hb7;have hT:=HT.out;rcases Xj ⟨(jM s).1.toArray⟩ with hp|⟨k,hp⟩
        ·rw[hp] at hT⊢;rw[if_pos (by decide)] at hT;have HT:=zH hT;clear hT hp;go_wp2;exact⟨rfl,vS HT.out H.e⟩
        ·obtain⟨aii,_,_⟩:=Un hp;rw[hp] at hT⊢;rw[if_neg (by omega)] at hT;unfold tailA at hT;generalize hsh:aB (k:Int)=sh at hT;obtain⟨Nw,oo,lit,dF,dJ⟩:=sh;have hop:=Af (k:Int);rw[hsh] at hop;simp only at hT hop;replace HT:=zH hT;have hc:=fun (X:World) (hX:dK X)=>hX.row aii hsh
         have ha:=fun o=>hl.alloc o
         have hb:=fun o o'=>(hl.alloc o).alloc o'
         generalize (jM s).2=sd at*;generalize (⟨Nw.toArray⟩:ByteArray)=wd at hc;clear hT hp hsh
         go_upto_region 18 with fail
         go_cut [7,8] from 80 to 84 (fun v7 v8 X=>∃N M,v7=.pointer (some ⟨N,0,none⟩)/\v8=.pointer (some ⟨M,0,none⟩)/\N≠M/\XA w R v [(N,49,[.int .i64 (k:Int),.bool false,.string ⟨#[]⟩,.string ⟨#[]⟩,.string ⟨#[]⟩]),(M,168,[.string wd,.int .i64 (oo:Int),.bool lit,.bool dF,.bool dJ])] sd ns B v X)
         case first=>
          go_region
          ·go_wp2
           go_meet
           case rel=>refine⟨_,_,rfl,rfl,by omega,XA.sw (XA.two H ?_ ?_)⟩<;>rfl
          ·go_wp2
           go_meet
           case rel=>refine⟨_,_,rfl,rfl,by omega,XA.two H ?_ ?_⟩<;>rfl
         case rest=>
          clear H hl hc ha hb;obtain⟨N,M,rfl,rfl,hne,H⟩:=hcut;have hcs:=H.tl.b0.cells;obtain⟨s1,hs1⟩:=zF (if dF=true then gB fG sd else sd);obtain⟨nm,hnm⟩:=zF (if dF=true then dX fG sd else []);have hT:T=(wX dJ s1).bind fun q=>(o9 (kX f) oo 0 q.2 ns B).bind (G9 oo (nd (k:Int) q.1 nm)):=by rw[<-hs1,<-hnm];exact HT.out
          replace HT:=zH hT;clear hT;have hne2:∀q∈([(M,168,[.string wd,.int .i64 (oo:Int),.bool lit,.bool dF,.bool dJ])]:List (Nat × TypeId × List Value)),q.1≠N:=fun q hq=>by rw[List.mem_singleton.1 hq];exact Ne.symm hne
          go_upto_if 86 with fail
          go_cut [] from 85 to 89 (fun X=>XA w R v [(N,49,[.int .i64 (k:Int),.bool false,.string ⟨#[]⟩,.string ⟨#[]⟩,.string ⟨nm.toArray⟩]),(M,168,[.string wd,.int .i64 (oo:Int),.bool lit,.bool dF,.bool dJ])] s1 ns B v X)
          case first=>
           cases dF
           ·obtain rfl:sd=s1:=hs1;obtain rfl:[]=nm:=hnm;go_wp2
            go_meet
            case rel=>exact H
           ·obtain rfl:gB fG sd=s1:=hs1;obtain rfl:dX fG sd=nm:=hnm;go_wp2_with fail;refine (H.span fG).mono ?_;rintro e w9 ⟨rfl,H⟩;have hcn:=H.b0.cells;have hfn:=H.b0.aI;have h4:=zH (H.set 4 (.string ⟨(dX fG sd).toArray⟩) hne2);go_wp2
            go_meet
            case rel=>exact h4.out
          case rest=>
           clear H hcs hs1 hnm;have H:=hcut;clear hcut;have hcs:=H.tl.b0.cells
           go_upto_if 91 with fail
           go_cut [] from 90 to 98 (fun X=>∃(a:Ra) (r:List UInt8),Hid (T=(o9 (kX f) oo 0 r ns B).bind (G9 oo (nd (k:Int) a nm)))/\XA w R v [(N,49,[.int .i64 (k:Int),.bool a.neg,.string a.num,.string a.den,.string ⟨nm.toArray⟩]),(M,168,[.string wd,.int .i64 (oo:Int),.bool lit,.bool dF,.bool dJ])] r ns B v X)
           case first=>
            cases dJ
            ·go_wp2
             go_meet
             case rel=>exact⟨zR,s1,HT.out,H⟩
            ·go_wp2_with fail;refine (H.want [91]).mono ?_;rintro e w5 (⟨h1,rfl,H⟩|⟨h1,rfl,hb⟩)
             ·clear hcs;go_wp2_with fail;refine (H.num (hU _ H.e)).mono ?_;rintro e w6 (⟨⟨neg,num,den⟩,r,h2,rfl,H⟩|⟨h2,rfl,hb⟩)
              ·unfold Ra.v;have hcn:=H.b0.cells;have hfn:=H.b0.aI;have h4:=((H.set 1 (.bool neg) hne2).set 2 (.string num) hne2).set 3 (.string den) hne2;go_wp2_with fail;refine (h4.want [93]).mono ?_;rintro e w7 (⟨h3,rfl,H⟩|⟨h3,rfl,hb⟩)
               ·have hT:Hid (T=(o9 (kX f) oo 0 (r.drop 1) ns B).bind (G9 oo (nd (k:Int) ⟨neg,num,den⟩ nm))):=by show T=_;rw[HT.out,NJ h1,show iT (s1.drop 1)=_ from h2];simp only[Option.bind_some,h3,if_true,Bool.false_eq_true,if_false,Option.bind_none]
                clear h1 h2 h3 hcn hfn h4;go_wp2
                go_meet
                case rel=>exact⟨_,_,hT.out,H⟩
               ·have hT:Hid (T=none):=by show T=_;rw[HT.out,NJ h1,show iT (s1.drop 1)=_ from h2];simp only[Option.bind_some,h3,if_true,Bool.false_eq_true,if_false,Option.bind_none]
                clear h1 h2 h3 hcn hfn h4;go_wp2;exact⟨rfl,vS hT.out hb⟩
              ·have hT:Hid (T=none):=by show T=_;rw[HT.out,NJ h1,show iT (s1.drop 1)=_ from h2];rfl
               clear h1 h2;go_wp2;exact⟨rfl,vS hT.out hb⟩
             ·have hT:Hid (T=none):=by show T=_;rw[HT.out];unfold wX;rw[h1];rfl
              clear h1;go_wp2;exact⟨rfl,vS hT.out hb⟩
           case rest=>
            clear H hcs HT;obtain⟨a,r,HT,H⟩:=hcut;have hcs:=H.tl.b0.cells;have akT:b<B:=by omega
            have hii:=fun (X:World) (i:Nat) (hi:i<3)=>show (X.alloc (.cells #[.string ⟨#[40]⟩,.string ⟨#[44,32]⟩,.string ⟨#[44,32]⟩] 9)).cell? ⟨X.heap.size,i,none⟩=some (.string ⟨(kG i).toArray⟩) from by
             rw[(aj.new X _ _).cells i];rcases (by omega:i=0∨i=1∨i=2) with rfl|rfl|rfl<;>rfl
            go_wp2;clear hcs
            go_loopg [101] oo (fun g iv X=>∃(i:Nat) (s':List UInt8) (ns':List Nd) (b':Nat) (u:Value),i+g=oo/\iv=.int .i64 (i:Int)/\Hid (T=(o9 (kX f) g i s' ns' b').bind (G9 oo (nd (k:Int) a nm)))/\XA w R v [(N,49,[.int .i64 (k:Int),.bool a.neg,.string a.num,.string a.den,.string ⟨nm.toArray⟩]),(M,168,[.string wd,.int .i64 (oo:Int),.bool lit,.bool dF,.bool dJ])] s' ns' b' u X/\Hid (B<=b'/\b'<=60))
            case atStart=>exact⟨0,r,ns,B,v,by omega,rfl,HT.out,H,by omega,by omega⟩
            case round=>
             clear H HT;obtain⟨i,s',ns',b',u,hi,rfl,HT,H,HB⟩:=hrel;by_cases hlt:i<oo
             ·obtain⟨m,rfl⟩:∃m,gk=m+1:=⟨gk-1,by omega⟩
              have hT:T=(if Lib.hasPrefix s' (kG i) then (kX f (s'.drop (kG i).length) ns' b').bind fun q=>o9 (kX f) m (i+1) q.1 q.2.1 q.2.2 else none).bind (G9 oo (nd (k:Int) a nm)):=HT.out;replace HT:=zH hT;have hi3:i<3:=by omega
              have hi4:(i:Int)<3:=by omega
              have NK:=hii wr i hi3;clear hT hii;go_wp2_with fail;refine ((H.grow (zB _ _)).want (kG i)).mono ?_;clear NK H;rintro e w5 (⟨h1,rfl,H⟩|⟨h1,rfl,hb⟩)
              ·have hT:=HT.out;rw[if_pos h1] at hT;replace HT:=zH hT;clear h1 hT;go_wp2_with fail;refine (ih _ _ _ _ _ (hz _ H.e) H.k H.o H.s H.n HB.out.2 (by have:=HB.out.1;omega)).mono ?_;cases hq:kX f (s'.drop (kG i).length) ns' b' with
               |none=>
                have hT:=HT.out;rw[hq] at hT;replace HT:=zH hT;clear hT hq;rintro e w6 ⟨rfl,hb⟩;go_wp2;exact⟨rfl,vS HT.out (H.e.trans hb)⟩
               |some q=>
                have hT:=HT.out;rw[hq] at hT;replace HT:=zH hT;have hpb:=(QL _ _ _ _ _ hq).1;clear hT hq;rintro e w6 ⟨rfl,u',hk,ho,hp⟩;replace H:=H.to hp hk ho hpb.rest (by have:=hpb.nodes;have:=H.n;omega);have HB:Hid (B<=q.2.2/\q.2.2<=60):=⟨by have:=HB.out;have:=hpb.begun;omega,hpb.most⟩
                clear hk ho hp hpb;go_wp2
                go_roundg m
                case measure=>omega
                case rel=>exact⟨i+1,q.1,q.2.1,q.2.2,u',by omega,by go_num,HT.out,H,HB.out⟩
              ·have hT:=HT.out;rw[if_neg (by rw[h1];decide)] at hT;replace HT:=zH hT;clear hT h1;go_wp2;exact⟨rfl,vS HT.out hb⟩
             ·obtain rfl:gk=0:=by omega
              have hT:T=G9 oo (nd (k:Int) a nm) (s',ns',b'):=HT.out;have hx1:decide ((i:Int)<oo)=false:=decide_eq_false (by omega);replace HT:=zH hT;have hcs:=H.tl.b0.cells;clear hT hii
              go_upto_if 115 with fail
              go_cut [] from 113 to 117 (fun X=>∃s2,Hid (T=some (s2,ns'++[nd (k:Int) a nm],b'))/\XA w R v [(N,49,[.int .i64 (k:Int),.bool a.neg,.string a.num,.string a.den,.string ⟨nm.toArray⟩]),(M,168,[.string wd,.int .i64 (oo:Int),.bool lit,.bool dF,.bool dJ])] s2 ns' b' u X)
              case first=>
               clear hx1 hcs;rcases Nat.eq_zero_or_pos oo with ho|ho
               ·have hT:Hid (T=some (s',ns'++[nd (k:Int) a nm],b')):=by show T=_;rw[HT.out];unfold G9;rw[if_neg (by omega)]
                go_wp2
                go_meet
                case rel=>exact⟨s',hT.out,H⟩
               ·go_wp2_with fail;refine (H.want [41]).mono ?_;rintro e w8 (⟨h1,rfl,H⟩|⟨h1,rfl,hb⟩)
                ·have hT:Hid (T=some (s'.drop 1,ns'++[nd (k:Int) a nm],b')):=by show T=_;rw[HT.out];unfold G9;rw[if_pos ho,if_pos h1]
                 clear h1;go_wp2
                 go_meet
                 case rel=>exact⟨_,hT.out,H⟩
                ·have hT:Hid (T=none):=by show T=_;rw[HT.out];unfold G9;rw[if_pos ho,if_neg (by rw[h1];decide)]
                 clear h1;go_wp2;exact⟨rfl,vS hT.out hb⟩
              case rest=>
               clear hx1 hcs H HT;obtain⟨s2,HT,H⟩:=hcut;obtain⟨neg,num,den⟩:=a;have hc:=H.sp.all;have hbb:=HB.out.2
               go_upto_region 33 with fail
               refine dN (SP R N _ _) 10 H.sp (fun w3 h3 hS=>?_);replace H:=H.grow h3
               iterate 6 refine aW ?_
               refine iy 6 (fun _=>hS.alloc _) (fun _=>?_);refine y9 7 jZ Tryz.underlying40 H.o (by have:=H.n;omega) (Nat.succ_le_of_lt H.k.lt) (fun v5 w5 ho hg h4 _=>?_);obtain⟨g5,c5,rfl,_⟩:=wP ho (by omega);refine⟨H.grown hg,fun hS=>?_⟩
               iterate 2 refine aW ?_
               refine iL 10 (fun h=>absurd rfl h) (fun _=>?_);refine dH ?_;go_wp2;go_end0;exact H.fin (n:=nd (k:Int) ⟨neg,num,den⟩ nm) hg ho h4 HT.out
theorem CO {s:List UInt8} {a:Ra} {r:List UInt8} (h:iT s=some (a,r)) (hs:s.length<=1048576):a.num.size<=1048576/\a.den.size<=1048576:=by
 unfold iT at h;split at h
 ·next hp=>
  injection h with h;injection h with h1 _;have hw:=CG oG s;rw[<-h1];generalize dX oG s=x at*;unfold dU at*;simp only at*;split
  ·obtain⟨hc1,hc2⟩:=Qp (Lib.trimPrefix x [45]) [47];have htl:=yR x [45];have h1:=pY (wK x).2.1;have h2:=pY (wK x).2.2;have e1:(wK x).2.1.length<=1048576:=by unfold wK;simp only;omega
   have e2:(wK x).2.2.length<=1048576:=by
    unfold wK;simp only
    split
    ·omega
    ·simp
   exact L9 _ _ _ 1048576 (by omega) (by omega)
  ·exact⟨Nat.zero_le _,Nat.zero_le _⟩
 ·cases h
theorem sV {k:Int} {a:Ra} {nm:List UInt8} (h:a.num.size<=1048576/\a.den.size<=1048576):Fine (nd k a nm):=h
theorem QM (n:Int) (h:n=0∨n=1):(aS n).num.size<=1048576/\(aS n).den.size<=1048576:=by
 rcases h with rfl|rfl<;>decide+kernel
theorem Xl {s:List UInt8} {q:Nd × List UInt8} (h:qo s=some (some q)) (hs:s.length<=1048576):Fine q.1:=by
 unfold qo at h;split at h
 ·cases hn:iT (s.drop 1) with
  |none=>rw[hn] at h;cases h
  |some ar=>
   rw[hn] at h;injection h with h;injection h with h;rw[<-h];exact sV (CO (a:=ar.1) (r:=ar.2) hn (by have:=kH s 1;omega))
 ·split at h
  ·cases h
  ·cases hn:iT s with
   |none=>rw[hn] at h;cases h
   |some ar=>
    rw[hn] at h;have h1:=CO (a:=ar.1) (r:=ar.2) hn hs;simp only[Option.map_some] at h;split at h
    ·injection h with h;injection h with h;rw[<-h];exact sV h1
    ·injection h with h;injection h with h;rw[<-h];exact sV h1
theorem Xm {p:List UInt8->List Nd->Nat->Option PS} (hp:∀s ns b q,p s ns b=some q->s.length<=1048576->(∀n∈ns,Fine n)->q.1.length<=s.length/\∀n∈q.2.1,Fine n) (m:Nat):
  ∀k s ns b q,o9 p m k s ns b=some q->s.length<=1048576->(∀n∈ns,Fine n)->q.1.length<=s.length/\∀n∈q.2.1,Fine n:=by
 induction m with
 |zero=>
  intro k s ns b q h hs hf;injection h with h;subst h;exact⟨Nat.le_refl _,hf⟩
 |succ m ih=>
  intro k s ns b q h hs hf;rw[o9] at h;split at h
  ·obtain⟨t,h1,h2⟩:=Option.bind_eq_some_iff.1 h;have hd:=kH s (kG k).length;have p1:=hp _ _ _ _ h1 (by omega) hf;have p2:=ih _ _ _ _ _ h2 (by omega) p1.2;exact⟨by omega,p2.2⟩
  ·cases h
theorem Xn {y:Bool} {s:List UInt8} {q:Ra × List UInt8} (h:wX y s=some q) (hs:s.length<=1048576):q.1.num.size<=1048576/\q.1.den.size<=1048576:=by
 unfold wX at h;split at h
 ·split at h
  ·obtain⟨t,h1,h2⟩:=Option.bind_eq_some_iff.1 h;split at h2
   ·injection h2 with h2;have hd:=kH s 1;rw[<-h2];exact CO (a:=t.1) (r:=t.2) h1 (by omega)
   ·cases h2
  ·cases h
 ·injection h with h;rw[<-h];exact⟨Nat.zero_le _,Nat.zero_le _⟩
theorem uQ {ns:List Nd} {n:Nd} (h:∀m∈ns,Fine m) (hn:Fine n):∀m∈ns++[n],Fine m:=by
 intro m hm;rcases List.mem_append.1 hm with hm|hm
 ·exact h m hm
 ·obtain rfl:m=n:=by simpa using hm
  exact hn
theorem Xo (f:Nat):∀s ns b q,kX f s ns b=some q->s.length<=1048576->(∀n∈ns,Fine n)->q.1.length<=s.length/\∀n∈q.2.1,Fine n:=by
 induction f with
 |zero=>intro s ns b q h;cases h
 |succ f ih=>
  intro s ns b q h hs hf;refine⟨(QL _ _ _ _ _ h).1.rest,?_⟩;rw[kX] at h;split at h
  ·cases h
  ·obtain⟨t,h1,h2⟩:=Option.bind_eq_some_iff.1 h;cases t with
   |some t=>
    injection h2 with h2;subst h2;exact uQ hf (Xl h1 hs)
   |none=>
    simp only at h2;split at h2
    ·injection h2 with h2;subst h2;exact uQ hf (sV (QM 1 (.inr rfl)))
    ·split at h2
     ·injection h2 with h2;subst h2;exact uQ hf (sV (QM 0 (.inl rfl)))
     ·split at h2
      ·cases h2
      ·have hd:=(NI s).1;unfold tailA at h2;obtain⟨u,h3,h4⟩:=Option.bind_eq_some_iff.1 h2;obtain⟨x,h5,h6⟩:=Option.bind_eq_some_iff.1 h4
       have a2:(if (aB (placeOf ⟨(jM s).1.toArray⟩)).dF=true then gB fG (jM s).2 else (jM s).2).length<=(jM s).2.length:=by
        split
        ·exact uP _ _
        ·exact Nat.le_refl _
       have a1:=NH h3;have a3:=Xn h3 (by omega);have a4:=Xm ih _ _ _ _ _ _ h5 (by omega) hf;split at h6
       ·split at h6
        ·injection h6 with h6;subst h6;exact uQ a4.2 (sV a3)
        ·cases h6
       ·injection h6 with h6;subst h6;exact uQ a4.2 (sV a3)
section
variable {P:Program}
theorem I4 (w:World) {ops:Array Oper} {o:Oper} {a:Act} {K:Act->World->Prop} {Q:Exit->Act->World->Prop} {E:Prop} (hgd:o.guard=none) (s x:Operand) (t:TypeId)
  (ho:o.op=.call {callee:=.builtin .append,args:=#[s,x],argTypes:=#[t,t]})
  (base:Nat) (e:TypeId) (z:Value) (size bytes:Nat) (ht:P.underlying t=some (.slice e)) (hinfo:(P.info? e).map (fun i=>(i.zero,i.size,i.bytes))=some (some z,size,bytes)) (hzs:z.cells.size=size) (hsz:0<size)
  (v:Value) (n:Nat) (xs:List Value) (hs:a.eval s=v) (hown:w.ownsRow base e size v n xs)
  (A:Option Addr) (m c:Nat) (news:List Value) (hx:a.eval x=.slice A m c) (hr:Rd w A news) (hl:news.length=m*size) (h1:∀u∈news,u.oneCell'=true)
  (h63:n+m<=maxLen) (hbytes:(n+m)*bytes<=140737488355328) (hbase:base<=w.heap.size)
  (h:∀v' w',w'.ownsRow base e size v' (n+m) (xs++news)->Below base w w'->K (a.put o.dst v') w'):
  if Region.wanted o (yielded ops a.tmps)=true then Oper.wp P o a w K Q else E:=by
 have hw:Region.wanted o (yielded ops a.tmps)=true:=by simp[Region.wanted,hgd]
 rw[if_pos hw];obtain⟨i,hi,hzz⟩:=Option.map_eq_some_iff.1 hinfo;simp only[Prod.mk.injEq] at hzz;obtain⟨hz,hs1,hb⟩:=hzz
 have hk:∀v' w',w'.ownsRow base e size v' (n+m) (xs++news)->w.grownBy w' v.ownBlock->(v'=.slice none 0 0↔v=.slice none 0 0/\m=0)->K (a.put o.dst v') w':=
  fun v' w' h2 h3 _=>h v' w' h2 ((Below.refl _ _).grown h3 hbase (fun k hk=>(hown.lt k hk).1))
 rcases hr with rfl|⟨b,off,rfl,_,hc⟩
 ·obtain rfl:m=0:=by
   rcases Nat.eq_zero_or_pos m with h0|h0
   ·exact h0
   ·have:=Nat.mul_pos h0 hsz;simp at hl;omega
  cases A with
  |none=>
   have hrun:=qW (P:=P) (w:=w) base t o.type e i size ht hi v n xs hown c;unfold Oper.wp;simp[execOp,ho,resolve,invoke,builtin,hs,hx,hrun,Result.andThen];exact h v w (by simpa using hown) (Below.refl _ _)
  |some ad=>
   exact wp_append_own (w:=w) s x t ho base e i z size bytes ht hi hz hs1 hb hzs hsz v n xs hs hown ad 0 c [] hx hl (by intro j u hj;simp at hj) h1 h63 hbytes hbase hk
 ·refine wp_append_own (w:=w) s x t ho base e i z size bytes ht hi hz hs1 hb hzs hsz v n xs hs hown ⟨b,off,none⟩ m c news hx hl ?_ h1 h63 hbytes hbase hk;intro j u hj;have hj':=(List.getElem?_eq_some_iff.1 hj)
  rw[show Addr.add ⟨b,off,none⟩ j=⟨b,off+j,none⟩ from by unfold Addr.add;split<;>simp_all,hc j hj'.1,<-hj'.2]
theorem Uo {md:Region.Mode} {S:World->Prop} {x0 f:Nat} {l:Array Bool} (i:Nat) {W:World} {news:List Value} {ops:Array Oper} {o:Oper} {a:Act} {Q:Exit->Act->World->Prop} {s x:Operand} {t e:TypeId} {z v:Value} {base size bytes n m c:Nat} {A:Option Addr} {xs:List Value} {a':Value->Act}
  (hinfo:(P.info? e).map (fun i=>(i.zero,i.size,i.bytes))=some (some z,size,bytes)) (ht:P.underlying t=some (.slice e)) (hown:W.ownsRow base e size v n xs) (hR:Rd W A news) (hl:news.length=m*size) (h1:∀u∈news,u.oneCell'=true) (hn:n+m<=100000) (hbase:base<=W.heap.size)
  (h:∀v' w',w'.ownsRow base e size v' (n+m) (xs++news)->Below base W w'->S w'/\(S w'->dw P md ops Q S x0 f (l.setIfInBounds i true) (a' v') w'))
  (hi:ops[i]?=some o:=by rfl) (hr:Region.ready md ops l=[i]:=by kernel_rfl)
  (hgd:o.guard=none:=by rfl) (ho:o.op=.call {callee:=.builtin .append,args:=#[s,x],argTypes:=#[t,t]}:=by rfl) (hs:a.eval s=v:=by rfl) (hx:a.eval x=.slice A m c:=by rfl)
  (hzs:z.cells.size=size:=by rfl) (hsz:0<size:=by decide) (hby:bytes<=1000:=by decide)
  (ha:∀v,a.put o.dst v=a' v:=by (intro v;(try simp only[Act.put,tk1,tk2,tk3,tk4,gU,gV]);rfl)):dw P md ops Q S x0 (f+1) l a W:=by
 refine reR i (fun K hK=>?_) hi hr;refine I4 W hgd s x t ho base e z size bytes ht hinfo hzs hsz v n xs hs hown A m c news hx hR hl h1 (by unfold maxLen;omega) (Nat.le_trans (Nat.mul_le_mul (show n+m<=100000 by omega) hby) (by decide)) hbase (fun v' w' h2 h3=>?_);obtain⟨h5,h6⟩:=h v' w' h2 h3;exact hK.out _ _ (fun _=>h5) (fun s=>by rw[ha];exact h6 h5)
end
end Go.Proofs.YtimokmplkpbmdaaGreatDoor
