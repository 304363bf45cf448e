/- Part: U4 U9 Qc Yb Qd Jn Jq Jr Y6 Jo Ju Jp Y3 WA. -/
import Derived.Test.YtjpbmbgincdjaaaGreatDoorK31
set_option linter.all false
set_option maxRecDepth 100000
set_option maxHeartbeats 0
namespace Go.Proofs.YtjpbmbgincdjaaaGreatDoor
open Go.RowKit List World Tryz
theorem take_mapU {α β:Type} (f:α->β) {l:List α} {k:Nat} (hk:k<l.length):(l.take (k+1)).map f=(l.take k).map f++[f l[k]]:=by
 rw[take_succ_eq_append_getElem hk,map_append];rfl
theorem BP:(prog.info? 9).map (fun i=>(i.zero,i.size,i.bytes))=some (some (.string ⟨#[]⟩),1,16):=by kernel_rfl
def sF (s:ByteArray):List Value:=[.string s]
def strs (l:List ByteArray):List Value:=l.flatMap sF
theorem QJ (a b:List ByteArray):strs (a++b)=strs a++strs b:=flatMap_append
def sV {α:Type} (lo:Nat) (w:World) (enc:α->List Value) (xs:List α) (h:Hd):Prop:=dB w enc xs h/\∀ad,h.a=some ad->lo<=ad.block
theorem sV.lJ {α:Type} {lo G:Nat} {w w':World} {enc:α->List Value} {xs:List α} {h:Hd} (k:sV lo w enc xs h) (ho:bW G w w') (hG:G<lo):sV lo w' enc xs h:=by
 refine⟨⟨k.1.len,k.1.cap,k.1.max,?_⟩,k.2⟩;rcases k.1.rd with h0|⟨b,off,hA,hb,hc⟩
 ·exact .inl h0
 ·have hlo:lo<=b:=k.2 ⟨b,off,none⟩ hA;refine .inr ⟨b,off,hA,Nat.lt_of_lt_of_le hb ho.size,fun i hi=>?_⟩;rw[<-hc i hi];exact cell?_of_block (ho.block b hb (by omega))
theorem sV.below {α:Type} {lo:Nat} {w w':World} {enc:α->List Value} {xs:List α} {h:Hd} (k:sV lo w enc xs h) (hb:Below w.heap.size w w'):sV lo w' enc xs h:=⟨k.1.below hb,k.2⟩
theorem sV.BO {α:Type} {w:World} {enc:α->List Value} {xs:List α} {base m n:Nat} {e:TypeId} {v:Value} (h:w.ownsRow base e m v n (xs.flatMap enc)) (hn:n=xs.length):∃h:Hd,v=.slice h.a h.n h.c/\sV base w enc xs h:=by
 obtain⟨A,c,rfl,h1,h2,h3,h4⟩:=yj h;exact⟨⟨A,n,c⟩,rfl,⟨hn,h1,h2,h3⟩,h4⟩
structure yH (w W X:World) (B:Nat) (cs:List Value) (v:Value) (xs:List ByteArray):Prop where
 k:aj X (B+1) 121 cs
 o:X.ownsRow W.heap.size 9 1 v xs.length (strs xs)
 on:bW (B+1) W X
 bl:Below w.heap.size w X
 s:B+2<=W.heap.size
 hB:w.heap.size<=B
theorem yH.start {w W:World} {B:Nat} {cs:List Value} (k:aj W (B+1) 121 cs) (bl:Below w.heap.size w W) (hB:w.heap.size<=B):yH w W W B cs (.slice none 0 0) []:=⟨k,ownsRow_nil _ _ _ _,bW.refl _ _,bl,k.lt,hB⟩
theorem yH.next {w W X X1 Y:World} {B:Nat} {cs:List Value} {v v':Value} {xs:List ByteArray} {nm:ByteArray} (h:yH w W X B cs v xs) (hb:Below X.heap.size X X1) (ho:Y.ownsRow W.heap.size 9 1 v' (xs.length+1) (strs xs++[.string nm])) (hb':Below W.heap.size X1 Y) (i:Nat):
  aj Y (B+1) 121 cs/\yH w W (Y.setCell ⟨B+1,i,none⟩ v') B (cs.set i v') v' (xs++[nm]):=by
 have k:=(h.k.below hb h.k.lt).below hb' h.s;refine⟨k,k.set i v',?_,((h.on.trans (bW.of_below hb)).more hb').set i v',((ah h.bl hb).trans (hb'.mono (by have:=h.s;have:=h.hB;omega))).setCell (p:=⟨B+1,i,none⟩) (by show _<=B+1;have:=h.hB;omega) _,h.s,h.hB⟩;rw[QJ,length_append];exact ho.kept (uj Y (B+1) i v') (.inr fun e=>by have:=(ho.lt _ e).1;have:=h.s;omega)
theorem yH.fin {w W X:World} {B:Nat} {cs:List Value} {v:Value} {xs:List ByteArray} (h:yH w W X B cs v xs):∃z:Hd,v=.slice z.a z.n z.c/\sV (B+2) X sF xs z:=by
 obtain⟨z,e,r⟩:=sV.BO (enc:=sF) h.o rfl;exact⟨z,e,r.1,fun ad ha=>Nat.le_trans h.s (r.2 ad ha)⟩
theorem VP (l:Lw) (ss:List (Sc × Hd)) (ps:List (Pv × Hd)) (f s p:Hd) (w:World) (h:iQ w l ss ps f s p) (hf:lW l):
  Calls prog 62 #[nD f s p] w fun e w'=>∃h0 h1 h2:Hd,e=.returned (.agg #[.slice h0.a h0.n h0.c,.slice h1.a h1.n h1.c,.slice h2.a h2.n h2.c])/\dB w' sF (l.facts.map Dc.name) h0/\dB w' sF (l.aH.map Sc.name) h1/\dB w' sF (l.ay.map Pv.name) h2/\Below w.heap.size w w':=by
 obtain⟨fa,fn,fc⟩:=f;obtain⟨sa,sn,sc⟩:=s;obtain⟨pa,pn,pc⟩:=p;have HF:Hid (fn=l.facts.length/\fn<=1000):=⟨h.f.len,by rw[show fn=l.facts.length from h.f.len];exact hf.fn⟩
 have HS:Hid (sn=ss.length/\sn<=1000):=⟨h.s.len,by have a:=h.s.len;have b:=congrArg List.length h.sl;have c:=hf.sn;rw[length_map] at b;simp only at a;omega⟩
 have HP:Hid (pn=ps.length/\pn<=1000):=⟨h.p.len,by have a:=h.p.len;have b:=congrArg List.length h.pl;have c:=hf.pn;rw[length_map] at b;simp only at a;omega⟩
 rw[<-h.sl,<-h.pl,map_map,map_map];have rO:=zH h;clear h hf;unfold nD;simp only
 go_enter func62,ntmps62
 go_upto_region 1 with fail
 generalize hX:(w.alloc _).alloc _=W0;have rD:=zf w 29 121 #[.slice fa fn fc,.slice sa sn sc,.slice pa pn pc] #[.slice none 0 0,.slice none 0 0,.slice none 0 0];rw[hX] at rD;obtain⟨kL,kK,hb0,hz⟩:=rD;clear hX hz;have K:=yH.start kK hb0 (Nat.le_refl _);generalize w.heap.size=B at K kL⊢;have hcL:=kL.cells;clear kK hb0;go_wp2_with fail
 go_loopg [12] fn (fun g iv wr=>∃(j:Nat) (v:Value),j+g=fn/\iv=.int .i64 j/\yH w W0 wr B [v,.slice none 0 0,.slice none 0 0] v ((l.facts.take j).map Dc.name))
 case atStart=>exact⟨0,_,by omega,rfl,K⟩
 case round=>
  clear K hcL;obtain⟨j,v,hj,rfl,K⟩:=hrel;by_cases hlt:j<fn
  ·obtain⟨b,off,nm,t,m,d,rfl,_,hx,hxe,hc⟩:=acX rO.out.f hlt;have hc:=hc wr K.bl;have ht:=take_mapU Dc.name hx;rw[hxe] at ht;have hn:=HF.out.2;have hl:((l.facts.take j).map Dc.name).length<=1000:=by rw[length_map,length_take];omega
   generalize (l.facts.take j).map Dc.name=xs at K ht hl;have j0:(0:Int)<=(j:Int):=by omega
   have j1:(j:Int)<(fn:Int):=by omega
   clear hxe
   go_upto_region 4 with fail
   generalize hX:wr.alloc _=X1;obtain⟨k4,hb⟩:=zA hX;have h4:=k4.cells;have hk:=(K.k.below hb K.k.lt).cells;clear hX hc k4;go_wp2_with (at_builtin;go_must (refine zP BP underlying38 (own_below K.o hb) (by omega) (Nat.le_trans K.on.size hb.size) ?_));intro v' w' ho hb';obtain⟨A',c',rfl,_⟩:=dK ho;obtain⟨k5,K⟩:=K.next hb ho hb' 0
   have hkc:=k5.cells;have uG:=k5.bH;clear hk h4 ho hb hb' k5;go_wp2
   go_roundg (fn-(j+1))
   case measure=>omega
   case rel=>exact⟨j+1,_,by omega,by go_num,ht ▸ K⟩
  ·obtain rfl:j=fn:=by omega
   rw[take_of_length_le (Nat.le_of_eq HF.out.1.symm)] at K;obtain⟨h0,rfl,r0⟩:=K.fin;have kL:=K.on.blk kL (by omega);have K:=yH.start K.k K.bl K.hB;generalize wr=W1 at*;have hcL:=kL.cells;clear hlt hj;go_wp2_with fail
   go_loopg [27] sn (fun g iv wr=>∃(j:Nat) (v:Value),j+g=sn/\iv=.int .i64 j/\yH w W1 wr B [.slice h0.a h0.n h0.c,v,.slice none 0 0] v ((ss.take j).map (Sc.name ∘ Prod.fst)))
   case atStart=>exact⟨0,_,by omega,rfl,K⟩
   case round=>
    clear K hcL;obtain⟨j,v,hj,rfl,K⟩:=hrel;by_cases hlt:j<sn
    ·obtain⟨b,off,nm,m,d,bs,hh,rfl,_,hx,hxe,hc⟩:=acY rO.out.s hlt;have hc:=hc wr K.bl;have ht:=take_mapU (Sc.name ∘ Prod.fst) hx;rw[hxe] at ht;have hn:=HS.out.2;have hl:((ss.take j).map (Sc.name ∘ Prod.fst)).length<=1000:=by rw[length_map,length_take];omega
     generalize (ss.take j).map (Sc.name ∘ Prod.fst)=xs at K ht hl;have j0:(0:Int)<=(j:Int):=by omega
     have j1:(j:Int)<(sn:Int):=by omega
     clear hxe
     go_upto_region 9 with fail
     generalize hX:wr.alloc _=X1;obtain⟨k4,hb⟩:=zA hX;have h4:=k4.cells;have hk:=(K.k.below hb K.k.lt).cells;clear hX hc k4;go_wp2_with (at_builtin;go_must (refine zP BP underlying38 (own_below K.o hb) (by omega) (Nat.le_trans K.on.size hb.size) ?_));intro v' w' ho hb';obtain⟨A',c',rfl,_⟩:=dK ho;obtain⟨k5,K⟩:=K.next hb ho hb' 1
     have hkc:=k5.cells;have uG:=k5.bH;clear hk h4 ho hb hb' k5;go_wp2
     go_roundg (sn-(j+1))
     case measure=>omega
     case rel=>exact⟨j+1,_,by omega,by go_num,ht ▸ K⟩
    ·obtain rfl:j=sn:=by omega
     rw[take_of_length_le (Nat.le_of_eq HS.out.1.symm)] at K;obtain⟨h1,rfl,r1⟩:=K.fin;have r0:=r0.lJ K.on (by omega);have kL:=K.on.blk kL (by omega);have K:=yH.start K.k K.bl K.hB;generalize wr=W2 at*;have hcL:=kL.cells;clear hlt hj;go_wp2_with fail
     go_loopg [42] pn (fun g iv wr=>∃(j:Nat) (v:Value),j+g=pn/\iv=.int .i64 j/\yH w W2 wr B [.slice h0.a h0.n h0.c,.slice h1.a h1.n h1.c,v] v ((ps.take j).map (Pv.name ∘ Prod.fst)))
     case atStart=>exact⟨0,_,by omega,rfl,K⟩
     case round=>
      clear K hcL;obtain⟨j,v,hj,rfl,K⟩:=hrel;by_cases hlt:j<pn
      ·obtain⟨b,off,y,rfl,_,hx,hxe,hc⟩:=acZ rO.out.p hlt;have hc:=hc wr K.bl;have ht:=take_mapU (Pv.name ∘ Prod.fst) hx;rw[hxe] at ht;have hn:=HP.out.2;have hl:((ps.take j).map (Pv.name ∘ Prod.fst)).length<=1000:=by rw[length_map,length_take];omega
       generalize (ps.take j).map (Pv.name ∘ Prod.fst)=xs at K ht hl;have j0:(0:Int)<=(j:Int):=by omega
       have j1:(j:Int)<(pn:Int):=by omega
       clear hxe
       go_upto_region 14 with fail
       generalize hX:wr.alloc _=X1;obtain⟨k4,hb⟩:=zA hX;have h4:=k4.cells;have hk:=(K.k.below hb K.k.lt).cells;clear hX hc k4;go_wp2_with (at_builtin;go_must (refine zP BP underlying38 (own_below K.o hb) (by omega) (Nat.le_trans K.on.size hb.size) ?_));intro v' w' ho hb';obtain⟨A',c',rfl,_⟩:=dK ho;obtain⟨k5,K⟩:=K.next hb ho hb' 2
       have hkc:=k5.cells;have uG:=k5.bH;clear hk h4 ho hb hb' k5;go_wp2
       go_roundg (pn-(j+1))
       case measure=>omega
       case rel=>exact⟨j+1,_,by omega,by go_num,ht ▸ K⟩
      ·obtain rfl:j=pn:=by omega
       rw[take_of_length_le (Nat.le_of_eq HP.out.1.symm)] at K;obtain⟨h2,rfl,r2⟩:=K.fin;have r0:=r0.lJ K.on (by omega);have r1:=r1.lJ K.on (by omega);have hka:=K.k.cells;have uG:=K.k.bH;have Aj:=K.bl;have hB:=K.hB;have oL:Hid (∀u0 u1 u2,bW (B+1) wr (((wr.setCell ⟨B+1,0,none⟩ u0).setCell ⟨B+1,1,none⟩ u1).setCell ⟨B+1,2,none⟩ u2)):=fun u0 u1 u2=>(((bW.refl (B+1) wr).set 0 u0).set 1 u1).set 2 u2
       clear K kL;go_wp2;refine bodyPost_ret (v:=.agg #[.slice h0.a h0.n h0.c,.slice h1.a h1.n h1.c,.slice h2.a h2.n h2.c]) (by simp[results,results62,go_sem,hka]) rfl ⟨h0,h1,h2,rfl,(r0.lJ (oL.out _ _ _) (by omega)).1,(r1.lJ (oL.out _ _ _) (by omega)).1,(r2.lJ (oL.out _ _ _) (by omega)).1,iD (B:=B+1) Aj (by omega) _ _ _⟩
def bY (s:ByteArray):Bool:=nameB s.data.toList
theorem abl:aG 5=⟨[102,97,99,116,46],0,false,true,false⟩:=rfl
theorem VQ (s:ByteArray):aQ ⟨5,zR,s⟩=if bY s then 0 else 12:=by
 have h1:iC ⟨5,zR,s⟩=true:=by unfold iC;simp only[abl];simp
 unfold aQ;rw[h1];simp only[abl]
 unfold bY;cases nameB s.data.toList<;>simp
theorem VR (s:ByteArray):aX [⟨5,zR,s⟩]=if bY s then 0 else 12:=by
 unfold aX;rw[if_neg (by simp),chk,VQ];cases bY s
 ·rfl
 ·simp only[abl];simp[chk]
theorem xA (s:ByteArray) (w:World) (hL:eX w):Calls prog 21 #[.string s] w fun e w'=>e=.returned (.bool (bY s))/\Below w.heap.size w w':=by
 obtain⟨W,hW⟩:=zE (w.alloc (.cells #[.int .i64 5,.bool false,.string ⟨#[]⟩,.string ⟨#[]⟩,.string s] 104));obtain⟨B,hB⟩:=zE w.heap.size;have hK:aj W B 104 [.int .i64 5,.bool false,.string ⟨#[]⟩,.string ⟨#[]⟩,.string s]:=by rw[hW,hB];exact aj.new w _ _
 have bZ:Hid (Below w.heap.size w W):=by show Below _ _ _;rw[hW];exact zB _ _
 have HC:=zH (check_any [⟨5,zR,s⟩] (some ⟨B,0,none⟩) 1 1 W (hL.below bZ.out) rfl (Nat.le_refl _) (by unfold maxLen;omega) hK.rd (fun n hn=>by rw[mem_singleton.1 hn];exact⟨Nat.zero_le _,Nat.zero_le _⟩));rw[VR] at HC;generalize bY s=q at*;clear hL hK;cases q
 ·go_enter func21,ntmps21;go_wp2_with fail;simp only[<-hW,<-hB]
  refine HC.out.mono ?_;rintro e w5 ⟨rfl,hb5⟩;have ku:=zH (ah bZ.out hb5);clear hb5 hW hB;go_wp2;go_ret;exact⟨rfl,ku.out⟩
 ·go_enter func21,ntmps21;go_wp2_with fail;simp only[<-hW,<-hB]
  refine HC.out.mono ?_;rintro e w5 ⟨rfl,hb5⟩;have ku:=zH (ah bZ.out hb5);clear hb5 hW hB;go_wp2;go_ret;exact⟨rfl,ku.out⟩
def nE:ByteArray:=⟨#[]⟩
theorem zC {op:Int} (h:9<=op/\op<=20):aQ ⟨op,zR,nE⟩=0:=by
 rcases (by omega:op=9∨op=10∨op=11∨op=12∨op=13∨op=14∨op=15∨op=16∨op=17∨op=18∨op=19∨op=20) with rfl|rfl|rfl|rfl|rfl|rfl|rfl|rfl|rfl|rfl|rfl|rfl<;>decide
theorem ag0 {op:Int} {x:Ra} (h:1<=op/\op<=3) (hx:bQ x=true):aQ ⟨op,x,nE⟩=0:=by
 rcases (by omega:op=1∨op=2∨op=3) with rfl|rfl|rfl<;>(unfold aQ iC;simp[hx,nE,aG,iV,uU])
theorem ag1 {x:Ra} (h:x=aK 0∨x=aK 1):aQ ⟨4,x,nE⟩=0:=by
 rcases h with rfl|rfl<;>decide
theorem ag2 {op:Int} {x:Ra} (h:21<=op/\op<=23) (hx:bQ x=true) (hp:0<dD x):aQ ⟨op,x,nE⟩=0:=by
 rcases (by omega:op=21∨op=22∨op=23) with rfl|rfl|rfl<;>(unfold aQ iC;simp[hx,hp,nE,aG,iV,uU])
theorem YQ {op:Int} {s:ByteArray} (h:iK op=true) (hs:bY s=true):aQ ⟨op,zR,s⟩=0:=by
 unfold iK at h;rw[Bool.or_eq_true,decide_eq_true_eq,decide_eq_true_eq] at h;unfold bY at hs;rcases (by omega:op=5∨op=6∨op=7∨op=8∨op=24) with rfl|rfl|rfl|rfl|rfl<;>(unfold aQ iC;simp[hs,aG,iV,uU])
section
variable {sg:List Sg} {t:Ty} {a b c:List Nd}
theorem nR {n:Nd} {l:List Ty} (h:iK n.op=false) (hr:eF n.op aJ l=(t,true)):lK sg n l=(t,0):=by
 unfold lK nX;simp only[h,Bool.false_eq_true,if_false,hr,if_true]
theorem YR {n:Nd} {l:List Ty} {own:Ty} (h:iK n.op=true) (hs:dZ sg n=some own) (hr:eF n.op own l=(t,true)):lK sg n l=(t,0):=by
 unfold lK nX;simp only[h,if_true,hs,hr]
theorem TE.lit {op:Int} {x:Ra} (h:1<=op/\op<=3) (hx:bQ x=true) (ht:t=if op=1 then aV else if op=2 then jy else aJ):TE sg t [⟨op,x,nE⟩]:=by
 subst ht;refine TE.leaf (ag0 h hx) ?_ (nR ?_ ?_)
 all_goals rcases (by omega:op=1∨op=2∨op=3) with rfl|rfl|rfl<;>rfl
theorem TE.tru {x:Ra} (h:x=aK 0∨x=aK 1):TE sg aB [⟨4,x,nE⟩]:=TE.leaf (ag1 h) rfl (nR rfl rfl)
theorem TE.eH {op:Int} {s:ByteArray} (h:5<=op/\op<=8) (hs:bY s=true) (hg:dZ sg ⟨op,zR,s⟩=some t):TE sg t [⟨op,zR,s⟩]:=by
 have hB:iK op=true:=by unfold iK;rw[decide_eq_true h,Bool.true_or]
 refine TE.leaf (YQ hB hs) ?_ (YR hB hg ?_)
 all_goals rcases (by omega:op=5∨op=6∨op=7∨op=8) with rfl|rfl|rfl|rfl<;>rfl
theorem TE.one {n:Nd} {u:Ty} (ha:TE sg u a) (hw:aQ n=0) (hl:(aG n.op).ops=1) (ho:lK sg n [u]=(t,0)):TE sg t ([a].flatten++[n]):=
 TE.node [(a,u)] (fun x h=>by obtain rfl:=mem_singleton.1 h;exact ha) hw hl.symm ho
theorem TE.two {n:Nd} {u v:Ty} (ha:TE sg u a) (hb:TE sg v b) (hw:aQ n=0) (hl:(aG n.op).ops=2) (ho:lK sg n [u,v]=(t,0)):TE sg t ([a,b].flatten++[n]):=
 TE.node [(a,u),(b,v)] (fun x h=>by
  rcases mem_cons.1 h with rfl|h
  ·exact ha
  ·obtain rfl:=mem_singleton.1 h;exact hb) hw hl.symm ho
theorem TE.three {n:Nd} {u v w:Ty} (ha:TE sg u a) (hb:TE sg v b) (hc:TE sg w c) (hw:aQ n=0) (hl:(aG n.op).ops=3) (ho:lK sg n [u,v,w]=(t,0)):TE sg t ([a,b,c].flatten++[n]):=
 TE.node [(a,u),(b,v),(c,w)] (fun x h=>by
  rcases mem_cons.1 h with rfl|h
  ·exact ha
  ·rcases mem_cons.1 h with rfl|h
   ·exact hb
   ·obtain rfl:=mem_singleton.1 h;exact hc) hw hl.symm ho
theorem TE.sum {op:Int} (h:op=9∨op=10∨op=13∨op=14) (ht:t.truth=false) (ha:TE sg t a) (hb:TE sg t b):TE sg t ([a,b].flatten++[⟨op,zR,nE⟩]):=by
 refine TE.two ha hb (zC (by omega)) ?_ (nR ?_ ?_)
 all_goals rcases h with rfl|rfl|rfl|rfl<;>simp[eF,tA,tB,ht,aG,iV,uU,iK]
theorem TE.mul {op:Int} (h:op=11∨op=12) (ht:t.truth=false) (hu:dU t.aA t.days=true) (ha:TE sg t a) (hb:TE sg aJ b):TE sg t ([a,b].flatten++[⟨op,zR,nE⟩]):=by
 obtain⟨tr,m,d⟩:=t;simp only at ht hu;subst ht;refine TE.two ha hb (zC (by omega)) ?_ (nR ?_ ?_)
 all_goals rcases h with rfl|rfl<;>simp[eF,tA,tB,aJ,hu,aG,iV,uU,iK]
theorem TE.cond (ha:TE sg aB a) (hb:TE sg t b) (hc:TE sg t c):TE sg t ([a,b,c].flatten++[⟨15,zR,nE⟩]):=by
 refine TE.three ha hb hc (zC (by omega)) rfl (nR rfl ?_);simp[eF,tA,tB,tC]
theorem TE.cmp {op:Int} {u:Ty} (h:op=16∨op=17) (ht:u.truth=false) (ha:TE sg u a) (hb:TE sg u b):TE sg aB ([a,b].flatten++[⟨op,zR,nE⟩]):=by
 refine TE.two ha hb (zC (by omega)) ?_ (nR ?_ ?_)
 all_goals rcases h with rfl|rfl<;>simp[eF,tA,tB,ht,aG,iV,uU,iK]
theorem TE.and {op:Int} (h:op=18∨op=19) (ha:TE sg aB a) (hb:TE sg aB b):TE sg aB ([a,b].flatten++[⟨op,zR,nE⟩]):=by
 refine TE.two ha hb (zC (by omega)) ?_ (nR ?_ ?_)
 all_goals rcases h with rfl|rfl<;>rfl
theorem TE.not (ha:TE sg aB a):TE sg aB ([a].flatten++[⟨20,zR,nE⟩]):=TE.one ha (zC (by omega)) rfl (nR rfl rfl)
theorem TE.fQ {op:Int} {x:Ra} (h:21<=op/\op<=23) (hx:bQ x=true) (hp:0<dD x) (ht:t.truth=false) (ha:TE sg t a):TE sg t ([a].flatten++[⟨op,x,nE⟩]):=by
 refine TE.one ha (ag2 h hx hp) ?_ (nR ?_ ?_)
 all_goals rcases (by omega:op=21∨op=22∨op=23) with rfl|rfl|rfl<;>simp[eF,tA,ht,aG,iV,uU,iK]
theorem TE.rate {s:ByteArray} (hs:bY s=true) (hg:dZ sg ⟨24,zR,s⟩=some t) (ha:TE sg t a):TE sg t ([a].flatten++[⟨24,zR,s⟩]):=by
 refine TE.one ha (YQ rfl hs) rfl (YR rfl hg ?_);simp[eF,tA]
end
def okB (b:Bk):Bool:=okR b.fr&&okR b.rt
theorem OW:∀(l:List Bk) (k:Nat) (p:Bk),wG k p l=true↔∃i,∃h:i<l.length,G8 (k+i) ((p::l)[i]'(by simp;omega)) l[i]=true:=by
 intro l
 induction l with
 |nil=>intro k p;constructor
       ·intro h;cases h
       ·rintro⟨i,h,_⟩;cases h
 |cons b r ih=>
  intro k p;rw[wG,Bool.or_eq_true,ih];constructor
  ·rintro (h|⟨i,h,h2⟩)
   ·exact⟨0,by simp,h⟩
   ·exact⟨i+1,by simp;omega,by rw[show k+(i+1)=k+1+i by omega];exact h2⟩
  ·rintro⟨i,h,h2⟩;cases i with
   |zero=>exact .inl h2
   |succ i=>exact .inr ⟨i,by simpa using h,by rw[show k+1+i=k+(i+1) by omega];exact h2⟩
theorem I4 {l:List Bk} (h8:l.length<=8) (h0:0<l.length) (h:(∃b∈l,okB b=false)∨dD l[0].fr≠0∨∃i,∃h:i+1<l.length,0<=kV l[i].fr l[i+1].fr):eY l=11:=by
 unfold eY;rw[if_neg (by omega),if_neg (by omega),if_pos];rw[OW];rcases h with⟨b,hb,h⟩|h|⟨i,hi,h⟩
 ·obtain⟨i,hi,rfl⟩:=getElem_of_mem hb;refine⟨i,hi,?_⟩;unfold okB at h;unfold G8;cases h1:okR (l[i]).fr
  ·rfl
  ·rw[h1,Bool.true_and] at h;rw[h];rfl
 ·refine⟨0,h0,?_⟩;unfold G8;rw[if_pos rfl,decide_eq_true h,Bool.or_true]
 ·refine⟨i+1,hi,?_⟩;unfold G8;rw[if_neg (by omega)];simp only[getElem_cons_succ]
  rw[decide_eq_true h,Bool.or_true]
theorem OX {l:List Bk} (h8:l.length<=8) (h0:0<l.length) (h1:∀b∈l,okB b=true) (h2:dD l[0].fr=0) (h3:∀i,∀h:i+1<l.length,kV l[i].fr l[i+1].fr<0):eY l=if l.any lg then 3 else 0:=by
 unfold eY;rw[if_neg (by omega),if_neg (by omega),if_neg];rw[OW];rintro⟨i,hi,h⟩;have ho:=h1 _ (getElem_mem hi);unfold okB at ho;rw[Bool.and_eq_true] at ho;unfold G8 at h;rw[ho.1,ho.2] at h;cases i with
 |zero=>simp[h2] at h
 |succ i=>
  have:=h3 i hi;simp only[Bool.not_true,Bool.false_or,getElem_cons_succ] at h;rw[if_neg (by omega),decide_eq_true_eq] at h;omega
theorem ag3 {n m:Nat} (h:n<m):kV (aK (n:Int)) (aK (m:Int))<0:=by
 have e:pG (aK (m:Int))=⟨true,aC m,aC 1⟩:=by
  rw[o7];unfold pG;simp only[Bool.not_false,Bool.true_and,Ra.mk.injEq,and_true,decide_eq_true_eq]
  intro h;have:=(nC m).1 h;omega
 unfold kV;rw[e,o7];unfold pO;rw[if_neg (by simp)];simp only[aS,Nat.mul_one]
 split
 ·omega
 ·rw[um,if_neg (by omega)];simp
theorem Tf {a:Ra} (h:bQ a=true):okR a=true:=by
 unfold bQ at h;rw[Bool.and_eq_true,Bool.and_eq_true] at h;exact h.1.1
theorem Ti:∀k:Fin 302,bQ (aK ((k:Nat):Int))=true:=by decide+kernel
structure BQ (l:List Bk):Prop where
 f:∃fs:List Nat,l.map Bk.fr=fs.map (fun (n:Nat)=>aK (n:Int))/\(∃r,fs=0::r)/\fs.Pairwise (·<·)/\∀n∈fs,n<=301
 r:∀b∈l,bQ b.rt=true
 n:l.length<=8
theorem BQ.rate {l:List Bk} (h:BQ l):eY l=0:=by
 obtain⟨fs,h1,⟨r,rfl⟩,h3,h4⟩:=h.f;have hl:l.length=(0::r).length:=by have:=congrArg List.length h1;simpa using this
 have hat:∀i (hi:i<l.length),l[i].fr=aK (((0::r)[i]'(by rw[<-hl];exact hi):Nat):Int):=fun i hi=>by
  have:=congrArg (fun x=>x[i]?) h1;simp only[getElem?_map,getElem?_eq_getElem hi,getElem?_eq_getElem (show i<(0::r).length by rw[<-hl];exact hi),Option.map_some] at this;exact Option.some.inj this
 have hf:∀b∈l,bQ b.fr=true:=fun b hb=>by
  obtain⟨i,hi,rfl⟩:=getElem_of_mem hb;rw[hat i hi];have:=h4 _ (getElem_mem (show i<(0::r).length by rw[<-hl];exact hi));exact Ti ⟨_,by omega⟩
 have h0:0<l.length:=by rw[hl];simp
 rw[OX h.n h0 (fun b hb=>by unfold okB;rw[Tf (hf b hb),Tf (h.r b hb)];rfl) (by rw[hat 0 h0];show dD (aK ((0:Nat):Int))=0;decide+kernel) (fun i hi=>by
  rw[hat i (by omega),hat (i+1) hi];exact ag3 (pairwise_iff_getElem.1 h3 i (i+1) (by rw[<-hl];omega) (by rw[<-hl];exact hi) (by omega)))]
 rw[if_neg];simp only[any_eq_true,not_exists,not_and]
 intro b hb;unfold lg;rw[hf b hb,h.r b hb];decide
theorem YS:∀k:Fin 40,∀d∈[1,2,10],0<dD (fB (aK (((k:Nat):Int)+1)) (aK d)).1:=by decide+kernel
def OY (s c:Ra):Bool:=bQ s&&(bQ c&&(decide (0<dD s)&&(decide ((fB c s).1.den=(aK 1).den)&&(decide (0<dD (fB c s).1)&&decide (kV (fB c s).1 (aK 200)<=0)))))
theorem YT:∀k:Fin 100,OY (fB (aK 1) (aK 2)).1 (aK (((k:Nat):Int)+1))=true:=by decide+kernel
section
set_option maxRecDepth 100000
set_option maxHeartbeats 2000000
theorem okI:∀k:_root_.Fin 450,(okR (aK (((k:Nat):Int)-8))&&(decide ((aK (((k:Nat):Int)-8)).num.size<=9)&&(decide ((aK (((k:Nat):Int)-8)).den.size<=9)&&(decide ((k:Nat)=8)||decide ((aK (((k:Nat):Int)-8)).num≠⟨#[]⟩)))))=true:=by decide+kernel
theorem OZ {a:Int} (h0:-8<=a) (h1:a<=441):okR (aK a)=true/\(aK a).num.size<=9/\(aK a).den.size<=9/\(a≠0->(aK a).num≠⟨#[]⟩):=by
 obtain⟨k,rfl⟩:∃k:Nat,a=(k:Int)-8:=⟨(a+8).toNat,by omega⟩
 have h:=okI ⟨k,by omega⟩;simp only[Bool.and_eq_true,Bool.or_eq_true,decide_eq_true_eq] at h;exact⟨h.1,h.2.1,h.2.2.1,fun h9=>h.2.2.2.resolve_left (by omega)⟩
def je (a b:Int):Ra:=(fB (aK a) (aK b)).1
theorem frF:∀k:_root_.Fin 430,∀d:_root_.Fin 10,bQ (je (((k:Nat):Int)-8) (((d:Nat):Int)+1))=true:=by decide+kernel
theorem nG {a b:Int} (h0:-8<=a) (h1:a<=420) (h2:1<=b) (h3:b<=10):bQ (je a b)=true:=by
 obtain⟨k,rfl⟩:∃k:Nat,a=(k:Int)-8:=⟨(a+8).toNat,by omega⟩
 obtain⟨d,rfl⟩:∃d:Nat,b=(d:Int)+1:=⟨(b-1).toNat,by omega⟩
 exact frF ⟨k,by omega⟩ ⟨d,by omega⟩
theorem qfr {a b:Int} (h0:-8<=a) (h1:a<=420) (h2:1<=b) (h3:b<=10) (W:World):Calls prog 61 #[(aK a).v,(aK b).v] W fun e w'=>e=.returned (.tuple #[(je a b).v,.bool true])/\Below W.heap.size W w':=by
 obtain⟨a1,a2,a3,_⟩:=OZ h0 (show a<=441 by omega);obtain⟨b1,b2,b3,b4⟩:=OZ (show-8<=b by omega) (show b<=441 by omega);exact NV (aK a) (aK b) W a1 b1 (b4 (by omega)) 9 (by omega) a2 a3 b2 b3
variable {Ld:bU}
theorem qh (a b:Int) (a0:-8<=a/\a<=420) (b0:1<=b/\b<=10):PC prog Ld 27 [iP a,iP b] (·=(je a b).p):=by
 have h1:=xk (Ld:=Ld) a (by omega) (by omega);have h2:=xk (Ld:=Ld) b (by omega) (by omega)
 have h3:PC prog Ld 61 [(aK a).p,(aK b).p] (·=.tu [(je a b).p,bP true]):=
  mQ (.ag (by repeat constructor) (.ag (by repeat constructor) .nil)) (.ag (by repeat constructor) (.sc .nil)) rfl fun w _=>qfr a0.1 a0.2 b0.1 b0.2 w
 refine dh func27 fun X=>?_
 refine run ?_;exact aF
abbrev aiK:Ty:=⟨false,1,-1⟩
def qj (z:Int):Ty:=if z=0 then aV else if z=1 then jy else if z=2 then aJ else if z=3 then aB else aiK
theorem Hr (a:Int) (ha:I64 a):PC prog Ld 26 [iP a] (·=(qj (a % 5)).p):=by
 have h1:=abk (Ld:=Ld) a 5 ha (by decide) (by decide);have h2:=Int.emod_nonneg a (show (5:Int)≠0 by decide);have h3:=Int.emod_lt_of_pos a (show (0:Int)<5 by decide);generalize a % 5=z at*;rcases (by omega:z=0∨z=1∨z=2∨z=3∨z=4) with rfl|rfl|rfl|rfl|rfl
 all_goals
  refine dh func26 fun X=>?_
  refine run ?_;exact aF
def EP (z:Int):Int:=if z=2 then 2 else if z=3 then 10 else 1
def xQ (d:Dr) (c:Int):Ra:=je (c+d.nx 40) (EP (d.go.nx 4))
theorem I5 (z:Int):1<=EP z/\EP z<=10:=by unfold EP;split<;>(try split)<;>omega
theorem KC (d:Dr) (c:Int) (h0:-8<=c/\c<=1):bQ (xQ d c)=true:=by
 have:=d.lt 40;have:=I5 (d.go.nx 4);exact nG (by omega) (by omega) (by omega) (by omega)
theorem YU (d:Dr) [eG d] (c:Int) (h0:-8<=c/\c<=1):yw prog Ld 164 [none,some (iP c)] d.cs (xQ d c).p d.go.go.cs:=by
 have w1:=d.wr c 40 (by omega);have g1:=d.lt 40;have g2:=d.go.lt 4;have g3:=I5 (d.go.nx 4);have h1:=xk (Ld:=Ld) (c+d.nx 40) (by omega) (by omega);have h2:=xk (Ld:=Ld) (EP (d.go.nx 4)) (by omega) (by omega)
 have h3:PC prog Ld 61 [(aK (c+d.nx 40)).p,(aK (EP (d.go.nx 4))).p] (·=.tu [(xQ d c).p,bP true]):=
  mQ (.ag (by repeat constructor) (.ag (by repeat constructor) .nil)) (.ag (by repeat constructor) (.sc .nil)) rfl fun w _=>qfr (by omega) (by omega) g3.1 g3.2 w
 have hN:=(LJ (Ld:=Ld) d.go 4).h;generalize xQ d c=q at*;generalize d.go.nx 4=z at*;rcases (by omega:z=0∨z=1∨z=2∨z=3) with rfl|rfl|rfl|rfl
 all_goals
  refine yX func164 fun X=>?_
  refine run ?_;exact iy
def Ht (d:Dr) (t:Ty):List Nd:=[⟨if t=aV then 1 else if t=jy then 2 else 3,xQ d (-8),nE⟩]
theorem ag4 (d:Dr) [eG d] (t:Ty) (ht:t=aV∨t=jy∨t=aJ):yw prog Ld 213 [none,some t.p] d.cs (.sl 5 ((Ht d t).map Nd.p)) d.go.go.cs:=by
 have h1:=YU (Ld:=Ld) d (-8) (by omega);rcases ht with rfl|rfl|rfl
 all_goals
  dsimp only[Ty.p,aV,jy,aJ]
  refine yX func213 fun X=>?_
  refine run ?_
  try (refine alI ?_;refine run ?_;refine mM ?_;refine run ?_)
  exact iy
def Tj (sg:List Sg) (t:Ty) (s:Sg):Bool:=(kX sg s.op s.name).isSome&&(!decide (s.op=24)&&decide ((kX sg s.op s.name).getD aJ=t))
def lI (sg:List Sg) (t:Ty) (l:List Sg):List Nd:=(l.filter (Tj sg t)).map fun s=>⟨s.op,zR,s.name⟩
def pq (sg:List Sg) (d:Dr) (t:Ty):List Nd × Dr:=
 let z:=(d.nx ((lI sg t sg).length+2)).toNat
 if h:z<(lI sg t sg).length then ([(lI sg t sg)[z]],d.go) else if t.truth then ([⟨4,aK (d.go.nx 2),nE⟩],d.go.go) else (Ht d.go t,d.go.go.go)
theorem YV (sg:List Sg) (t:Ty) (l:List Sg):(lI sg t l).length<=l.length:=by unfold lI;rw[length_map];exact length_filter_le _ _
theorem VT (sg:List Sg) (t:Ty) (l:List Sg) (s:Sg):lI sg t (l++[s])=if Tj sg t s then lI sg t l++[⟨s.op,zR,s.name⟩] else lI sg t l:=by
 unfold lI;rw[filter_append,map_append];cases h:Tj sg t s<;>simp[h]
def pI (t:Ty):Prop:=t=aV∨t=jy∨t=aJ∨t=aB
theorem pI.no {t:Ty} (h:pI t) (hv:t.truth=false):t=aV∨t=jy∨t=aJ:=by
 rcases h with h|h|h|h
 ·exact .inl h
 ·exact .inr (.inl h)
 ·exact .inr (.inr h)
 ·subst h;cases hv
theorem pI.yes {t:Ty} (h:pI t) (hv:t.truth=true):t=aB:=by
 rcases h with h|h|h|h
 iterate 3 subst h;cases hv
 exact h
theorem VU (sg:List Sg) (hs:sg.length<=900) (d:Dr) [eG d] (t:Ty) (ht:pI t):yw prog Ld 162 [some (.sl 5 (sg.map Sg.p)),none,some t.p] d.cs (.sl 5 ((pq sg d t).1.map Nd.p)) (pq sg d t).2.cs:=by
 refine yX func162 fun X=>?_
 have he:=qW;unfold Ty.v at he;refine run ?_;refine nK 7 7 104 5 rfl rfl (by decide) ?_;refine jr sg.length (fun k=>[(.s 8,.s (.v (nP k))),(.s 7,.s (.ow 7 ((lI sg t (sg.take k)).map Nd.p).length)),(.o 7,.o (.row 104 5 ((lI sg t (sg.take k)).map Nd.p)))]) [.s 0,.s 1,.s 5,.o 5,.o 900] ?_;intro k hk hw;have hl:=YV sg t (sg.take k);rw[length_take] at hl;refine run ?_;refine aZ (fun hu=>?_) fun hu=>?_
 ·have h1:=Vp (Ld:=Ld) sg sg[k].op sg[k].name (by omega);have h2:=VT sg t (sg.take k) sg[k];rw[<-take_succ_eq_append_getElem hu] at h2;have h3:Tj sg t sg[k]=((kX sg sg[k].op sg[k].name).isSome&&(!decide (sg[k].op=24)&&decide ((kX sg sg[k].op sg[k].name).getD aJ=t))):=rfl;generalize kX sg sg[k].op sg[k].name=q at*;refine run ?_;refine dH [(.s 46,.s (.v (bP (Tj sg t sg[k]))))] ?_;refine run ?_;refine bM (fun hv=>?_) fun hv=>?_
  ·rw[hv,if_pos rfl] at h2;refine run ?_;refine gq
  ·rw[hv,if_neg (by simp)] at h2;refine run ?_;refine gq
 ·have e1:sg.take k=sg:=take_of_length_le (by omega)
  haveI:Ps (((lI sg t sg).length:Int)+2):=⟨by rw[e1] at hl;omega⟩
  have g1:=d.lt (((lI sg t sg).length:Int)+2);have w1:IntKind.i64.wrap (((lI sg t sg).length:Int)+2)=((lI sg t sg).length:Int)+2:=IntWalk.i64_in _ (by rw[e1] at hl;omega);obtain⟨z,hz⟩:∃z:Nat,d.nx (((lI sg t sg).length:Int)+2)=(z:Int):=⟨_,(Int.toNat_of_nonneg g1.1).symm⟩
  have hD:pq sg d t=if h:z<(lI sg t sg).length then ([(lI sg t sg)[z]],d.go) else if t.truth then ([⟨4,aK (d.go.nx 2),nE⟩],d.go.go) else (Ht d.go t,d.go.go.go):=by unfold pq;simp only[hz,Int.toNat_natCast]
  refine run ?_;refine aZ (fun hv=>?_) fun hv=>?_
  ·refine run ?_;exact iy (hr:=by rw[hD,dif_pos hv]) (hl2:=by rw[hD,dif_pos hv])
  ·rw[dif_neg hv] at hD;refine run ?_;refine bM (fun h=>?_) fun h=>?_
   ·have g2:=d.go.lt 2;have h1:=xk (Ld:=Ld) (d.go.nx 2) (by omega) (by omega);refine run ?_;exact iy (hr:=by rw[hD,if_pos h]) (hl2:=by rw[hD,if_pos h])
   ·have h1:=ag4 (Ld:=Ld) d.go t (ht.no h);refine run ?_;exact iy (hr:=by rw[hD,h]) (hl2:=by rw[hD,h];rfl)
def Tn (sg:List Sg) (t:Ty) (s:Sg):Bool:=(kX sg 24 s.name).isSome&&(decide (s.op=24)&&decide ((kX sg 24 s.name).getD aJ=t))
def uV (sg:List Sg) (t:Ty) (l:List Sg):List ByteArray:=(l.filter (Tn sg t)).map Sg.name
def gG (sg:List Sg) (d:Dr) (t:Ty):(ByteArray × Bool) × Dr:=
 let z:=(d.nx (uV sg t sg).length).toNat
 if h:z<(uV sg t sg).length then (((uV sg t sg)[z],true),d.go) else ((nE,false),d)
theorem aem (sg:List Sg) (t:Ty) (l:List Sg):(uV sg t l).length<=l.length:=by unfold uV;rw[length_map];exact length_filter_le _ _
theorem abm (sg:List Sg) (t:Ty) (l:List Sg) (s:Sg):uV sg t (l++[s])=if Tn sg t s then uV sg t l++[s.name] else uV sg t l:=by
 unfold uV;rw[filter_append,map_append];cases h:Tn sg t s<;>simp[h]
theorem ag5 (sg:List Sg) (hs:sg.length<=900) (d:Dr) [eG d] (t:Ty):yw prog Ld 165 [some (.sl 5 (sg.map Sg.p)),none,some t.p] d.cs (.tu [sP (gG sg d t).1.1,bP (gG sg d t).1.2]) (gG sg d t).2.cs:=by
 refine yX func165 fun X=>?_
 have he:=qW;unfold Ty.v at he;refine run ?_;refine nK 8 8 9 1 rfl rfl (by decide) ?_;refine jr sg.length (fun k=>[(.s 9,.s (.v (nP k))),(.s 8,.s (.ow 8 ((uV sg t (sg.take k)).map sP).length)),(.o 8,.o (.row 9 1 ((uV sg t (sg.take k)).map sP)))]) [.s 0,.s 1,.s 5,.o 5,.o 900] ?_;intro k hk hw;have hl:=aem sg t (sg.take k);rw[length_take] at hl;refine run ?_;refine aZ (fun hu=>?_) fun hu=>?_
 ·have h1:=Vp (Ld:=Ld) sg 24 sg[k].name (by omega);have h2:=abm sg t (sg.take k) sg[k];rw[<-take_succ_eq_append_getElem hu] at h2;have h3:Tn sg t sg[k]=((kX sg 24 sg[k].name).isSome&&(decide (sg[k].op=24)&&decide ((kX sg 24 sg[k].name).getD aJ=t))):=rfl;generalize kX sg 24 sg[k].name=q at*;refine run ?_;refine dH [(.s 41,.s (.v (bP (Tn sg t sg[k]))))] ?_;refine run ?_;refine bM (fun hv=>?_) fun hv=>?_
  ·rw[hv,if_pos rfl] at h2;refine run ?_;refine gq
  ·rw[hv,if_neg (by simp)] at h2;refine run ?_;refine gq
 ·have e1:sg.take k=sg:=take_of_length_le (by omega);refine run ?_;refine aZ (fun hv=>?_) fun hv=>?_
  ·have hD:gG sg d t=((nE,false),d):=by unfold gG;simp only;rw[dif_neg (by omega)]
   refine run ?_;exact iy (hr:=by rw[hD]) (hl2:=by rw[hD])
  ·simp only[e1]
   haveI:Ps ((uV sg t sg).length:Int):=⟨by rw[e1] at hl;omega⟩
   have g1:=d.lt ((uV sg t sg).length:Int);obtain⟨z,hz⟩:∃z:Nat,d.nx ((uV sg t sg).length:Int)=(z:Int):=⟨_,(Int.toNat_of_nonneg g1.1).symm⟩
   have hzl:z<(uV sg t sg).length:=by omega
   have hD:gG sg d t=(((uV sg t sg)[z],true),d.go):=by unfold gG;simp only[hz,Int.toNat_natCast];rw[dif_pos hzl]
   refine run ?_;exact iy (hr:=by rw[hD]) (hl2:=by rw[hD])
theorem wI (n:Nd) (ls:List (List Nd)) (h1:ls.length<=10) (h2:ls.flatten.length<=1000):PC prog Ld 163 [n.p,.sl 1 (ls.map fun l=>.sl 5 (l.map Nd.p))] (·=.sl 5 ((ls.flatten++[n]).map Nd.p)):=by
 refine dh func163 fun X=>?_
 refine run ?_;refine nK 5 5 104 5 rfl rfl (by decide) ?_;refine jr ls.length (fun k=>[(.s 6,.s (.v (nP k))),(.s 5,.s (.ow 5 ((ls.take k).flatten.map Nd.p).length)),(.o 5,.o (.row 104 5 ((ls.take k).flatten.map Nd.p)))]) [.s 1,.s 2,.o 2] ?_;intro k hk hw;have h3:(ls.take k).flatten.length+(ls.drop k).flatten.length<=1000:=by rw[<-length_append,<-flatten_append,take_append_drop];exact h2
 refine run ?_;refine aZ (fun hu=>?_) fun hu=>?_
 ·have e2:(ls.take (k+1)).flatten=(ls.take k).flatten++ls[k]:=by rw[take_succ_eq_append_getElem hu,flatten_append];simp
  rw[drop_eq_getElem_cons hu,flatten_cons,length_append] at h3;generalize (ls.take k).flatten=o at*;refine run ?_;refine gq
 ·have e1:ls.take k=ls:=take_of_length_le (by omega);rw[e1] at*;have h3:=h2;generalize ls.flatten=o at*;refine run ?_;exact aF (hr:=by simp)
end
section
set_option maxRecDepth 100000
set_option maxHeartbeats 2000000
abbrev Dc.p (d:Dc):PV:=.ag [sP d.name,bP d.ty.truth,iP d.ty.aA,iP d.ty.days]
abbrev Bk.p (b:Bk):PV:=.ag [bP b.fr.neg,sP b.fr.num,sP b.fr.den,bP b.rt.neg,sP b.rt.num,sP b.rt.den]
abbrev Sc.p (s:Sc):PV:=.ag [sP s.name,iP s.aA,iP s.days,.sl 6 (s.bJ.map Bk.p)]
abbrev Lw.p (l:Lw):PV:=.ag [.sl 4 (l.facts.map Dc.p),.sl 4 (l.aH.map Sc.p),.sl 12 (l.ay.map Pv.p)]
abbrev Ef (l:List Int):PV:=.sl 1 (l.map iP)
variable {Ld:bU}
theorem ac0 (x:List (List Int)) (i:Nat):PC prog Ld 48 [.sl 1 (x.map Ef),nP i] (·=Ef (x.getD i [])):=by
 refine dh func48 fun X=>?_
 refine run ?_;refine aZ (fun hu=>?_) fun hu=>?_
 ·refine run ?_;exact aF (hr:=by simp[getD_eq_getElem?_getD,hu])
 ·refine run ?_;exact aF (ho:=.one (.tmp rfl (.nil 1))) (hr:=by simp[getD_eq_getElem?_getD,hu])
def KD (c:Int):Nat->Nat->Int->Dr->List Bk->List Bk × Dr
 |0,_,_,d,o=>(o,d)
 |n+1,k,f,d,o=>if (k:Int)<1+d.nx 2 then KD c n (k+1) (f+1+d.go.nx 100) d.go.go.go (o++[⟨aK (f+1+d.go.nx 100),je (c+d.go.go.nx 6) 10⟩]) else (o,d.go)
def uX (c:Int) (d:Dr):List Bk × Dr:=KD c 3 0 0 d.go [⟨aK 0,je (d.nx 5) 10⟩]
theorem KE (d:Dr) [hd:eG d] (b:Bool):yw prog Ld 50 [none,some (bP b)] d.cs (.sl 6 ((uX (if b then 0 else-2) d).1.map Bk.p)) (uX (if b then 0 else-2) d).2.cs:=by
 obtain⟨c,hc⟩:∃c:Int,c=if b then 0 else-2:=⟨_,rfl⟩
 have hcb:c=0∨c= -2:=by rw[hc];cases b<;>simp
 have hL:Lo 16:=⟨⟩
 have g0:=d.lt 5;have h1:=xk (Ld:=Ld) 0 (by decide) (by decide);have h2:=qh (Ld:=Ld) (d.nx 5) 10 (by omega) (by decide);refine yX func50 fun X=>?_
 rw[<-hc];refine run ?_;refine qx [(.s 6,.s (.v (iP c)))] ?_ ?_
 ·refine bM (fun h=>?_) fun h=>?_
  ·have hc:c= -2:=by simpa [(by simpa using h:b=false)] using hc
   refine run ?_;exact fA (by rw[hc];exact eP)
  ·have hc:c=0:=by simpa [(by simpa using h:b=true)] using hc
   refine run ?_;exact fA (by rw[hc];exact eP)
 clear hc;refine run ?_
 refine Nw (fun b=>[(.s 8,.s (.v (nP b.1))),(.s 5,.s (.v (iP b.2.1))),(.o 900,.o (.blk (b.2.2.1.cs.map .v))),(.s 7,.s (.ow 16 (b.2.2.2.map Bk.p).length)),(.o 16,.o (.row 132 6 (b.2.2.2.map Bk.p)))]) [.s 0,.s 6]
  (fun b=>b.1<=2/\(0<=b.2.1/\b.2.1<=101*(b.1:Int))/\eG b.2.2.1/\b.2.2.2.length=b.1+1/\uX c d=KD c (3-b.1) b.1 b.2.1 b.2.2.1 b.2.2.2) (fun b=>3-b.1) ((0,0,d.go,[⟨aK 0,je (d.nx 5) 10⟩]):Nat × Int × Dr × List Bk) ⟨by simp,by simp,inferInstance,rfl,rfl⟩ ?_
 intro⟨k,f,D,o⟩ ⟨hk,hf,hD,ho,hJ⟩;dsimp only at hk hf hD ho hJ⊢;have g1:=D.lt 2;have g2:=D.go.lt 100;have g3:=D.go.go.lt 6;have w1:=D.wr 1 2 (by decide);have w2:IntKind.i64.wrap (f+1)=f+1:=IntWalk.i64_in _ (by omega);have w3:=D.go.wr (f+1) 100 (by omega);have w4:=D.go.go.wr c 6 (by omega);have hw:=wrap_succ k (by omega);rw[show 3-k=(2-k)+1 by omega,KD] at hJ;refine run ?_;refine aZ (fun hu=>?_) fun hu=>?_
 ·rw[if_pos hu] at hJ;have h3:=xk (Ld:=Ld) (f+1+D.go.nx 100) (by omega) (by omega);have h4:=qh (Ld:=Ld) (c+D.go.go.nx 6) 10 (by omega) (by decide);refine run ?_;refine Ny (k+1,f+1+D.go.nx 100,D.go.go.go,o++[⟨aK (f+1+D.go.nx 100),je (c+D.go.go.nx 6) 10⟩]) ?_ ?_
  ·exact⟨by dsimp only;omega,by dsimp only;omega,inferInstance,by simp[ho],by rw[hJ,show 3-(k+1)=2-k by omega]⟩
  ·dsimp only;omega
 ·rw[if_neg hu] at hJ;refine run ?_;exact iy (hr:=by rw[hJ]) (hl2:=by rw[hJ])
def VW:List ByteArray:=[⟨#[98,97,115,101]⟩,⟨#[114,101,108,105,101,102]⟩,⟨#[99,114,101,100,105,116]⟩,⟨#[116,104,114,101,115,104,111,108,100]⟩,⟨#[116,97,120]⟩,⟨#[116,111,116,97,108]⟩]
def zD (s:ByteArray):Nat:=VW.findIdx fun x=>decide (x=s)
theorem ac1 (s:ByteArray):PC prog Ld 108 [sP s] (·=nP (zD s)):=by
 refine dh func108 fun X=>?_
 refine run ?_;refine mO 6 (fun k=>zD s=k+(VW.drop k).findIdx fun x=>decide (x=s)) (fun k=>[(.s 4,.s (.v (nP k)))]) [.s 0,.s 3,.o 3] ?_ (by simp[zD]);intro k hk hJ hw;rcases (by omega:k=6∨k=0∨k=1∨k=2∨k=3∨k=4∨k=5) with rfl|rfl|rfl|rfl|rfl|rfl|rfl
 ·refine run ?_;exact aF (hr:=by rw[hJ];rfl)
 all_goals
  refine run ?_;refine aZ (fun hu=>?_) fun hu=>?_
  ·refine run ?_;exact aF (hr:=by rw[hJ];simp only[VW,drop_succ_cons,drop_zero,findIdx_cons,hu];rfl)
  ·refine run ?_;refine mP ?_;rw[hJ];simp only[VW,drop_succ_cons,drop_zero,findIdx_cons,hu,decide_false,cond_false];omega
def Dp (nm:ByteArray) (s:Sg):Bool:=(decide (s.op=6)||decide (s.op=8))&&decide (zD nm<=zD s.name)
def beforeL (nm:ByteArray) (b:Bool) (l:List Sg):List Sg:=l.filter fun s=>b|| !Dp nm s
theorem O1 (nm:ByteArray) (b:Bool) (l:List Sg) (s:Sg):beforeL nm b (l++[s])=if (b|| !Dp nm s) then beforeL nm b l++[s] else beforeL nm b l:=by
 unfold beforeL;rw[filter_append];cases h:(b|| !Dp nm s)<;>simp[h]
theorem aen (sg:List Sg) (hs:sg.length<=900) (nm:ByteArray) (b:Bool):PC prog Ld 53 [.sl 5 (sg.map Sg.p),sP nm,bP b] (·=.sl 5 ((beforeL nm b sg).map Sg.p)):=by
 have h0:=ac1 (Ld:=Ld) nm;refine dh func53 fun X=>?_
 refine run ?_;refine nK 7 7 67 5 rfl rfl (by decide) ?_;refine jr sg.length (fun k=>[(.s 8,.s (.v (nP k))),(.s 7,.s (.ow 7 ((beforeL nm b (sg.take k)).map Sg.p).length)),(.o 7,.o (.row 67 5 ((beforeL nm b (sg.take k)).map Sg.p)))]) [.s 0,.s 1,.s 2] ?_;intro k hk hw;have hl:(beforeL nm b (sg.take k)).length<=k:=Nat.le_trans (length_filter_le _ _) (by rw[length_take];omega);refine run ?_;refine aZ (fun hu=>?_) fun hu=>?_
 ·have h1:=ac1 (Ld:=Ld) sg[k].name;have h2:=O1 nm b (sg.take k) sg[k];rw[<-take_succ_eq_append_getElem hu] at h2;have h3:Dp nm sg[k]=((decide (sg[k].op=6)||decide (sg[k].op=8))&&decide (zD nm<=zD sg[k].name)):=rfl;refine run ?_;refine dH [(.s 9,.s (.v (bP (Dp nm sg[k]))))] ?_;refine run ?_;refine dH [(.s 45,.s (.v (bP (b|| !Dp nm sg[k]))))] ?_;refine run ?_;refine bM (fun hv=>?_) fun hv=>?_
  ·rw[hv,if_pos rfl] at h2;refine run ?_;refine gq
  ·rw[hv,if_neg (by simp)] at h2;refine run ?_;refine gq
 ·have e1:sg.take k=sg:=take_of_length_le (by omega);refine run ?_;exact aF (hr:=by rw[e1])
end
section
set_option maxRecDepth 100000
set_option maxHeartbeats 2000000
def mulR (a b:Ra):Ra:=low (a.neg !=b.neg) (ak a.num*ak b.num) (ak a.den*ak b.den)
theorem ER:∀s∈[je 1 1,je 1 2,je 5 1],(okR s&&(decide (s.num.size<=9)&&decide (s.den.size<=9)))=true/\∀k:_root_.Fin 30,OY s (mulR s (aK (((k:Nat):Int)+1)))=true:=by decide+kernel
variable {Ld:bU}
theorem amo (a b:Ra) (ha:okR a=true) (hb:okR b=true) (S:Nat) (hS:S<=1048577) (h1:a.num.size<=S) (h2:a.den.size<=S) (h3:b.num.size<=S) (h4:b.den.size<=S):PC prog Ld 109 [a.p,b.p] (·=(mulR a b).p):=by
 obtain⟨p1,p2,p3,p4⟩:=eU ha;obtain⟨q1,q2,q3,q4⟩:=eU hb;have c1:PC prog Ld 120 [a.p] (·=a.p):=kT (us:=[a.v]) (v:=a.v) (.ag (by repeat constructor) .nil) rfl fun w _=>by have:=jT a w (by omega) (by omega);rwa[lQ ha] at this
 have c2:PC prog Ld 120 [b.p] (·=b.p):=kT (us:=[b.v]) (v:=b.v) (.ag (by repeat constructor) .nil) rfl fun w _=>by have:=jT b w (by omega) (by omega);rwa[lQ hb] at this
 have c3:PC prog Ld 122 [sP a.num,sP b.num] (·=sP (aC (ak a.num*ak b.num))):=kT (.sc (.sc .nil)) rfl fun w _=>qw a.num b.num w (by omega) (by omega)
 have c4:PC prog Ld 122 [sP a.den,sP b.den] (·=sP (aC (ak a.den*ak b.den))):=kT (.sc (.sc .nil)) rfl fun w _=>qw a.den b.den w (by omega) (by omega)
 obtain⟨r,hr⟩:=zF (mulR a b);have hl:low (a.neg !=b.neg) (ak a.num*ak b.num) (ak a.den*ak b.den)=r:=hr;rw[hr]
 have c5:PC prog Ld 121 [bP (!decide (a.neg=b.neg)),sP (aC (ak a.num*ak b.num)),sP (aC (ak a.den*ak b.den))] (·=r.p):=kT (us:=[.bool (!decide (a.neg=b.neg)),.string (aC (ak a.num*ak b.num)),.string (aC (ak a.den*ak b.den))]) (v:=r.v) (.sc (.sc (.sc .nil))) rfl fun w _=>by
  have:=pW (a.neg !=b.neg) _ _ (S+S) w (by omega) (dV (bV a.num S h1) (bV b.num S h3)) (dV (bV a.den S h2) (bV b.den S h4)) (Nat.mul_pos p2 q2);rwa[hl,show (a.neg !=b.neg)= !decide (a.neg=b.neg) by cases a.neg<;>cases b.neg<;>rfl] at this
 clear hl hr;refine dh func109 fun X=>?_
 refine run ?_;exact aF
def LK:ByteArray:=⟨#[119,97,103,101]⟩
def qy (z:Int):Ra:=if z=0 then je 1 1 else if z=1 then je 1 2 else je 5 1
def zG (d:Dr) (o:ByteArray):List Nd:=
 [if d.go.go.go.go.nx 2=0 then ⟨5,zR,LK⟩ else ⟨1,je (d.go.go.go.nx 40) 4,nE⟩,⟨3,je (1+d.go.nx 4) (2+d.go.go.nx 3),nE⟩,⟨if d.nx 3=0 then 8 else 6,zR,o⟩,⟨11,zR,nE⟩,⟨9,zR,nE⟩]
def iR (d:Dr) (x:Pv) (o:ByteArray):Pv × Dr:=
 let d5:=d.go.go.go.go.go
 ({x with body:=if d5.nx 2=0 then zG d o++[⟨21,je 1 4,nE⟩] else zG d o,step:=qy (d5.go.nx 3),cap:=mulR (qy (d5.go.nx 3)) (aK (1+d5.go.go.nx 30))},d5.go.go.go)
theorem I7 (d:Dr) [hd:eG d] (x:Pv) (o:ByteArray):yw prog Ld 55 [none,some x.p,some (sP o)] d.cs (iR d x o).1.p (iR d x o).2.cs:=by
 have w1:=d.go.wr 1 4 (by decide);have w2:=d.go.go.wr 2 3 (by decide);have w3:=d.go.go.go.go.go.go.go.wr 1 30 (by decide);have g1:=d.go.lt 4;have g2:=d.go.go.lt 3;have g3:=d.go.go.go.lt 40;have g4:=d.go.go.go.go.go.go.lt 3;have g5:=d.go.go.go.go.go.go.go.lt 30;have f1:=qh (Ld:=Ld) (1+d.go.nx 4) (2+d.go.go.nx 3) (by omega) (by omega);have f2:=qh (Ld:=Ld) (d.go.go.go.nx 40) 4 (by omega) (by omega);have f3:=qh (Ld:=Ld) 1 4 (by omega) (by omega);have f4:=qh (Ld:=Ld) 1 1 (by omega) (by omega);have f5:=qh (Ld:=Ld) 1 2 (by omega) (by omega);have f6:=qh (Ld:=Ld) 5 1 (by omega) (by omega);have h1:=xk (Ld:=Ld) (1+d.go.go.go.go.go.go.go.nx 30) (by omega) (by omega)
 have h2:PC prog Ld 109 [(qy (d.go.go.go.go.go.go.nx 3)).p,(aK (1+d.go.go.go.go.go.go.go.nx 30)).p] (·=(mulR (qy (d.go.go.go.go.go.go.nx 3)) (aK (1+d.go.go.go.go.go.go.go.nx 30))).p):=by
  have hm:qy (d.go.go.go.go.go.go.nx 3)∈[je 1 1,je 1 2,je 5 1]:=by unfold qy;split<;>(try split)<;>simp
  have h:=(ER _ hm).1;simp only[Bool.and_eq_true,decide_eq_true_eq] at h;obtain⟨b1,b2,b3,_⟩:=OZ (a:=1+d.go.go.go.go.go.go.go.nx 30) (by omega) (by omega);exact amo _ _ h.1 b1 9 (by omega) h.2.1 h.2.2 b2 b3
 have hN:=(LJ (Ld:=Ld) d.go.go.go.go.go.go 3).h;refine yX func55 fun X=>?_
 refine run ?_;refine qx [(.s 7,.s (.v (iP (if d.nx 3=0 then 8 else 6))))] ?_ ?_
 ·refine aZ (fun h=>?_) fun h=>?_
  ·refine run ?_;exact fA (by rw[if_pos h];exact eP)
  ·refine run ?_;exact fA (by rw[if_neg h];exact eP)
 refine run ?_;refine qx [(.o 9,.o (.blk ((if d.go.go.go.go.nx 2=0 then (⟨5,zR,LK⟩:Nd) else ⟨1,je (d.go.go.go.nx 40) 4,nE⟩).p.cs.map .v)))] ?_ ?_
 ·refine aZ (fun h=>?_) fun h=>?_
  ·refine run ?_;exact fA (by rw[if_pos h];exact eP)
  ·refine run ?_;exact fA (by rw[if_neg h];exact eP)
 have hL:Lo 36:=⟨⟩
 refine run ?_;obtain⟨B,hB⟩:∃B:List Nd,B=if d.go.go.go.go.go.nx 2=0 then zG d o++[⟨21,je 1 4,nE⟩] else zG d o:=⟨_,rfl⟩
 refine qx [(.o 36,.o (.row 104 5 (B.map Nd.p))),(.o 4,.o (.blk [.v (sP x.name),.v (bP x.ty.truth),.v (iP x.ty.aA),.v (iP x.ty.days),.ow 36 (B.map Nd.p).length,.v (bP x.fH),.v (bP x.step.neg),.v (sP x.step.num),.v (sP x.step.den),.v (bP x.cap.neg),.v (sP x.cap.num),.v (sP x.cap.den)]))] ?_ ?_
 ·refine aZ (fun h=>?_) fun h=>?_
  ·rw[if_pos h] at hB;refine run ?_;exact fA (by rw[hB];exact eP)
  ·rw[if_neg h] at hB;refine run ?_;exact fA (by rw[hB];exact eP)
 obtain⟨z,hz⟩:=zF (d.go.go.go.go.go.go.nx 3);have hC:iR d x o=({x with body:=B,step:=qy z,cap:=mulR (qy z) (aK (1+d.go.go.go.go.go.go.go.nx 30))},d.go.go.go.go.go.go.go.go):=by unfold iR;dsimp only;rw[hz,hB]
 rw[hC];rw[hz] at hN h2 g4;clear hC hB hz;rcases (by omega:z=0∨z=1∨z=2) with rfl|rfl|rfl
 ·rw[show qy 0=je 1 1 from rfl] at*;refine run ?_;exact iy
 ·rw[show qy 1=je 1 2 from rfl] at*;refine run ?_;exact iy
 ·rw[show qy 2=je 5 1 from rfl] at*;refine run ?_;exact iy
theorem aeo (m d:Int):PC prog Ld 56 [.ag [iP m,iP d]] (·=Ty.p ⟨false,m,d⟩):=by
 refine dh func56 fun X=>?_
 refine run ?_;exact aF
def preS (l:Lw) (j:Nat):List Sg:=l.facts.map oM++(List.range j).flatMap fun i=>l.ay.map (jd ((6+i:Nat):Int))
theorem BR (l:Lw) (j:Nat):preS l (j+1)=preS l j++l.ay.map (jd ((6+j:Nat):Int)):=by unfold preS;rw[range_succ,flatMap_append,append_assoc];simp
theorem ES (l:Lw):∀j,(preS l j).length=l.facts.length+j*l.ay.length
 |0=>by simp[preS]
 |j+1=>by rw[BR,length_append,ES l j,length_map,Nat.add_mul];omega
theorem O4 (l:Lw):preS l 3++l.aH.map oN=dO l:=by simp[preS,dO,range_succ]
structure BU (l:Lw):Prop where
 f:l.facts.length<=100
 s:l.aH.length<=100
 p:l.ay.length<=200
theorem VX (l:Lw) (hl:BU l):Bg prog Ld 24 [l.p] (.sl 5 ((dO l).map Sg.p)):=by
 obtain⟨h1,h2,h3⟩:=hl;refine pcF func24 fun X=>?_
 refine run ?_;refine nK 3 3 67 5 rfl rfl (by decide) ?_;refine jr l.facts.length (fun k=>[(.s 4,.s (.v (nP k))),(.s 3,.s (.ow 3 (((l.facts.take k).map oM).map Sg.p).length)),(.o 3,.o (.row 67 5 (((l.facts.take k).map oM).map Sg.p)))]) [.s 1,.o 1] ?_;intro k hk hw;refine run ?_;refine aZ (fun hu=>?_) fun hu=>?_
 ·have e:(l.facts.take (k+1)).map oM=(l.facts.take k).map oM++[oM l.facts[k]]:=by rw[take_succ_eq_append_getElem hu,map_append];rfl
  refine run ?_;refine gq
 ·have e:(l.facts.take k).map oM=preS l 0:=by rw[take_of_length_le (by omega)];simp[preS]
  rw[e];refine run ?_;clear hu e hw;refine jr 3 (fun j=>[(.s 5,.s (.v (nP (6+j)))),(.s 3,.s (.ow 3 ((preS l j).map Sg.p).length)),(.o 3,.o (.row 67 5 ((preS l j).map Sg.p)))]) [.s 1,.o 1] ?_;intro j hj hw;have e3:=BR l j;have e4:=ES l j;have hjp:j*l.ay.length<=3*200:=Nat.mul_le_mul hj h3;refine run ?_;refine aZ (fun hu=>?_) fun hu=>?_
  ·have w1:IntKind.i64.wrap (6+(j:Int)+1)=((6+(j+1):Nat):Int):=by rw[IntWalk.i64_in _ (by omega)];omega
   refine run ?_;refine jr l.ay.length (fun i=>[(.s 6,.s (.v (nP i))),(.s 3,.s (.ow 3 ((preS l j++(l.ay.take i).map (jd ((6+j:Nat):Int))).map Sg.p).length)),(.o 3,.o (.row 67 5 ((preS l j++(l.ay.take i).map (jd ((6+j:Nat):Int))).map Sg.p)))]) [.s 1,.o 1,.s 5] ?_;intro i hi hw2;refine run ?_;refine aZ (fun hv=>?_) fun hv=>?_
   ·have e5:preS l j++(l.ay.take (i+1)).map (jd ((6+j:Nat):Int))=(preS l j++(l.ay.take i).map (jd ((6+j:Nat):Int)))++[jd ((6+j:Nat):Int) l.ay[i]]:=by rw[take_succ_eq_append_getElem hv,map_append,append_assoc];rfl
    have e6:((l.ay.take i).map (jd ((6+j:Nat):Int))).length<=200:=by rw[length_map,length_take];omega
    rw[e5];generalize (l.ay.take i).map (jd ((6+j:Nat):Int))=o at*;refine run ?_;refine gq
   ·rw[take_of_length_le (show l.ay.length<=i by omega),<-e3];refine run ?_;refine gq (hk:=by omega)
  ·obtain rfl:j=3:=by omega
   refine run ?_;clear hu e3 hw;refine jr l.aH.length (fun i=>[(.s 7,.s (.v (nP i))),(.s 3,.s (.ow 3 ((preS l 3++(l.aH.take i).map oN).map Sg.p).length)),(.o 3,.o (.row 67 5 ((preS l 3++(l.aH.take i).map oN).map Sg.p)))]) [.s 1,.o 1] ?_;intro i hi hw2;refine run ?_;refine aZ (fun hv=>?_) fun hv=>?_
   ·have e5:preS l 3++(l.aH.take (i+1)).map oN=(preS l 3++(l.aH.take i).map oN)++[oN l.aH[i]]:=by rw[take_succ_eq_append_getElem hv,map_append,append_assoc];rfl
    have e7:=aeo (Ld:=Ld) l.aH[i].aA l.aH[i].days;have e6:((l.aH.take i).map oN).length<=100:=by rw[length_map,length_take];omega
    rw[e5];generalize (l.aH.take i).map oN=o at*;refine run ?_;refine gq
   ·rw[take_of_length_le (show l.aH.length<=i by omega),O4];refine run ?_;refine acE ?_;intro y hy;obtain⟨a,ha,hy⟩:=mem_flatMap.1 hy;obtain⟨g,_,rfl⟩:=mem_map.1 ha;have hy:y∈[iP g.op,sP g.name,bP g.ty.truth,iP g.ty.aA,iP g.ty.days]:=hy;simp only[mem_cons,not_mem_nil,or_false] at hy;rcases hy with rfl|rfl|rfl|rfl|rfl<;>exact⟨_,rfl⟩
def gV (s:ByteArray) (l:List Pv):Nat × Bool:=match l.findIdx? fun x=>decide (x.name=s) with
 |some i=>(i,true)
 |none=>(0,false)
theorem ac2 (l:Lw) (hl:BU l) (s:ByteArray):PC prog Ld 54 [l.p,sP s] (·=.tu [nP (gV s l.ay).1,bP (gV s l.ay).2]):=by
 have h3:=hl.p;refine dh func54 fun X=>?_
 refine run ?_;refine mO l.ay.length (fun k=>∀i (h:i<l.ay.length),i<k->¬l.ay[i].name=s) (fun k=>[(.s 6,.s (.v (nP k)))]) [.s 1,.s 2,.o 2] ?_ (fun i _ h=>absurd h (by omega));intro k hk hJ hw;refine run ?_;refine aZ (fun hu=>?_) fun hu=>?_
 ·refine run ?_;refine aZ (fun hv=>?_) fun hv=>?_
  ·refine run ?_
   exact aF (hr:=by
    have:l.ay.findIdx? (fun x=>decide (x.name=s))=some k:=by rw[findIdx?_eq_some_iff_getElem];exact⟨hu,by simpa using hv,fun i h=>by simpa using hJ i (by omega) h⟩
    unfold gV;rw[this];rfl)
  ·refine run ?_;refine mP fun i h1 h2=>?_
   by_cases hi:i=k
   ·subst hi;exact hv
   ·exact hJ i h1 (by omega)
 ·refine run ?_
  exact aF (hr:=by
   have:l.ay.findIdx? (fun x=>decide (x.name=s))=none:=by
    rw[findIdx?_eq_none_iff];intro x hx;obtain⟨i,hi,rfl⟩:=getElem_of_mem hx;simpa using hJ i hi (by omega)
   unfold gV;rw[this];rfl)
end
section
set_option maxRecDepth 100000
set_option maxHeartbeats 2000000
variable {Ld:bU}
def kids (f:Dr->Ty->List Nd × Dr):List Ty->Dr->List (List Nd) × Dr
 |[],d=>([],d)
 |t::r,d=>((f d t).1::(kids f r (f d t).2).1,(kids f r (f d t).2).2)
def op4 (z:Int):Int:=if z=0 then 9 else if z=1 then 10 else if z=2 then 13 else 14
def fC (sg:List Sg) (d:Dr) (t:Ty):Option (Nd × List Ty) × Dr:=
 if d.nx 5=0 then (none,d.go) else if t.truth then
  let z:=d.go.nx 5
  if z=0∨z=1 then (some (⟨16+d.go.go.go.nx 2,zR,nE⟩,[qj (d.go.go.nx 3),qj (d.go.go.nx 3)]),d.go.go.go.go)
  else if z=2 then (some (⟨20,zR,nE⟩,[t]),d.go.go)
  else if z=3 then (some (⟨15,zR,nE⟩,[t,t,t]),d.go.go)
  else (some (⟨18+d.go.go.nx 2,zR,nE⟩,[t,t]),d.go.go.go)
 else
  let z:=d.go.nx 7
  if z=0∨z=1 then (some (⟨op4 (d.go.go.nx 4),zR,nE⟩,[t,t]),d.go.go.go)
  else if z=2 then (some (⟨11,zR,nE⟩,[t,aJ]),d.go.go)
  else if z=3 then (some (⟨12,zR,nE⟩,[t,aJ]),d.go.go)
  else if z=4 then (some (⟨15,zR,nE⟩,[aB,t,t]),d.go.go)
  else if z=5 then (some (⟨21+d.go.go.nx 3,xQ d.go.go.go 1,nE⟩,[t]),d.go.go.go.go.go)
  else if (gG sg d.go.go t).1.2 then (some (⟨24,zR,(gG sg d.go.go t).1.1⟩,[t]),(gG sg d.go.go t).2) else (none,(gG sg d.go.go t).2)
def bg (sg:List Sg):Nat->Dr->Ty->List Nd × Dr
 |0,d,t=>pq sg d t
 |n+1,d,t=>match fC sg d t with
  |(none,d')=>pq sg d' t
  |(some (nd,ts),d')=>((kids (bg sg n) ts d').1.flatten++[nd],(kids (bg sg n) ts d').2)
theorem jh {sg:List Sg} {n:Nat} {d d':Dr} {t:Ty} {nd:Nd} {ts:List Ty} (h:fC sg d t=(some (nd,ts),d')):bg sg (n+1) d t=((kids (bg sg n) ts d').1.flatten++[nd],(kids (bg sg n) ts d').2):=by rw[bg,h]
theorem xB {sg:List Sg} {n:Nat} {d d':Dr} {t:Ty} (h:fC sg d t=(none,d')):bg sg (n+1) d t=pq sg d' t:=by rw[bg,h]
instance (sg:List Sg) (d:Dr) (t:Ty) [eG d]:eG (pq sg d t).2:=by
 unfold pq;dsimp only;split
 ·infer_instance
 ·split<;>infer_instance
instance (sg:List Sg) (d:Dr) (t:Ty) [eG d]:eG (gG sg d t).2:=by
 unfold gG;dsimp only;split<;>infer_instance
theorem abn (sg:List Sg) (d:Dr) (t:Ty) [eG d]:eG (fC sg d t).2/\∀x,(fC sg d t).1=some x->x.2.length<=3:=by
 unfold fC;dsimp only
 repeat' split
 all_goals exact⟨by infer_instance,fun x hx=>by first|(cases hx;done)|(obtain rfl:=Option.some.inj hx;simp)⟩
def ET:Nat->Nat
 |0=>1
 |n+1=>3*ET n+1
theorem abo:∀n,1<=ET n
 |0=>Nat.le_refl _
 |n+1=>by unfold ET;omega
theorem KF (sg:List Sg) (d:Dr) (t:Ty):(pq sg d t).1.length=1:=by
 unfold pq;dsimp only;split
 ·rfl
 ·split<;>rfl
theorem Tq {f:Dr->Ty->List Nd × Dr} {K:Nat} (h:∀d t,eG d->eG (f d t).2/\(f d t).1.length<=K):∀(ts:List Ty) (d:Dr),eG d->eG (kids f ts d).2/\(kids f ts d).1.flatten.length<=ts.length*K
 |[],d,hd=>⟨hd,Nat.le_of_eq (by simp[kids])⟩
 |t::r,d,hd=>by
  have h1:=h d t hd;have h2:=Tq h r _ h1.1;refine⟨h2.1,?_⟩;rw[kids,flatten_cons,length_append,length_cons,Nat.add_mul];omega
theorem zI (sg:List Sg):∀(n:Nat) (d:Dr) (t:Ty),eG d->eG (bg sg n d t).2/\(bg sg n d t).1.length<=ET n
 |0,d,t,hd=>⟨by unfold bg;infer_instance,by unfold bg;rw[KF];exact Nat.le_refl _⟩
 |n+1,d,t,hd=>by
  have hp:=abn sg d t;obtain⟨o,d'⟩:Option (Nd × List Ty) × Dr:=fC sg d t;cases hq:fC sg d t with
  |mk o d'=>
   rw[hq] at hp
   haveI:=hp.1
   cases o with
   |none=>rw[xB hq];exact⟨by infer_instance,by rw[KF];have:=abo (n+1);omega⟩
   |some x=>
    obtain⟨nd,ts⟩:=x;have h2:=Tq (fun d t h=>zI sg n d t h) ts d' hp.1;have h3:ts.length<=3:=hp.2 _ rfl;have h4:=Nat.mul_le_mul_right (ET n) h3;rw[jh hq,ET];exact⟨h2.1,by rw[length_append,length_singleton];omega⟩
instance (sg:List Sg) (n:Nat) (d:Dr) (t:Ty) [h:eG d]:eG (bg sg n d t).2:=(zI sg n d t h).1
theorem Tv {z:Int} (h:0<=z/\z<3):qj z=aV∨qj z=jy∨qj z=aJ:=by
 rcases (by omega:z=0∨z=1∨z=2) with rfl|rfl|rfl<;>simp[qj]
theorem pI.of {t:Ty} (h:t=aV∨t=jy∨t=aJ):pI t:=by rcases h with h|h|h<;>simp[pI,h]
theorem VY (sg:List Sg) (hs:sg.length<=900) (n:Nat) (hn:n<=1) (ih:∀(d:Dr) [eG d] (t:Ty),pI t->yw prog Ld 107 [some (.sl 5 (sg.map Sg.p)),none,some t.p,some (nP n)] d.cs (.sl 5 ((bg sg n d t).1.map Nd.p)) (bg sg n d t).2.cs)
  (d:Dr) [hd:eG d] (t:Ty) (ht:pI t):yw prog Ld 107 [some (.sl 5 (sg.map Sg.p)),none,some t.p,some (nP (n+1))] d.cs (.sl 5 ((bg sg (n+1) d t).1.map Nd.p)) (bg sg (n+1) d t).2.cs:=by
 have hc:ET n<=4:=by rcases (by omega:n=0∨n=1) with rfl|rfl<;>decide
 have hlen:=fun (d:Dr) [h:eG d] (t:Ty)=>Nat.le_trans (zI sg n d t h).2 hc
 have h0:¬((n:Int)+1<=0):=by omega
 have w0:IntKind.i64.wrap (n:Int)=(n:Int):=IntWalk.i64_in _ (by omega);refine yX func107 fun X=>?_
 refine run ?_;refine mM ?_;refine run ?_;refine aZ (fun hu=>?_) fun hu=>?_
 ·have hE:=xB (n:=n) (show fC sg d t=(none,d.go) by unfold fC;rw[if_pos hu]);rw[hE];have h1:=VU (Ld:=Ld) sg hs d.go t ht;refine run ?_;exact iy
 ·refine run ?_;refine bM (fun hv=>?_) fun hv=>?_
  ·obtain rfl:=ht.yes hv;have g1:=d.go.lt 5;have two:∀(nd:Nd) (D:Dr) [eG D] (u:Ty),PC prog Ld 163 [nd.p,.sl 1 ([(bg sg n D u).1,(bg sg n (bg sg n D u).2 u).1].map fun l=>.sl 5 (l.map Nd.p))] (·=.sl 5 (([(bg sg n D u).1,(bg sg n (bg sg n D u).2 u).1].flatten++[nd]).map Nd.p)):=fun nd D _ u=>wI (Ld:=Ld) nd _ (by simp) (by have:=hlen D u;have:=hlen (bg sg n D u).2 u;simp;omega)
   rcases (by omega:d.go.nx 5=0∨d.go.nx 5=1∨d.go.nx 5=2∨d.go.nx 5=3∨d.go.nx 5=4) with hz|hz|hz|hz|hz
   iterate 2
    have w1:=d.go.go.go.wr 16 2 (by decide);have g2:=d.go.go.lt 3;have hk:=Hr (Ld:=Ld) (d.go.go.nx 3) ⟨by omega,by omega⟩;rw[Int.emod_eq_of_lt g2.1 (by omega)] at hk;have hE:=jh (n:=n) (show fC sg d aB=(some (⟨16+d.go.go.go.nx 2,zR,nE⟩,[qj (d.go.go.nx 3),qj (d.go.go.nx 3)]),d.go.go.go.go) by unfold fC;rw[if_neg hu,if_pos hv];simp[hz]);have hT:=pI.of (Tv g2);generalize qj (d.go.go.nx 3)=u at*;have k1:=ih d.go.go.go.go u hT;have k2:=ih (bg sg n d.go.go.go.go u).2 u hT;have k3:=two ⟨16+d.go.go.go.nx 2,zR,nE⟩ d.go.go.go.go u;rw[hE];refine run ?_;exact iy
   ·have hE:=jh (n:=n) (show fC sg d aB=(some (⟨20,zR,nE⟩,[aB]),d.go.go) by unfold fC;rw[if_neg hu,if_pos hv];simp[hz]);have k1:=ih d.go.go aB ht;have k3:=wI (Ld:=Ld) ⟨20,zR,nE⟩ [(bg sg n d.go.go aB).1] (by simp) (by have:=hlen d.go.go aB;simp;omega);rw[hE];refine run ?_;exact iy
   ·have hE:=jh (n:=n) (show fC sg d aB=(some (⟨15,zR,nE⟩,[aB,aB,aB]),d.go.go) by unfold fC;rw[if_neg hu,if_pos hv];simp[hz]);have k1:=ih d.go.go aB ht;have k2:=ih (bg sg n d.go.go aB).2 aB ht;have k3:=ih (bg sg n (bg sg n d.go.go aB).2 aB).2 aB ht;have k4:=wI (Ld:=Ld) ⟨15,zR,nE⟩ [(bg sg n d.go.go aB).1,(bg sg n (bg sg n d.go.go aB).2 aB).1,(bg sg n (bg sg n (bg sg n d.go.go aB).2 aB).2 aB).1] (by simp) (by have:=hlen d.go.go aB;have:=hlen (bg sg n d.go.go aB).2 aB;have:=hlen (bg sg n (bg sg n d.go.go aB).2 aB).2 aB;simp;omega);rw[hE];refine run ?_;exact iy
   ·have w1:=d.go.go.wr 18 2 (by decide);have hE:=jh (n:=n) (show fC sg d aB=(some (⟨18+d.go.go.nx 2,zR,nE⟩,[aB,aB]),d.go.go.go) by unfold fC;rw[if_neg hu,if_pos hv];simp[hz]);have k1:=ih d.go.go.go aB ht;have k2:=ih (bg sg n d.go.go.go aB).2 aB ht;have k3:=two ⟨18+d.go.go.nx 2,zR,nE⟩ d.go.go.go aB;rw[hE];refine run ?_;exact iy
  ·have hp:pI aJ:=.inr (.inr (.inl rfl));have hT:pI aB:=.inr (.inr (.inr rfl));have g1:=d.go.lt 7;have two:∀(nd:Nd) (D:Dr) [eG D] (u v:Ty),PC prog Ld 163 [nd.p,.sl 1 ([(bg sg n D u).1,(bg sg n (bg sg n D u).2 v).1].map fun l=>.sl 5 (l.map Nd.p))] (·=.sl 5 (([(bg sg n D u).1,(bg sg n (bg sg n D u).2 v).1].flatten++[nd]).map Nd.p)):=fun nd D _ u v=>wI (Ld:=Ld) nd _ (by simp) (by have:=hlen D u;have:=hlen (bg sg n D u).2 v;simp;omega)
   rcases (by omega:d.go.nx 7=0∨d.go.nx 7=1∨d.go.nx 7=2∨d.go.nx 7=3∨d.go.nx 7=4∨d.go.nx 7=5∨d.go.nx 7=6) with hz|hz|hz|hz|hz|hz|hz
   iterate 2
    focus
     have g2:=d.go.go.lt 4;have hE:=jh (n:=n) (show fC sg d t=(some (⟨op4 (d.go.go.nx 4),zR,nE⟩,[t,t]),d.go.go.go) by unfold fC;rw[if_neg hu,hv];simp[hz]);have k1:=ih d.go.go.go t ht;have k2:=ih (bg sg n d.go.go.go t).2 t ht;have k3:=two ⟨op4 (d.go.go.nx 4),zR,nE⟩ d.go.go.go t t;have k4:=(LJ (Ld:=Ld) d.go.go 4).h;rw[hE];generalize d.go.go.nx 4=z at*;rcases (by omega:z=0∨z=1∨z=2∨z=3) with rfl|rfl|rfl|rfl
     all_goals
      refine run ?_;exact iy
   ·have hE:=jh (n:=n) (show fC sg d t=(some (⟨11,zR,nE⟩,[t,aJ]),d.go.go) by unfold fC;rw[if_neg hu,hv];simp[hz]);have k1:=ih d.go.go t ht;have k2:=ih (bg sg n d.go.go t).2 aJ hp;have k3:=two ⟨11,zR,nE⟩ d.go.go t aJ;rw[hE];refine run ?_;exact iy
   ·have hE:=jh (n:=n) (show fC sg d t=(some (⟨12,zR,nE⟩,[t,aJ]),d.go.go) by unfold fC;rw[if_neg hu,hv];simp[hz]);have k1:=ih d.go.go t ht;have k2:=ih (bg sg n d.go.go t).2 aJ hp;have k3:=two ⟨12,zR,nE⟩ d.go.go t aJ;rw[hE];refine run ?_;exact iy
   ·have hE:=jh (n:=n) (show fC sg d t=(some (⟨15,zR,nE⟩,[aB,t,t]),d.go.go) by unfold fC;rw[if_neg hu,hv];simp[hz]);have k1:=ih d.go.go aB hT;have k2:=ih (bg sg n d.go.go aB).2 t ht;have k3:=ih (bg sg n (bg sg n d.go.go aB).2 t).2 t ht;have k4:=wI (Ld:=Ld) ⟨15,zR,nE⟩ [(bg sg n d.go.go aB).1,(bg sg n (bg sg n d.go.go aB).2 t).1,(bg sg n (bg sg n (bg sg n d.go.go aB).2 t).2 t).1] (by simp) (by have:=hlen d.go.go aB;have:=hlen (bg sg n d.go.go aB).2 t;have:=hlen (bg sg n (bg sg n d.go.go aB).2 t).2 t;simp;omega);rw[hE];refine run ?_;exact iy
   ·have w1:=d.go.go.wr 21 3 (by decide);have hE:=jh (n:=n) (show fC sg d t=(some (⟨21+d.go.go.nx 3,xQ d.go.go.go 1,nE⟩,[t]),d.go.go.go.go.go) by unfold fC;rw[if_neg hu,hv];simp[hz]);have h1:=YU (Ld:=Ld) d.go.go.go 1 (by decide);have k1:=ih d.go.go.go.go.go t ht;have k3:=wI (Ld:=Ld) ⟨21+d.go.go.nx 3,xQ d.go.go.go 1,nE⟩ [(bg sg n d.go.go.go.go.go t).1] (by simp) (by have:=hlen d.go.go.go.go.go t;simp;omega);rw[hE];refine run ?_;exact iy
   ·have h1:=ag5 (Ld:=Ld) sg hs d.go.go t;have hE:fC sg d t=if (gG sg d.go.go t).1.2 then (some (⟨24,zR,(gG sg d.go.go t).1.1⟩,[t]),(gG sg d.go.go t).2) else (none,(gG sg d.go.go t).2):=by unfold fC;rw[if_neg hu,hv];simp[hz]
    haveI:eG (gG sg d.go.go t).2:=inferInstance
    generalize gG sg d.go.go t=z at*;obtain⟨⟨s,b⟩,D⟩:=z;dsimp only at h1 hE this;cases b
    ·rw[xB hE];have h2:=VU (Ld:=Ld) sg hs D t ht;refine run ?_;exact iy
    ·rw[jh (n:=n) hE];have k1:=ih D t ht;have k3:=wI (Ld:=Ld) ⟨24,zR,s⟩ [(bg sg n D t).1] (by simp) (by have:=hlen D t;simp;omega);refine run ?_;exact iy
theorem YW (sg:List Sg) (hs:sg.length<=900):∀(n:Nat),n<=2->∀(d:Dr) [eG d] (t:Ty),pI t->yw prog Ld 107 [some (.sl 5 (sg.map Sg.p)),none,some t.p,some (nP n)] d.cs (.sl 5 ((bg sg n d t).1.map Nd.p)) (bg sg n d t).2.cs
 |0,_,d,_,t,ht=>by
  have h1:=VU (Ld:=Ld) sg hs d t ht;refine yX func107 fun X=>?_
  refine run ?_;refine mM ?_;refine run ?_;exact iy
 |n+1,hn,d,_,t,ht=>VY sg hs n (by omega) (fun d _ t ht=>YW sg hs n (by omega) d t ht) d t ht
theorem aep (sg:List Sg) (hs:sg.length<=900) (t:Ty) (ht:pI t) (l:List Int) [eG ⟨l,0⟩]:PC prog Ld 52 [.sl 5 (sg.map Sg.p),t.p,.sl 1 (l.map iP)] (·=.sl 5 ((bg sg 2 ⟨l,0⟩ t).1.map Nd.p)):=by
 have h0:=YW (Ld:=Ld) sg hs 2 (by omega) ⟨l,0⟩ t ht;have h1:=Hr (Ld:=Ld) 0 ⟨by decide,by decide⟩;have h2:=Hr (Ld:=Ld) 1 ⟨by decide,by decide⟩;have h3:=Hr (Ld:=Ld) 2 ⟨by decide,by decide⟩;simp only[Int.reduceMod,qj,Int.reduceEq,if_true,if_false] at h1 h2 h3;generalize hq:bg sg 2 ⟨l,0⟩ t=q at*;dsimp only[aV,jy,aJ,Ty.p] at h1 h2 h3;rcases ht with rfl|rfl|rfl|rfl
 all_goals
  dsimp only[aV,jy,aJ,aB,Ty.p] at*;refine dh func52 fun X=>?_
  refine run ?_;refine mM ?_;refine run ?_;exact aF
end
section
set_option maxRecDepth 100000
set_option maxHeartbeats 0
variable {Ld:bU}
def zV:List ByteArray:=[⟨#[98,97,115,101]⟩,⟨#[97,103,101]⟩,⟨#[98,97,115,105,99]⟩,⟨#[111,116,104,101,114]⟩,⟨#[]⟩,⟨#[84,97,120]⟩,⟨#[116,97,120]⟩,⟨#[122,122,122,122,122,122,122,122,122,122,122,122,122,122,122,122,122,122,122,122,122]⟩]
def jX (l:Lw) (m i f r k:Nat) (nm:ByteArray) (b c:Int) (p:Pv):Lw:=match m with
 |0=>{l with ay:=l.ay.take i++l.ay.drop (i+1)}
 |1=>{l with facts:=l.facts.take f++l.facts.drop (f+1)}
 |2=>{l with ay:=l.ay.set i {p with name:=nm}}
 |3=>{l with facts:=l.facts.modify f fun d=>{d with name:=nm}}
 |4=>{l with aH:=l.aH.modify r fun s=>{s with name:=nm}}
 |5=>{l with ay:=l.ay.set i {p with ty:=qj (c % 5)}}
 |6=>{l with ay:=l.ay.set i {p with fH:= !p.fH}}
 |7=>{l with ay:=l.ay.set i {p with step:=je (c.tmod 7) 2}}
 |8=>{l with ay:=l.ay.set i {p with step:=je 1 2,cap:=je (c % 420) 4}}
 |9=>{l with facts:=l.facts.modify f fun d=>{d with ty:=⟨decide (c.tmod 2=0),c.tmod 5,b.tmod 5⟩}}
 |10=>{l with aH:=l.aH.modify r fun s=>{s with aA:=c.tmod 5,days:=b.tmod 5}}
 |11=>{l with aH:=l.aH.modify r fun s=>{s with bJ:=[]}}
 |12=>{l with ay:=(l.ay.set i (l.ay.getD k p)).set k p}
 |_=>l
def broken (l:Lw) (a b c:Int):Lw:=
 jX l (a % 14).toNat (b % l.ay.length).toNat (b % l.facts.length).toNat (b % l.aH.length).toNat (c % l.ay.length).toNat (zV.getD (c % 8).toNat ⟨#[]⟩) b c (l.ay.getD (b % l.ay.length).toNat ⟨⟨#[]⟩,aJ,false,zR,zR,[]⟩)
theorem sN {b:Int} {n:Nat} (hb:I64 b) (h0:0<n) (h1:n<=1000):∃k:Nat,k<n/\(b % (n:Int)).toNat=k/\PC prog Ld 12 [iP b,iP n] (·=nP k):=by
 have h2:=Int.emod_nonneg b (show (n:Int)≠0 by omega);have h3:=Int.emod_lt_of_pos b (show (0:Int)<n by omega);refine⟨(b % (n:Int)).toNat,by omega,rfl,?_⟩;have:=abk (Ld:=Ld) b n hb (by omega) (by omega);rwa[<-Int.toNat_of_nonneg h2] at this
theorem yM {α:Type} {l:List α} {i:Nat} {f:α->α} (h:i<l.length):l.modify i f=l.set i (f l[i]):=by
 apply ext_getElem (by simp);intro j h1 h2;by_cases hj:i=j
 ·subst hj;simp
 ·simp[getElem_modify,hj]
theorem aeM (l:Lw) (hl:BU l) (h1:0<l.facts.length) (h2:0<l.aH.length) (h3:0<l.ay.length) (a b c:Int) (ha:I64 a) (hb:I64 b) (hc:I64 c):PC prog Ld 8 [l.p,.ag [iP a,iP b,iP c]] (·=(broken l a b c).p):=by
 obtain⟨b1,b2,b3⟩:=hl;obtain⟨i,hi,ei,ci⟩:=sN (Ld:=Ld) hb h3 (by omega);obtain⟨f,hf,ef,cf⟩:=sN (Ld:=Ld) hb h1 (by omega);obtain⟨r,hr,er,cr⟩:=sN (Ld:=Ld) hb h2 (by omega);obtain⟨k,hk,ek,ck⟩:=sN (Ld:=Ld) hc h3 (by omega);obtain⟨n,hn,en,cn⟩:=sN (Ld:=Ld) (n:=8) hc (by omega) (by omega);obtain⟨m,hm,em,cm⟩:=sN (Ld:=Ld) (n:=14) ha (by omega) (by omega);obtain⟨t,ht,et,ct⟩:=sN (Ld:=Ld) (n:=420) hc (by omega) (by omega);have em:(a % 14).toNat=m:=em;have en:(c % 8).toNat=n:=en;have et:c % 420=(t:Int):=by rw[<-et];exact (Int.toNat_of_nonneg (Int.emod_nonneg c (by decide))).symm
 have hn8:n<zV.length:=hn;obtain⟨nm,hnm⟩:∃nm,(zV.map sP)[n]?=some (sP nm)/\zV.getD n ⟨#[]⟩=nm:=⟨zV[n],by rw[getElem?_map,getElem?_eq_getElem hn8];rfl,by rw[getD_eq_getElem?_getD,getElem?_eq_getElem hn8];rfl⟩
 clear hn8
 have hB:broken l a b c=jX l m i f r k nm b c l.ay[i]:=by
  unfold broken;rw[ei,ef,er,ek,em,en,hnm.2,getD_eq_getElem?_getD,getElem?_eq_getElem hi];rfl
 have hnm:=hnm.1;clear ei ef er ek em en;have g5:=Hr (Ld:=Ld) c hc
 have hz:=fun (z:Int) (h:I64 z) (y:Int) (hy:0<y/\y<=10)=>show IntKind.i64.wrap (z.tmod y)=z.tmod y/\-y<z.tmod y/\z.tmod y<y from by
  have h2:=Int.emod_nonneg z (show y≠0 by omega);have h3:=Int.emod_lt_of_pos z hy.1;have h4:=vw z y hy.1;have h5:=Int.lt_tmod_of_pos z hy.1;exact⟨IntWalk.i64_in _ (by omega),by omega⟩
 obtain⟨z1,z2,z3⟩:=hz c hc 7 (by decide);obtain⟨z4,_⟩:=hz c hc 5 (by decide);obtain⟨z5,_⟩:=hz b hb 5 (by decide);obtain⟨z6,_⟩:=hz c hc 2 (by decide);have q1:=qh (Ld:=Ld) (c.tmod 7) 2 (by omega) (by decide);have q2:=qh (Ld:=Ld) 1 2 (by decide) (by decide);have q3:=qh (Ld:=Ld) (t:Int) 4 (by omega) (by decide);clear hz z2 z3;rcases (by omega:m=0∨m=1∨m=2∨m=3∨m=4∨m=5∨m=6∨m=7∨m=8∨m=9∨m=10∨m=11∨m=12∨m=13) with rfl|rfl|rfl|rfl|rfl|rfl|rfl|rfl|rfl|rfl|rfl|rfl|rfl|rfl
 ·have x1:Lx 11:=⟨⟩;have x2:Lx 16:=⟨⟩;have x3:Lo 21:=⟨⟩;have x4:Lo 59:=⟨⟩
  have w:IntKind.i64.wrap ((i:Int)+1)=((i+1:Nat):Int):=by rw[IntWalk.i64_in _ (by omega)];omega
  refine wY func8 fun X=>?_
  refine run ?_;exact oq (.step 16 (.step 11 (.refl _))) (hr:=by rw[hB];simp[jX,take_of_length_le])
 ·have x1:Lo 11:=⟨⟩;have x2:Lx 16:=⟨⟩;have x3:Lx 21:=⟨⟩;have x4:Lo 74:=⟨⟩
  have w:IntKind.i64.wrap ((f:Int)+1)=((f+1:Nat):Int):=by rw[IntWalk.i64_in _ (by omega)];omega
  refine wY func8 fun X=>?_
  refine run ?_;exact oq (.step 21 (.step 16 (.refl _))) (hr:=by rw[hB];simp[jX,take_of_length_le])
 ·have x1:Lx 11:=⟨⟩;have x2:Lx 16:=⟨⟩;have x3:Lx 21:=⟨⟩
  refine wY func8 fun X=>?_
  refine run ?_;exact oq ((.step 21 (.step 16 (.step 11 (.refl _))))) (hr:=by rw[hB];simp only[jX,Lw.p,map_set,nil_append];rfl)
 ·have x1:Lx 11:=⟨⟩;have x2:Lx 16:=⟨⟩;have x3:Lx 21:=⟨⟩
  refine wY func8 fun X=>?_
  refine run ?_;exact oq ((.step 21 (.step 16 (.step 11 (.refl _))))) (hr:=by rw[hB];simp only[jX,Lw.p,yM hf,map_set,nil_append];rfl)
 ·have x1:Lx 11:=⟨⟩;have x2:Lx 16:=⟨⟩;have x3:Lx 21:=⟨⟩
  refine wY func8 fun X=>?_
  refine run ?_;exact oq ((.step 21 (.step 16 (.step 11 (.refl _))))) (hr:=by rw[hB];simp only[jX,Lw.p,yM hr,map_set,nil_append];rfl)
 ·have x1:Lx 11:=⟨⟩;have x2:Lx 16:=⟨⟩;have x3:Lx 21:=⟨⟩
  refine wY func8 fun X=>?_
  refine run ?_;exact oq ((.step 21 (.step 16 (.step 11 (.refl _))))) (hr:=by rw[hB];simp only[jX,Lw.p,map_set,nil_append];rfl)
 ·have x1:Lx 11:=⟨⟩;have x2:Lx 16:=⟨⟩;have x3:Lx 21:=⟨⟩
  refine wY func8 fun X=>?_
  refine run ?_;exact oq ((.step 21 (.step 16 (.step 11 (.refl _))))) (hr:=by rw[hB];simp only[jX,Lw.p,map_set,nil_append];rfl)
 ·have x1:Lx 11:=⟨⟩;have x2:Lx 16:=⟨⟩;have x3:Lx 21:=⟨⟩
  refine wY func8 fun X=>?_
  refine run ?_;exact oq ((.step 21 (.step 16 (.step 11 (.refl _))))) (hr:=by rw[hB];simp only[jX,Lw.p,map_set,nil_append];rfl)
 ·have x1:Lx 11:=⟨⟩;have x2:Lx 16:=⟨⟩;have x3:Lx 21:=⟨⟩
  refine wY func8 fun X=>?_
  refine run ?_;exact oq ((.step 21 (.step 16 (.step 11 (.refl _))))) (hr:=by rw[hB];simp only[jX,Lw.p,et,map_set,nil_append];rfl)
 ·have x1:Lx 11:=⟨⟩;have x2:Lx 16:=⟨⟩;have x3:Lx 21:=⟨⟩
  refine wY func8 fun X=>?_
  refine run ?_;exact oq ((.step 21 (.step 16 (.step 11 (.refl _))))) (hr:=by rw[hB];simp only[jX,Lw.p,yM hf,map_set,nil_append];rfl)
 ·have x1:Lx 11:=⟨⟩;have x2:Lx 16:=⟨⟩;have x3:Lx 21:=⟨⟩
  refine wY func8 fun X=>?_
  refine run ?_;exact oq ((.step 21 (.step 16 (.step 11 (.refl _))))) (hr:=by rw[hB];simp only[jX,Lw.p,yM hr,map_set,nil_append];rfl)
 ·have x1:Lx 11:=⟨⟩;have x2:Lx 16:=⟨⟩;have x3:Lx 21:=⟨⟩
  refine wY func8 fun X=>?_
  refine run ?_;exact oq ((.step 21 (.step 16 (.step 11 (.refl _))))) (hr:=by rw[hB];simp only[jX,Lw.p,yM hr,map_set,nil_append];rfl)
 ·have x1:Lx 11:=⟨⟩;have x2:Lx 16:=⟨⟩;have x3:Lx 21:=⟨⟩
  by_cases hik:i=k
  all_goals
   try subst hik
   refine wY func8 fun X=>?_
   refine run ?_;exact oq ((.step 21 (.step 16 (.step 11 (.refl _))))) (hr:=by rw[hB];simp only[jX,Lw.p,getD_eq_getElem?_getD,getElem?_eq_getElem hk,Option.getD_some,map_set,nil_append];rfl)
 ·have x1:Lx 11:=⟨⟩;have x2:Lx 16:=⟨⟩;have x3:Lx 21:=⟨⟩
  refine wY func8 fun X=>?_
  refine run ?_;exact oq ((.step 21 (.step 16 (.step 11 (.refl _))))) (hr:=by rw[hB];rfl)
end
theorem Tz {l:List Sg} {op:Int} {nm:ByteArray} {t:Ty} (h:kX l op nm=some t):iK op=true/\dZ l ⟨op,zR,nm⟩=some t:=by
 have h1:=IW l ⟨op,zR,nm⟩;simp only at h1;rw[h] at h1;by_cases hb:iK op=true
 ·rw[if_pos hb] at h1;exact⟨hb,h1.symm⟩
 ·rw[if_neg hb] at h1;cases h1
theorem ag6 {l:List Sg} {op:Int} {nm:ByteArray} {t:Ty} (hn:bY nm=true) (Nk:¬op=24) (h:kX l op nm=some t):TE l t [⟨op,zR,nm⟩]:=by
 obtain⟨h1,h2⟩:=Tz h;refine TE.eH ?_ hn h2;unfold iK at h1;rw[Bool.or_eq_true,decide_eq_true_eq,decide_eq_true_eq] at h1;exact h1.resolve_right Nk
theorem YX (sg:List Sg) (d:Dr) {t:Ty} (ht:t=aV∨t=jy∨t=aJ):TE sg t (Ht d t):=by
 have h:=KC d (-8) (by omega);rcases ht with rfl|rfl|rfl
 ·exact TE.lit (op:=1) (by omega) h rfl
 ·exact TE.lit (op:=2) (by omega) h rfl
 ·exact TE.lit (op:=3) (by omega) h rfl
theorem O5 {sg:List Sg} (hn:∀s∈sg,bY s.name=true) (d:Dr) {t:Ty} (ht:pI t):TE sg t (pq sg d t).1:=by
 unfold pq;dsimp only
 split
 ·next h=>
  obtain⟨s,hs,he⟩:=mem_map.1 (getElem_mem h);rw[<-he];obtain⟨h1,h2⟩:=mem_filter.1 hs;unfold Tj at h2;simp only[Bool.and_eq_true,Bool.not_eq_true',decide_eq_false_iff_not,decide_eq_true_eq] at h2;obtain⟨h3,h4,h5⟩:=h2;cases hq:kX sg s.op s.name with
  |none=>rw[hq] at h3;cases h3
  |some u=>rw[hq] at h5;exact ag6 (hn s h1) h4 (by rw[hq];exact congrArg some h5)
 ·split
  ·next _ h=>
   rw[ht.yes h];have:=d.go.lt 2;exact TE.tru (by rcases (by omega:d.go.nx 2=0∨d.go.nx 2=1) with h|h<;>rw[h]<;>simp)
  ·next _ h=>exact YX sg d.go (ht.no (by simpa using h))
theorem abp {sg:List Sg} (hn:∀s∈sg,bY s.name=true) {d:Dr} {t:Ty} (h:(gG sg d t).1.2=true):bY (gG sg d t).1.1=true/\dZ sg ⟨24,zR,(gG sg d t).1.1⟩=some t:=by
 unfold gG at h⊢;dsimp only at h⊢;split
 ·next hz=>
  obtain⟨s,hs,he⟩:=mem_map.1 (getElem_mem hz);obtain⟨h1,h2⟩:=mem_filter.1 hs;unfold Tn at h2;simp only[Bool.and_eq_true,decide_eq_true_eq] at h2;obtain⟨h3,h4,h5⟩:=h2;dsimp only
  rw[<-he];refine⟨hn s h1,?_⟩;cases hq:kX sg 24 s.name with
  |none=>rw[hq] at h3;cases h3
  |some u=>rw[hq] at h5;rw[(Tz hq).2];exact congrArg some h5
 ·next hz=>rw[dif_neg hz] at h;cases h
theorem aer {sg:List Sg} (hn:∀s∈sg,bY s.name=true) {d d':Dr} {t:Ty} {nd:Nd} {ts:List Ty} (h:fC sg d t=(some (nd,ts),d')) (ht:pI t) {f:Dr->Ty->List Nd × Dr} (ih:∀d u,pI u->TE sg u (f d u).1):TE sg t ((kids f ts d').1.flatten++[nd]):=by
 unfold fC at h;dsimp only at h;by_cases h0:d.nx 5=0
 ·rw[if_pos h0] at h;cases h
 rw[if_neg h0] at h;cases hv:t.truth
 ·rw[hv,if_neg (by simp)] at h;have hu:dU t.aA t.days=true:=by rcases ht.no hv with rfl|rfl|rfl<;>decide
  have hp:pI aJ:=.inr (.inr (.inl rfl));split at h
  ·have:=d.go.go.lt 4;cases h;exact TE.sum (by unfold op4;rcases (by omega:d.go.go.nx 4=0∨d.go.go.nx 4=1∨d.go.go.nx 4=2∨d.go.go.nx 4=3) with h|h|h|h<;>rw[h]<;>decide) hv (ih _ _ ht) (ih _ _ ht)
  split at h
  ·cases h;exact TE.mul (.inl rfl) hv hu (ih _ _ ht) (ih _ _ hp)
  split at h
  ·cases h;exact TE.mul (.inr rfl) hv hu (ih _ _ ht) (ih _ _ hp)
  split at h
  ·cases h;exact TE.cond (ih _ _ (.inr (.inr (.inr rfl)))) (ih _ _ ht) (ih _ _ ht)
  split at h
  ·have:=d.go.go.lt 3;have g1:=d.go.go.go.lt 40;have g2:=I5 (d.go.go.go.go.nx 4)
   have hpos:0<dD (xQ d.go.go.go 1):=by
    unfold xQ EP;obtain⟨k,hk⟩:∃k:Nat,d.go.go.go.nx 40=(k:Int):=⟨_,(Int.toNat_of_nonneg g1.1).symm⟩
    rw[hk,Int.add_comm];refine YS ⟨k,by omega⟩ _ ?_;split<;>(try split)<;>simp
   cases h;exact TE.fQ (by omega) (KC _ 1 (by omega)) hpos hv (ih _ _ ht)
  split at h
  ·next _ _ _ _ _ hr=>
   obtain⟨h1,h2⟩:=abp hn hr;cases h;exact TE.rate h1 h2 (ih _ _ ht)
  ·cases h
 ·obtain rfl:=ht.yes hv;rw[hv,if_pos rfl] at h;split at h
  ·have g:=d.go.go.lt 3;have:=d.go.go.go.lt 2;have hk:=Tv g;cases h;exact TE.cmp (by omega) (by rcases hk with h|h|h<;>rw[h]<;>rfl) (ih _ _ (.of hk)) (ih _ _ (.of hk))
  split at h
  ·cases h;exact TE.not (ih _ _ ht)
  split at h
  ·cases h;exact TE.cond (ih _ _ ht) (ih _ _ ht) (ih _ _ ht)
  ·have:=d.go.go.lt 2;cases h;exact TE.and (by omega) (ih _ _ ht) (ih _ _ ht)
theorem O6 {sg:List Sg} (hn:∀s∈sg,bY s.name=true):∀(n:Nat) (d:Dr) (t:Ty),pI t->TE sg t (bg sg n d t).1
 |0,d,t,ht=>O5 hn d ht
 |n+1,d,t,ht=>by
  cases hq:fC sg d t with
  |mk o d'=>
   cases o with
   |none=>rw[xB hq];exact O5 hn d' ht
   |some x=>
    obtain⟨nd,ts⟩:=x;rw[jh hq];exact aer hn hq ht fun d u hu=>O6 hn n d u hu
structure SX (W wr:World) (v:Value) (m:Nat) (ns:List Sg):Prop where
 o:wr.ownsRow W.heap.size 67 5 v ns.length (D7 ns)
 l:ns.length<=m
 b:Below W.heap.size W wr
theorem SX.push {W w1 w':World} {v v':Value} {m m':Nat} {ns:List Sg} (h:SX W w1 v m ns) (g:Sg) (ho:w'.ownsRow W.heap.size 67 5 v' (ns.length+1) (D7 ns++g.cells)) (hb:Below W.heap.size W w') (hm:m+1=m'):SX W w' v' m' (ns++[g]):=
 ⟨by rw[VN,length_append];exact ho,by have:=h.l;rw[length_append,length_singleton];omega,hb⟩
theorem SX.below {W w1 w':World} {v:Value} {m:Nat} {ns:List Sg} (h:SX W w1 v m ns) (hb:Below w1.heap.size w1 w'):SX W w' v m ns:=⟨own_below h.o hb,h.l,ah h.b hb⟩
structure IR (w:World) (u:Nat) (r:List Int × Hd):Prop where
 len:r.2.n=r.1.length
 cap:r.2.n<=r.2.c
 max:r.2.c<=maxLen
 rd:Rd w r.2.a (zvs r.1)
 rng:∀x∈r.1,-9223372036854775808<=x/\x<=9223372036854775807
 lt:r.1≠[]->∀ad,r.2.a=some ad->ad.block<u
def V5 (r:List Int × Hd):List Value:=[.slice r.2.a r.2.n r.2.c]
theorem IR.below {w w':World} {u:Nat} {r:List Int × Hd} (h:IR w u r) (hb:Below w.heap.size w w'):IR w' u r:=⟨h.len,h.cap,h.max,h.rd.below hb,h.rng,h.lt⟩
end Go.Proofs.YtjpbmbgincdjaaaGreatDoor
