/- Part: Ev Kb Je Kc U0 U1 U2 U7 Yc Jf Jg Jm Q0 Tf. -/
import Derived.Test.YtjpbmbgincdjaaaGreatDoorK26
import Derived.Test.YtjpbmbgincdjaaaGreatDoorK30
set_option linter.all false
set_option maxRecDepth 100000
set_option maxHeartbeats 0
namespace Go.Proofs.YtjpbmbgincdjaaaGreatDoor
open Go.RowKit List World Tryz
theorem QF (a b:Nat) (w:World):
  CallsD prog 199 #[.pointer (some ⟨a,0,none⟩),.pointer (some ⟨b,0,none⟩)] .returning w fun e u' w'=>e=.returned (.tuple #[])/\u'=.returning/\w'=w:=by
 refine callsD_of_wpS func199 rfl fun c₀ cs hu=>?_
 apply wpS_seq;apply wpS_region;simp[wpOpsS,go_sem,recoverD,hu,ntmps199,Exit.thenS];refine wpS_of_wp ?_;go_wp2;cases c₀
 simp_all [bodyPostS,results,results199]
theorem zu {w:World} {A:Option Addr} {cs:List Value} (h:Rd w A cs) (p:Addr) (u:Value) (hne:∀ad,A=some ad->ad.block≠p.block):Rd (w.setCell p u) A cs:=by
 rcases h with rfl|⟨b,off,rfl,hb,hc⟩
 ·exact .inl rfl
 ·refine .inr ⟨b,off,rfl,by simpa [World.setCell] using hb,fun i hi=>?_⟩;rw[<-hc i hi];exact cell?_of_block (Below.heap_setCell w p u b (hne _ rfl))
theorem xu {w:World} {b b':Nat} {e:TypeId} {sz:Nat} {v:Value} {n:Nat} {xs:List Value} (h:w.ownsRow b e sz v n xs) (hb:b'<=b):w.ownsRow b' e sz v n xs:=by
 refine⟨h.1,h.2.imp id ?_⟩;rintro⟨g,cap,cur,h1,h2,h3⟩;exact⟨g,cap,cur,h1,Nat.le_trans hb h2,h3⟩
theorem OM {w:World} {b R:Nat} {e:TypeId} {sz:Nat} {v:Value} {n:Nat} {xs:List Value} (h:w.ownsRow b e sz v n xs) (hR:R<b) (i:Nat) (u:Value):(w.setCell ⟨R,i,none⟩ u).ownsRow b e sz v n xs:=by
 refine⟨h.1,h.2.imp id ?_⟩;rintro⟨g,cap,cur,h1,h2,h3,h4⟩;exact⟨g,cap,cur,h1,h2,(Below.heap_setCell w _ u g (by show g≠R;omega)).trans h3,h4⟩
def OO (r:List Nd × Int) (w:World) (e:Ending) (w':World):Prop:=∃A n c,e=.returned (.tuple #[.slice A n c,.int .i64 r.2])/\Es w' r.1 A n c/\Below w.heap.size w w'/\w'.ownsRow w.heap.size 104 5 (.slice A n c) n (mW r.1)
theorem VB (s:List UInt8) (w:World) (hL:eX w) (hs:s.length<=1048576) (r:List UInt8) (ns:List Nd) (b:Nat) (hp:nY 61 s [] 0=some (r,ns,b)) (hz:aX ns=0) (ht:textE ns=s):Calls prog 147 #[.string ⟨s.toArray⟩] w (OO (ns,0) w):=by
 have hmf:∀(fn:Fn) (first cap:Array Value) (w:World),(Instr.makeFunc fn first cap).run prog w=.ok (.func fn first cap) w:=fun _ _ _ _=>rfl
 obtain⟨W,hW⟩:=zE (((w.alloc (.cells #[.slice none 0 0] 54)).alloc (.cells #[.int .i64 0] 33)).alloc (.cells #[.string ⟨s.toArray⟩,.slice none 0 0,.int .i64 0] 246));have rD:=Three.new w 54 33 246 #[.slice none 0 0] #[.int .i64 0] #[.string ⟨s.toArray⟩,.slice none 0 0,.int .i64 0];rw[<-hW] at rD;obtain⟨hk0,hk1,hk2,hba,hsz⟩:=rD;obtain⟨B,hB⟩:=zE w.heap.size;have HB:=zH hB;rw[<-hB] at hba hsz hk0 hk1 hk2;have HE:=zH (aa6 w hL (B+2) (by rw[HB.out];omega) 61 s [] 0 (.slice none 0 0) W (by rw[<-HB.out];exact hba) hk2 (ownsRow_nil _ _ _ _) hs (Nat.le_refl _) (by omega) (by omega));rw[hp] at HE;have HF:=zH (YF 61 s [] 0 _ hp hs (fun n h=>by cases h)).2;have kW:=zH hk0;have jl:=zH hk1;have bZ:=zH hba;have HL:=zH hL;clear hk0 hk1 hk2 hba hL hs hp;have HTS:Hid ((⟨(textE ns).toArray⟩:ByteArray)=⟨s.toArray⟩):=by show _=_;rw[ht]
 clear ht;generalize (⟨s.toArray⟩:ByteArray)=SS at*
 go_enter_defers func147,ntmps147
 go_wp2_with fail;simp only[<-hW,<-hB]
 clear hW hB;refine HE.out.mono ?_;rintro e w5 ⟨rfl,v5,hk5,hown5,VD⟩;have RJ:Below B w w5:=bZ.out.trans (VD.below (ownsRow_nil W (B+2+1) 104 5) (by omega) (by omega));have hk0:=VD.blk kW.out (by omega) (by intro h;cases h);have hk1:=VD.blk jl.out (by omega) (by intro h;cases h);obtain⟨A5,cap5,rfl,Rw,hm5,hr5,_⟩:=dK hown5;have hL5:eX w5:=HL.out.below (by rw[<-HB.out];exact RJ);have hEs:Es w5 ns A5 ns.length cap5:=⟨rfl,Rw,hm5,hr5⟩
 have oK:=zH (Ku ns A5 ns.length cap5 w5 hL5 hEs HF.out);unfold Dk at oK;simp only[hz,if_true] at oK;rw[HTS.out] at oK
 have hne5:∀ad,A5=some ad->B+3<=ad.block:=by
  obtain⟨A',c',hv,_,_,_,h4⟩:=yj hown5;injection hv with e1 e2 e3;rw[e1];exact h4
 have Ai:=zH hne5;have HOW:=zH hown5;have OQ:=zH hk0;have VE:=zH hk1;have rG:=zH hk5;have HES:=zH hEs;have ku:=zH RJ;have hcp:=hk5.cells;clear hk0 hk1 hk5 Rw hm5 hr5 hL5 hEs RJ hown5 VD;go_wp2_with fail;refine oK.out.mono ?_;rintro e w6 ⟨rfl,hb6⟩;have hk0:=OQ.out.below hb6 OQ.out.lt;have hk1:=VE.out.below hb6 VE.out.lt;have hk5:=rG.out.below hb6 rG.out.lt;have hc0:w6.cell? ⟨B,0,none⟩=some (.slice none 0 0):=hk0.cells 0;have hc1:w6.cell? ⟨B+1,0,none⟩=some (.int .i64 0):=hk1.cells 0;have hf0:=hk0.bH;have hf1:=hk1.bH;have hc5:=hk5.cells
 have iY:Hid (∀u v,Below w.heap.size w ((w6.setCell ⟨B,0,none⟩ u).setCell ⟨B+1,0,none⟩ v)):=fun u v=>by
  have h1:Below B w w6:=ku.out.trans (hb6.mono (by have:=OQ.out.lt;omega));rw[<-HB.out];exact (h1.setCell (p:=⟨B,0,none⟩) (Nat.le_refl _) u).setCell (p:=⟨B+1,0,none⟩) (by show B<=B+1;omega) v
 have aa7:=zH (HES.out.below hb6);have al9:=zH (own_below HOW.out hb6);have HGB:Hid (∀b,b<B->True):=fun _ _=>trivial
 clear hb6 hcp hk0 hk1 hk5;go_wp2;refine leaves_cons (f:=199) (args:=#[.pointer (some ⟨B,0,none⟩),.pointer (some ⟨B+1,0,none⟩)]) (by simp) (by simp[go_sem]) ?_;refine (QF B (B+1) _).mono ?_;rintro e u' w7 ⟨rfl,rfl,rfl⟩
 have hd0:((w6.setCell ⟨B,0,none⟩ (.slice A5 ns.length cap5)).setCell ⟨B+1,0,none⟩ (.int .i64 0)).cell? ⟨B,0,none⟩=some (.slice A5 ns.length cap5):=by
  rw[cell?_setCell_other _ _ _ _ (by simp)];exact cell?_setCell_same' _ _ _ (by rw[hc0];rfl)
 have hd1:((w6.setCell ⟨B,0,none⟩ (.slice A5 ns.length cap5)).setCell ⟨B+1,0,none⟩ (.int .i64 0)).cell? ⟨B+1,0,none⟩=some (.int .i64 0):=
  cell?_setCell_same' _ _ _ (by rw[cell?_setCell_other _ _ _ _ (by simp),hc1];rfl)
 simp[Leaves,settle,results,results147,go_sem,hd0,hd1];refine⟨A5,ns.length,cap5,rfl,⟨rfl,aa7.out.cap,aa7.out.max,?_⟩,iY.out _ _,xu (OM (OM al9.out (by omega) 0 _) (by omega) 0 _) (by have h2:=HB.out;omega)⟩;exact zu (zu aa7.out.rd ⟨B,0,none⟩ _ (fun ad h=>by have:=Ai.out ad h;show ad.block≠B;omega)) ⟨B+1,0,none⟩ _ (fun ad h=>by have:=Ai.out ad h;show ad.block≠B+1;omega)
def G6 (s:List UInt8):List Nd × Int:=match Yn s with
 |some e=>(e,0)
 |none=>([],11)
theorem VF (s:List UInt8) (e:List Nd) (w:World) (hL:eX w) (hs:s.length<=1048576) (hp:G6 s=(e,0)):Calls prog 147 #[.string ⟨s.toArray⟩] w (OO (e,0) w):=by
 unfold G6 Yn at hp;cases hq:nY 61 s [] 0 with
 |none=>rw[hq] at hp;simp at hp
 |some q=>
  obtain⟨r,ns,b⟩:=q;rw[hq] at hp;simp only[Option.bind_some] at hp;by_cases h:aX ns=0/\textE ns=s
  ·rw[if_pos h] at hp;have e1:ns=e:=(Prod.mk.inj hp).1;rw[<-e1];exact VB s w hL hs r ns b hq h.1 h.2
  ·rw[if_neg h] at hp;simp at hp
theorem Keeps.lJ {B lo:Nat} {w W:World} (h:bW B w W) (hl:B<lo):Keeps lo w W:=⟨h.size,fun b h1 h2=>h.block b h2 (by omega)⟩
theorem bW.more {G:Nat} {a w w':World} (h:bW G a w) (hb:Below a.heap.size w w'):bW G a w':=
 ⟨hb.os.trans h.os,hb.tape.trans h.tape,hb.output.trans h.output,Nat.le_trans h.size hb.size,fun k hk hne=>(hb.block k hk).trans (h.block k hk hne)⟩
theorem bW.grown {G:Nat} {a w:World} (h:bW G a w):a.grownBy w (some G):=⟨h.os,h.tape,h.output,h.size,fun k hk hne=>h.block k hk (fun e=>hne (by rw[e]))⟩
theorem SQ:(prog.info? 51).map (fun i=>(i.zero,i.size,i.bytes))=some (some (.agg #[.bool false,.int .i64 0,.int .i64 0]),3,24):=by kernel_rfl
theorem G7 (a b:List Ty):tys (a++b)=tys a++tys b:=flatMap_append
theorem aa8 (op:Int):(aG op).ops<=3:=by
 unfold aG;rw[getD_eq_getElem?_getD];rcases Nat.lt_or_ge op.toNat iV.length with h|h
 ·rw[getElem?_eq_getElem h];exact (by decide:∀s∈iV,s.ops<=3) _ (getElem_mem h)
 ·rw[getElem?_eq_none h];decide
theorem Ec (z:Int) (w wx:World) (B:Nat) (tm:Array Value) (v v':Value) (hk0:aj wx B 191 [v]) (hk1:aj wx (B+1) 33 [v']) (hB:B=w.heap.size) (hbe:Below w.heap.size w wx)
  (h4:tm[4]?=some (.pointer (some ⟨B,0,none⟩))) (h5:tm[5]?=some (.pointer (some ⟨B+1,0,none⟩))):
  bodyPostD prog Tryz.f132 (uz ([],z) w) (Exit.panic (y9 z)) {tmps:=tm,defers:=[{target:=.fn (.func 181) #[.pointer (some ⟨B,0,none⟩),.pointer (some ⟨B+1,0,none⟩)],args:=#[]}]} wx:=by
 have hc0:wx.cell? ⟨B,0,none⟩=some v:=hk0.cells 0;have hc1:wx.cell? ⟨B+1,0,none⟩=some v':=hk1.cells 0;unfold y9;refine leaves_cons (f:=181) (args:=#[.pointer (some ⟨B,0,none⟩),.pointer (some ⟨B+1,0,none⟩)]) (by simp) (by simp[go_sem]) ?_;refine (EN B (B+1) z _ _ [] wx hc0 hc1 (hk0.bH 0) (hk1.bH 0) (by omega) (by omega)).mono ?_;rintro e u' w6 ⟨rfl,rfl,rfl⟩
 have hd0:((wx.setCell ⟨B,0,none⟩ (.slice none 0 0)).setCell ⟨B+1,0,none⟩ (.int .i64 z)).cell? ⟨B,0,none⟩=some (.slice none 0 0):=by
  rw[cell?_setCell_other _ _ _ _ (by simp)];exact cell?_setCell_same' _ _ _ (by rw[hc0];rfl)
 have hd1:((wx.setCell ⟨B,0,none⟩ (.slice none 0 0)).setCell ⟨B+1,0,none⟩ (.int .i64 z)).cell? ⟨B+1,0,none⟩=some (.int .i64 z):=
  cell?_setCell_same' _ _ _ (by rw[cell?_setCell_other _ _ _ _ (by simp),hc1];rfl)
 simp[Leaves,settle,results,results132,go_sem,hd0,hd1,h4,h5];exact uz.bad ((hbe.setCell (p:=⟨B,0,none⟩) (by show _<=B;omega) _).setCell (p:=⟨B+1,0,none⟩) (by show _<=B+1;omega) _)
theorem YG (sg:List Sg) (es:List Nd) (A1 A2:Option Addr) (k1 c1 l2 c2:Nat) (w:World) (hL:bT w) (hk1:k1=sg.length) (hm1:k1<=maxLen) (hr1:Rd w A1 (D7 sg)) (h2:Es w es A2 l2 c2) (hf:∀n∈es,Fine n) (hz:aX es=0):
  Calls prog 132 #[.slice A1 k1 c1,.slice A2 l2 c2] w (uz (dQ sg es) w):=by
 have HC:Hid (∀W,Below w.heap.size w W->Calls prog 47 #[.slice A2 l2 c2] W fun e w'=>e=.returned (.int .i64 0)/\Below W.heap.size W w'):=fun W hb=>by
  have h:=check_any es A2 l2 c2 W (hL.below hb).e (h2.below hb).len (h2.below hb).cap (h2.below hb).max (h2.below hb).rd hf;rw[hz] at h;exact h
 have HAG:Hid (∀W,Below w.heap.size w W->Calls prog 157 #[.slice A2 l2 c2] W (GK true (iZ es) W)):=fun W hb=>by
  have h:=NQ es A2 l2 c2 W (hL.below hb).e (h2.below hb) hf;rw[hz,if_pos rfl] at h;exact h
 have ama:=zH (fun j hj=>NY hz j hj);have h60:=(ru hz).2
 have YH:Hid (∀W nd,Below w.heap.size w W->Calls prog 183 #[.slice A1 k1 c1,Nd.v nd] W fun e w'=>Sm (dZ sg nd) e/\Below W.heap.size W w'):=fun W nd hb=>
  aaS sg A1 k1 c1 nd W (hL.below hb) hk1 hm1 (hr1.below hb)
 have SY:Hid ((iZ es).length=es.length):=lZ _ _ _;obtain⟨res,hres⟩:∃r,r=dQ sg es:=⟨_,rfl⟩
 have F8:Hid (mX sg es (iZ es) []=res):=by show _=_;rw[hres];unfold dQ;rw[if_pos hz]
 rw[<-hres];have H2:=zH h2;have HL:Hid (∀W,Below w.heap.size w W->bT W):=fun W hb=>hL.below hb
 have hl2:l2<=60:=by rw[h2.len];exact h60
 generalize iZ es=S9 at*;clear hL hk1 hm1 hr1 h2 hf hz h60 hres;have hmf:=rZ;obtain⟨W,hW⟩:=zE ((w.alloc (.cells #[.slice none 0 0] 191)).alloc (.cells #[.int .i64 0] 33));have rD:=zf w 191 33 #[.slice none 0 0] #[.int .i64 0];rw[<-hW] at rD;obtain⟨hk0,hk1,hba,hsz⟩:=rD;clear hsz;obtain⟨B,hB⟩:=zE w.heap.size;rw[<-hB] at hk0 hk1;have HB:=zH hB;have kW:=zH hk0;have jl:=zH hk1;have bZ:=zH hba;clear hk0 hk1 hba
 go_enter_defers func132,ntmps132
 go_wp2_with fail;simp only[<-hW,<-hB]
 clear hW hB;refine (HC.out W bZ.out).mono ?_;rintro e w5 ⟨rfl,hb5⟩;replace kW:=zH (kW.out.below hb5 kW.out.lt);replace jl:=zH (jl.out.below hb5 jl.out.lt);replace bZ:=zH (ah bZ.out hb5);clear hb5 HC;go_wp2_with fail;refine (HAG.out w5 bZ.out).mono ?_;rintro e w6 ⟨A6,n6,c6,rfl,hag,hb6,agM,cs6,agN,agO⟩;have ku:Hid (B+1<w5.heap.size):=jl.out.lt;replace kW:=zH (kW.out.below hb6 kW.out.lt);replace jl:=zH (jl.out.below hb6 jl.out.lt);replace bZ:=zH (ah bZ.out hb6);have HN6:=zH hag.len;have BM:=zH agM;have Ad:=zH agN;have GL:=zH agO;have HS6:Hid (w5.heap.size<=w6.heap.size):=hb6.size;clear hag hb6 agM agN agO HAG;go_wp2_with fail;refine (Vu w6 (HL.out _ bZ.out)).mono ?_;rintro e w7 ⟨⟨rb,rfl,hru⟩,hb7⟩;replace kW:=zH (kW.out.below hb7 kW.out.lt);replace jl:=zH (jl.out.below hb7 jl.out.lt);replace bZ:=zH (ah bZ.out hb7);have HRU:=zH hru;have Kw:Hid (bW B w6 w7):=bW.of_below hb7;clear hru hb7;go_wp2
 go_loopg [32] l2 (fun g iv wr=>∃(j:Nat) (ts:List Ty) (v:Value),j+g=l2/\iv=.int .i64 j/\ts.length=j/\Hid (mX sg (es.drop j) (S9.drop j) ts=res)/\Hid (∀t∈ts,aN t=true)/\
  Hid (aj wr B 191 [v])/\Hid (aj wr (B+1) 33 [.int .i64 0])/\Hid (wr.ownsRow w7.heap.size 51 3 v j (tys ts))/\Hid (bW B w7 wr)/\Hid (Below w.heap.size w wr))
 case atStart=>exact⟨0,[],.slice none 0 0,by omega,rfl,rfl,F8.out,(fun t h=>by cases h),kW,jl,ownsRow_nil _ _ _ _,bW.refl _ _,bZ⟩
 case round=>
  obtain⟨j,ts,v,hj,rfl,htl,hty,hrt,hk0,hk1,hown,hon,hbr⟩:=hrel;clear kW jl bZ F8;by_cases hlt:j<l2
  ·have hje:j<es.length:=by rw[<-H2.out.len];exact hlt
   obtain⟨row,hrow,hrl,hrx,hwn⟩:=ama.out j hje;have hdE:=drop_eq_getElem_cons hje
   have hdA:S9.drop j=row::S9.drop (j+1):=by
    have hja:j<S9.length:=by rw[SY.out];exact hje
    rw[drop_eq_getElem_cons hja];rw[getElem?_eq_getElem hja] at hrow;injection hrow with hrow;rw[hrow]
   have aa9:=hty.out;rw[hdE,hdA] at aa9;obtain⟨hop1,hop2⟩:=NZ hwn;obtain⟨b,off,hA,hb,hc0,hc1,hc2,hc3,hc4⟩:=(H2.out.rd.below hbr.out).nd hje;subst hA;generalize es[j]=nd at*;obtain⟨op,⟨neg,num,den⟩,nm⟩:=nd;simp only at hc0 hc1 hc2 hc3 hc4 hop1 hop2 hrl;obtain⟨p,rfl⟩:∃p:Nat,op=p:=⟨op.toNat,by omega⟩
   have Kz:=zH aa9;have HRX:=zH hrx;have HRL:=zH hrl;obtain⟨vr,xw,hrow1⟩:=(GL.out.step (X':=fun _=>False) (Kw.out.trans hon.out).grown (fun g h=>by injection h with h;subst h;have:=ku.out;show _<_;omega) (fun g h=>h.elim)).row j row hrow;clear hdE hdA aa9 hty hwn hrx hrl;obtain⟨hlo,hrb,hrk⟩:=HRU.out.keeps (Keeps.lJ hon.out (by have:=ku.out;have:=HS6.out;omega));obtain⟨f,hq0,hq1,hrv⟩:=hrk p (by omega) (by omega);rw[Nat.mul_comm] at hq0 hq1;have rD:=zf wr 104 51 #[.int .i64 (p:Int),.bool neg,.string num,.string den,.string nm] #[.bool false,.int .i64 0,.int .i64 0];obtain⟨WB,hWB⟩:=zE ((wr.alloc (.cells #[.int .i64 (p:Int),.bool neg,.string num,.string den,.string nm] 104)).alloc (.cells #[.bool false,.int .i64 0,.int .i64 0] 51));obtain⟨N,hN⟩:=zE wr.heap.size;rw[<-hWB,<-hN] at rD;obtain⟨hn0,hn1,hnb,hsz⟩:=rD;rw[hN] at hnb;have HQ0:=zH hq0;have XF:=zH hq1;have HRV:=zH hrv;have Ed:=zH hrb;have Eb:=zH hn0;have AL:=zH hn1;have OT:=zH hnb;have Ai:=zH hN;clear hsz hlo hrk hq0 hq1 hrv hrb hn0 hn1 hnb
   go_upto_region 12 with fail
   simp only[<-hWB,<-hN]
   clear hWB hN hc0 hc1 hc2 hc3 hc4;have hn0:=Eb.out.cells;have hq0:=(OT.out.cell Ed.out).trans HQ0.out;obtain⟨sb,hsb⟩:=zF (iK (p:Int));rw[hsb] at hq0;have nI:=zH hsb;clear hsb
   go_upto_if 42 with fail
   clear hn0 hq0
   go_cut [42] from 42 to 45 (fun qv wc=>∃own:Ty,Hid (nX sg ⟨(p:Int),⟨neg,num,den⟩,nm⟩=some own)/\Hid (aj wc N 104 [.int .i64 (p:Int),.bool neg,.string num,.string den,.string nm])/\Hid (aj wc (N+1) 51 own.cells)/\Hid (Below wr.heap.size wr wc))
   case first=>
    have hn0:=Eb.out.cells;cases sb
    ·go_wp2
     go_meet
     case rel=>exact⟨aJ,(by show _=_;unfold nX;rw[if_neg (by rw[nI.out];simp)]),Eb,AL,OT⟩
    ·go_wp2_with fail;refine (YH.out _ ⟨(p:Int),⟨neg,num,den⟩,nm⟩ (ah hbr.out OT.out)).mono ?_;rintro e w9 ⟨hsp,fP⟩;obtain⟨q,hq⟩:=zF (dZ sg ⟨(p:Int),⟨neg,num,den⟩,nm⟩);rw[hq] at hsp;have hot:nX sg ⟨(p:Int),⟨neg,num,den⟩,nm⟩=q:=by unfold nX;rw[if_pos nI.out,hq]
     cases q with
     |none=>
      obtain rfl:e=.panicked (y9 12):=hsp;obtain rfl:res=([],12):=by rw[<-Kz.out,J5 hot]
      have hk0':=hk0.out.below (ah OT.out fP) hk0.out.lt;have VG:=hk1.out.below (ah OT.out fP) hk1.out.lt;have lV:Hid (Below w.heap.size w w9):=ah hbr.out (ah OT.out fP);clear fP hq hot hn0;go_wp2;exact Ec 12 w w9 B _ _ _ hk0' VG HB.out lV.out rfl rfl
     |some t=>
      obtain rfl:e=.returned t.v:=hsp;obtain⟨tt,tm,td⟩:=t;have hn1':=AL.out.below fP AL.out.lt;have ao0:=hn1'.cells;have ao1:=hn1'.bH;have amb:=zH (Eb.out.below fP Eb.out.lt);have amc:=zH hn1';have HB9:=zH (ah OT.out fP);have YI:=zH hot;clear fP hn1' hq hot hn0;unfold Ty.v;go_wp2
      go_meet
      case rel=>
       refine⟨⟨tt,tm,td⟩,YI,?_,?_,?_⟩
       ·exact ((amb.out.other (by show N≠N+1;omega) _).other (by show N≠N+1;omega) _).other (by show N≠N+1;omega) _
       ·exact ((amc.out.set 0 _).set 1 _).set 2 _
       ·exact iD (B:=N+1) HB9.out (by have:=Ai.out;omega) _ _ _
   case rest=>
    obtain⟨own,hot,hm0,hm1,hbc⟩:=hcut;have hor:=zH (GX hot.out);obtain⟨Ar,cr,rfl,hr1,hr2,hrd,_⟩:=hrow1;obtain⟨b6,o6,hA6,hb6,hc6⟩:=Ad.out.at_ (k:=j) (by rw[GL.out.len,SY.out];exact hje);replace hc6:=hc6 j (by rw[GL.out.len,SY.out];exact hje)
    have hv6:cs6[j]'(by rw[GL.out.len,SY.out];exact hje)=.slice Ar row.length cr:=by
     rw[getElem?_eq_getElem (by rw[GL.out.len,SY.out];exact hje)] at xw;injection xw
    rw[hv6] at hc6;have agR:b6≠B:=by have h1:=BM.out _ hA6;have h2:=ku.out;show b6≠B;have h3:w5.heap.size<=b6:=h1;omega
    have ao2:wc.cell? ⟨b6,o6+j,none⟩=some (.slice Ar row.length cr):=by
     rw[hbc.out.cell (Nat.lt_of_lt_of_le hb6 (Kw.out.trans hon.out).size),cell?_of_block ((Kw.out.trans hon.out).block b6 hb6 agR)];exact hc6
    subst hA6;have hjn:j<n6:=by rw[HN6.out,SY.out];exact hje
    have Bz:=hm0;have wu:=hm1;have NW:=hbc;have YI:=hot;have kW:Hid (aj wc B 191 [v]):=hk0.out.below hbc.out hk0.out.lt;have jl:Hid (aj wc (B+1) 33 [.int .i64 0]):=hk1.out.below hbc.out hk1.out.lt;have HOW:Hid (wc.ownsRow w7.heap.size 51 3 v j (tys ts)):=own_below hown.out hbc.out;have HRW:Hid (Rd wc Ar (I row)):=hrd.below hbc.out;have hrow3:row.length<=3:=by rw[HRL.out];exact aa8 _
    clear hot hm0 hm1 hbc hrd hv6 hc6 xw hb6 agR hk0 hk1 hown hrow;go_wp2
    go_loopg [13,51] row.length (fun g lv iv wq=>∃i:Nat,i+g=row.length/\iv=.int .i64 i/\Hid (wq.ownsRow wc.heap.size 51 3 lv i (tys (rowT ts (row.take i))))/\Hid (Below wc.heap.size wc wq))
    case atStart=>exact⟨0,by omega,rfl,ownsRow_nil _ _ _ _,Below.refl _ _⟩
    case round=>
     obtain⟨i,hi,rfl,hol,hbq⟩:=hrel;by_cases hil:i<row.length
     ·have hxj:row[i]<j:=HRX.out _ (getElem_mem hil);obtain⟨br,orr,rfl,amd,hcr⟩:=HRW.out.i hil;have hgd:row.getD i 0=row[i]:=by rw[getD_eq_getElem?_getD,getElem?_eq_getElem hil];rfl
      rw[hgd] at hcr;obtain⟨Av,cv,rfl,hv1,hv2,xw,hvl⟩:=dK HOW.out;have hxt:row[i]<ts.length:=by rw[htl];exact hxj
      obtain⟨bv,ov,rfl,hbv,hx0,hx1,hx2⟩:=xw.ty hxt
      have HST:Hid (tys (rowT ts (row.take (i+1)))=tys (rowT ts (row.take i))++Ty.cells ts[row[i]]):=by
       show _=_;rw[take_succ_eq_append_getElem hil];unfold rowT;rw[map_append,G7];congr 1;show Ty.cells (ts.getD row[i] aJ)++[]=_;rw[append_nil,getD_eq_getElem?_getD,getElem?_eq_getElem hxt];rfl
      generalize ts[row[i]]=tx at*;obtain⟨tt,tm,td⟩:=tx;generalize row[i]=x at*;have agS:wr.cell? ⟨B,0,none⟩=some (.slice (some ⟨bv,ov,none⟩) j cv):=(hbq.out.cell kW.out.lt).trans (kW.out.cells 0);have ao3:=(hbq.out.cell amd).trans hcr;have hx0':=(hbq.out.cell hbv).trans hx0;have ame:=(hbq.out.cell hbv).trans hx1;have amf:=(hbq.out.cell hbv).trans hx2;simp only at hx0' ame amf;clear hx0 hx1 hx2 hcr xw hvl hxt hgd;go_wp2_with (at_builtin;go_must (refine dW wr #[.bool tt,.int .i64 tm,.int .i64 td] rfl _ _ 191 rfl wc.heap.size 51 _ 3 24 1 underlying191 SQ rfl (by decide) u13 i (tys (rowT ts (row.take i))) rfl hol.out rfl rfl ?_ ?_ ?_ ?_ ?_))
      any_goals first|(unfold maxLen;omega)|omega
      ·exact⟨rfl,rfl,rfl⟩
      ·exact hbq.out.size
      intro v' w' hown' hb';have Vh:Hid (w'.ownsRow wc.heap.size 51 3 v' (i+1) (tys (rowT ts (row.take (i+1))))):=by show World.ownsRow _ _ _ _ _ _ _;rw[HST.out];exact hown'
      have Jy:=zH (hbq.out.trans hb');clear hown' hb';go_wp2
      go_roundg (row.length-(i+1))
      case measure=>omega
      case rel=>exact⟨i+1,by omega,by go_num,Vh,Jy⟩
     ·have hie:i=row.length:=by omega
      have abb:=hol.out;rw[hie,take_length] at abb;clear hol;have amg:=zH (ah hbr.out (ah NW.out hbq.out));obtain⟨g,lb,rfl,heg,hcall⟩:=HRV.out.keeps (Keeps.of (ah NW.out hbq.out) _);obtain⟨Al,cl,rfl,hl1,amh,hlr,_⟩:=dK abb
      have OU:=zH (fun W hb=>hcall own (rowT ts row) Al row.length cl W (Keeps.of hb _) (HL.out _ (ah amg.out hb)) (by unfold rowT;rw[length_map]) hl1 (Nat.le_trans hl1 amh) (hlr.below hb)
       (fun t ht=>by unfold rowT at ht;obtain⟨k,_,rfl⟩:=mem_map.1 ht;exact rC hrt.out k) (by unfold rowT;rw[length_map];exact HRL.out))
      obtain⟨rt,abd⟩:=zE ((eF (p:Int) own (rowT ts row)).1);obtain⟨ok,hok⟩:=zE ((eF (p:Int) own (rowT ts row)).2);rw[<-abd,<-hok] at OU;have rQ:=zH abd;have qJ:=zH hok;obtain⟨ra,rm,rd'⟩:=rt;obtain⟨oa,om,od⟩:=own;have hq1:=((ah NW.out hbq.out).cell Ed.out).trans XF.out;have hn0:wr.cell? ⟨N,0,none⟩=some (.int .i64 (p:Int)):=(hbq.out.cell Bz.out.lt).trans (Bz.out.cells 0);have ho0:wr.cell? ⟨N+1,0,none⟩=some (.bool oa):=(hbq.out.cell wu.out.lt).trans (wu.out.cells 0);have ho1:wr.cell? ⟨N+1,1,none⟩=some (.int .i64 om):=(hbq.out.cell wu.out.lt).trans (wu.out.cells 1);have ho2:wr.cell? ⟨N+1,2,none⟩=some (.int .i64 od):=(hbq.out.cell wu.out.lt).trans (wu.out.cells 2);have acU:Hid (∀W,Below wr.heap.size wr W->Calls prog g (#[.agg #[.bool oa,.int .i64 om,.int .i64 od],.slice Al row.length cl]++lb) W fun e w'=>e=.returned (.tuple #[.agg #[.bool ra,.int .i64 rm,.int .i64 rd'],.bool ok])/\Below W.heap.size W w'):=OU.out
      have oL:Hid (∀W,Below wr.heap.size wr W->Below wr.heap.size wr W/\W.cell? ⟨N,0,none⟩=some (.int .i64 (p:Int))/\W.cell? ⟨rb,p*2+1,none⟩=some (.func (.func g) #[] lb)/\W.cell? ⟨N+1,0,none⟩=some (.bool oa)/\W.cell? ⟨N+1,1,none⟩=some (.int .i64 om)/\W.cell? ⟨N+1,2,none⟩=some (.int .i64 od)):=fun W hb=>
       ⟨hb,(hb.cell (Nat.lt_of_lt_of_le Bz.out.lt hbq.out.size)).trans hn0,(hb.cell (Nat.lt_of_lt_of_le Ed.out (ah NW.out hbq.out).size)).trans hq1,(hb.cell (Nat.lt_of_lt_of_le wu.out.lt hbq.out.size)).trans ho0,(hb.cell (Nat.lt_of_lt_of_le wu.out.lt hbq.out.size)).trans ho1,(hb.cell (Nat.lt_of_lt_of_le wu.out.lt hbq.out.size)).trans ho2⟩
      clear abd hok hcall OU hlr hn0 hq1 ho0 ho1 ho2;have ao4:(p:Int)<25:=by omega
      go_upto_region 19 with fail
      go_cut [16,17] from 33 to 74 (fun pv okv wy=>∃b9:Nat,pv=.pointer (some ⟨b9,0,none⟩)/\okv=.bool ok/\Hid (aj wy b9 51 [.bool ra,.int .i64 rm,.int .i64 rd'])/\Hid (Below wr.heap.size wr wy))
      case first=>
       refine wp_region_noPanic ?_;refine wp_region_held_drew (S:=(fun w'=>Below wr.heap.size wr w'/\w'.cell? ⟨N,0,none⟩=some (.int .i64 (p:Int))/\w'.cell? ⟨rb,p*2+1,none⟩=some (.func (.func g) #[] lb)/\w'.cell? ⟨N+1,0,none⟩=some (.bool oa)/\w'.cell? ⟨N+1,1,none⟩=some (.int .i64 om)/\w'.cell? ⟨N+1,2,none⟩=some (.int .i64 od))) (by kernel_rfl) (oL.out _ (aI wr.heap.size wr 1)) (fun hHeld=>?_);refine dN 0 ?_;refine dN 1 ?_;refine dN 2 ?_;refine dN 3 ?_;refine dN 4 ?_;refine dN 5 ?_;refine dN 6 ?_;refine dN 7 ?_;refine ZX 8 12 (fun K hK=>?_) fun K hK=>?_
       ·skip
        go_simp;have hbS:=hHeld.1;refine (acU.out _ hbS).mono ?_;rintro e w10 ⟨rfl,BN⟩;have KA:=zH (ah hbS BN);go_wp2_with fail;refine mZ hK (oL.out _ (KA.out)) fun hHeld=>?_
        clear hK K;refine dN 9 ?_;refine dN 10 ?_;refine dN 11 ?_;refine qG 12 fun K hK=>?_
        go_simp;go_wp2_with fail;refine mZ hK (oL.out _ (ah KA.out (zB _ _))) fun hHeld=>?_
        clear hK K;refine qG 13 fun K hK=>?_
        go_simp;go_wp2_with fail;refine mZ hK (oL.out _ (ah KA.out (zB _ _))) fun hHeld=>?_
        clear hK K;refine dN 14 ?_;refine wpAnyH_done (by kernel_rfl) ?_ _;refine NoPanic.normal ?_;go_wp2
        go_meet
        case rel=>exact⟨_,rfl,rfl,aj.new _ _ _,ah KA.out (zB _ _)⟩
       ·skip
        go_simp;go_wp2_with fail;refine mZ hK (oL.out _ (below_drewN (zB _ _) 1)) fun hHeld=>?_
        clear hK K;refine qG 8 fun K hK=>?_
        go_simp;have hbS:=hHeld.1;refine (acU.out _ hbS).mono ?_;rintro e w10 ⟨rfl,BN⟩;have KA:=zH (ah hbS BN);have HBM:=zH (((aj.new wr 51 #[.bool false,.int .i64 0,.int .i64 0]).drewN 1).below BN ((aj.new wr _ _).drewN 1).lt);have hcm:=HBM.out.cells;have hfm:=HBM.out.bH;go_wp2_with fail;refine mZ hK (oL.out _ KA.out) fun hHeld=>?_
        clear hK K;refine dN 9 ?_;refine dN 10 ?_;refine dN 11 ?_;refine qG 13 fun K hK=>?_
        go_simp;go_wp2_with fail;refine mZ hK (oL.out _ (iD (B:=wr.heap.size) KA.out (Nat.le_refl _) _ _ _)) fun hHeld=>?_
        clear hK K;refine dN 14 ?_;refine wpAnyH_done (by kernel_rfl) ?_ _;refine NoPanic.normal ?_;go_wp2
        go_meet
        case rel=>exact⟨_,rfl,rfl,((HBM.out.set 0 _).set 1 _).set 2 _,iD (B:=wr.heap.size) KA.out (Nat.le_refl _) _ _ _⟩
      case rest=>
       obtain⟨b9,rfl,rfl,hk9,hby⟩:=hcut;have HBY:=zH (ah NW.out (ah hbq.out hby.out));have VH:=kW.out.below (ah hbq.out hby.out) kW.out.lt;have abe:=jl.out.below (ah hbq.out hby.out) jl.out.lt;have HRO:=YI;cases ok
       ·obtain rfl:res=([],13):=by rw[<-Kz.out,N7 YI.out qJ.out.symm]
        have lV:=zH (ah hbr.out HBY.out);clear hby hk9;go_wp2;exact Ec 13 w wc B _ _ _ VH abe HB.out lV.out rfl rfl
       ·have ami:Hid (mX sg (es.drop (j+1)) (S9.drop (j+1)) (ts++[⟨ra,rm,rd'⟩])=res):=by
         show _=_;rw[<-Kz.out,J4 YI.out qJ.out.symm,<-rQ.out]
        have HRR:Hid (aN ⟨ra,rm,rd'⟩=true):=by
         show _=_;rw[rQ.out];exact D9 _ _ _ hor.out (fun t ht=>by unfold rowT at ht;obtain⟨k,_,rfl⟩:=mem_map.1 ht;exact rC hrt.out k) qJ.out.symm
        have amj:Hid (wc.ownsRow w7.heap.size 51 3 v j (tys ts)):=own_below HOW.out (ah hbq.out hby.out);have amk:=hk9.out.cells;have agS:wc.cell? ⟨B,0,none⟩=some v:=VH.cells 0;have HD:Hid (B+1<w7.heap.size):=by have h1:=ku.out;have h2:=HS6.out;have h3:=Kw.out.size;show _<_;omega
        have HSY:Hid (w7.heap.size<=wc.heap.size):=Nat.le_trans hon.out.size HBY.out.size;have aml:=zH VH;have amm:=zH abe;clear VH abe hby hk9 abb;go_wp2_with (at_builtin;go_must (refine dW wc #[.bool ra,.int .i64 rm,.int .i64 rd'] rfl _ _ 191 rfl w7.heap.size 51 _ 3 24 1 underlying191 SQ rfl (by decide) v j (tys ts) rfl amj.out rfl rfl ?_ ?_ ?_ ?_ ?_))
        any_goals first|(unfold maxLen;omega)|omega
        ·exact⟨rfl,rfl,rfl⟩
        ·exact HSY.out
        intro v' w' hown' hb';obtain⟨Av',cv',rfl,_⟩:=dK hown';have hk0':aj w' B 191 [v]:=aml.out.of_block (hb'.block B (by have:=HD.out;omega));have VG:aj w' (B+1) 33 [.int .i64 0]:=amm.out.of_block (hb'.block (B+1) HD.out);have aoI:w'.cell? ⟨B,0,none⟩=some v:=hk0'.cells 0;have aoJ:=hk0'.bH;have OQ:=zH hk0';have VE:=zH VG;have HBN:=zH hb';have HOWN':=zH hown';clear hk0' VG hb' hown' agS amk;go_wp2
        go_roundg (l2-(j+1))
        case measure=>omega
        case rel=>
         have hgs:=uj w' B 0 (.slice Av' (j+1) cv');refine⟨j+1,ts++[⟨ra,rm,rd'⟩],.slice Av' (j+1) cv',by omega,by go_num,by rw[length_append,htl];rfl,ami,?_,OQ.out.set 0 _,VE.out.other (by show B+1≠B;omega) _,?_,?_,?_⟩
         ·intro t ht;rcases mem_append.1 ht with ht|ht
          ·exact hrt.out t ht
          ·rw[mem_singleton.1 ht];exact HRR.out
         ·show World.ownsRow _ _ _ _ _ _ _;rw[G7];refine HOWN'.out.kept hgs ?_;cases hv:(Value.slice Av' (j+1) cv').ownBlock with
          |none=>exact .inl rfl
          |some g=>exact .inr (fun h=>by have h1:=(HOWN'.out.lt g hv).1;have h2:g=B:=Option.some.inj h;have:=HD.out;omega)
         ·exact (((hon.out.more (HBY.out.mono hon.out.size)).more (HBN.out)).set 0 _)
         ·exact (((ah hbr.out HBY.out).trans (HBN.out.mono (by have h1:=HB.out;have:=HD.out;omega))).setCell (p:=⟨B,0,none⟩) (by show _<=B;have h1:=HB.out;omega) _)
  ·obtain rfl:j=l2:=by omega
   have hres:res=(ts,0):=by
    rw[<-hty.out,H2.out.len,drop_length];cases S9.drop es.length<;>rfl
   subst hres;obtain⟨Av,cv,rfl,hv1,hv2,xw,hvl⟩:=dK hown.out;have hc0:wr.cell? ⟨B,0,none⟩=some (.slice Av j cv):=hk0.out.cells 0;have hc1:wr.cell? ⟨B+1,0,none⟩=some (.int .i64 0):=hk1.out.cells 0;have hf0:=hk0.out.bH;have hf1:=hk1.out.bH
   have Ai:Hid (∀ad,Av=some ad->w7.heap.size<=ad.block):=by
    obtain⟨A',c',hv,_,_,_,h4⟩:=yj hown.out;injection hv with e1 e2 e3;show ∀ad,_->_;rw[e1];exact h4
   have HD:Hid (B+1<w7.heap.size):=by have h1:=ku.out;have h2:=HS6.out;have h3:=Kw.out.size;show _<_;omega
   have iY:Hid (∀u u',Below w.heap.size w ((wr.setCell ⟨B,0,none⟩ u).setCell ⟨B+1,0,none⟩ u')):=fun u u'=>
    (hbr.out.setCell (p:=⟨B,0,none⟩) (by show _<=B;have:=HB.out;omega) u).setCell (p:=⟨B+1,0,none⟩) (by show _<=B+1;have:=HB.out;omega) u'
   have YJ:=zH xw;clear xw hvl hown hty hbr hk0 hk1;go_wp2;refine leaves_cons (f:=181) (args:=#[.pointer (some ⟨B,0,none⟩),.pointer (some ⟨B+1,0,none⟩)]) (by simp) (by simp[go_sem]) ?_;refine (QE B (B+1) _).mono ?_;rintro e u' w7 ⟨rfl,rfl,rfl⟩
   have hd0:((wr.setCell ⟨B,0,none⟩ (.slice Av j cv)).setCell ⟨B+1,0,none⟩ (.int .i64 0)).cell? ⟨B,0,none⟩=some (.slice Av j cv):=by
    rw[cell?_setCell_other _ _ _ _ (by simp)];exact cell?_setCell_same' _ _ _ (by rw[hc0];rfl)
   have hd1:((wr.setCell ⟨B,0,none⟩ (.slice Av j cv)).setCell ⟨B+1,0,none⟩ (.int .i64 0)).cell? ⟨B+1,0,none⟩=some (.int .i64 0):=
    cell?_setCell_same' _ _ _ (by rw[cell?_setCell_other _ _ _ _ (by simp),hc1];rfl)
   simp[Leaves,settle,results,results132,go_sem,hd0,hd1];refine⟨Av,j,cv,rfl,htl.symm,hv1,hv2,?_,iY.out _ _⟩;exact zu (zu YJ.out ⟨B,0,none⟩ _ (fun ad h=>by have h1:=Ai.out ad h;have:=HD.out;show ad.block≠B;omega)) ⟨B+1,0,none⟩ _ (fun ad h=>by have h1:=Ai.out ad h;have:=HD.out;show ad.block≠B+1;omega)
theorem VI (sg:List Sg) (es:List Nd) (A1 A2:Option Addr) (k1 c1 l2 c2:Nat) (w:World) (hL:bT w) (hk1:k1=sg.length) (hm1:k1<=maxLen) (hr1:Rd w A1 (D7 sg)) (h2:Es w es A2 l2 c2) (hf:∀n∈es,Fine n):
  Calls prog 132 #[.slice A1 k1 c1,.slice A2 l2 c2] w (uz (dQ sg es) w):=by
 by_cases hz:aX es=0
 ·exact YG sg es A1 A2 k1 c1 l2 c2 w hL hk1 hm1 hr1 h2 hf hz
 ·exact Oq sg es A1 A2 k1 c1 l2 c2 w hL h2 hf hz
section
set_option maxRecDepth 100000
set_option maxHeartbeats 2000000
variable {Ld:bU}
theorem Tc (sg:List Sg) (n:Nd) (r:List Nd) (a:List Nat) (ar:List (List Nat)) (ts:List Ty):mX sg (n::r) (a::ar) ts=if (lK sg n (rowT ts a)).2=0 then mX sg r ar (ts++[(lK sg n (rowT ts a)).1]) else ([],(lK sg n (rowT ts a)).2):=by
 rw[mX];unfold lK;cases nX sg n with
 |none=>rfl
 |some own=>cases h:(eF n.op own (rowT ts a)).2<;>simp[h]
theorem YK {sg:List Sg} {n:Nd} {l:List Ty} (hl:∀t∈l,aN t=true) (h:(lK sg n l).2=0):aN (lK sg n l).1=true:=by
 unfold lK at h⊢;split at h
 ·cases h
 ·next own ho=>
  split at h
  ·next h2=>simp only[h2,if_true];exact D9 _ _ _ (GX ho) hl h2
  ·cases h
theorem agU (sg:List Sg) (es:List Nd) (hs:sg.length<=1000) (hf:∀n∈es,Fine n) (hl:es.length<=100000):PC prog Ld 171 [.sl 5 (sg.map Sg.p),.sl 5 (es.map Nd.p)] (·=.tu [.sl 3 ((dQ sg es).1.map Ty.p),iP (dQ sg es).2]):=by
 refine dh func171 fun X=>?_
 have h1:=Oe (Ld:=Ld) es hf hl;have h2:=aiI (Ld:=Ld) es hf hl;unfold dQ;refine run ?_;refine bM (fun h=>?_) fun h=>?_
 ·have h:¬aX es=0:=by simpa using h
  rw[if_neg h];refine run ?_;exact aF (ho:=.two (.tmp rfl (.nil 3)) lY)
 ·have h:aX es=0:=by simpa using h
  rw[if_pos h,decide_eq_true h] at h2;rw[if_pos h];have hA:=fun j hj=>NY h j hj
  have hk:=(ru h).2;have hla:(iZ es).length=es.length:=lZ _ _ _;obtain⟨R,hR⟩:=zE (mX sg es (iZ es) []);rw[<-hR];generalize iZ es=ag at*;refine run ?_;refine nK 9 9 51 3 rfl rfl (by decide) ?_
  refine Nw (fun b=>[(.s 10,.s (.v (nP b.1))),(.s 9,.s (.ow 9 (b.2.map Ty.p).length)),(.o 9,.o (.row 51 3 (b.2.map Ty.p)))]) [.s 0,.s 1,.s 4,.s 5,.s 7]
   (fun b=>b.1<=es.length/\b.2.length=b.1/\R=mX sg (es.drop b.1) (ag.drop b.1) b.2/\∀t∈b.2,aN t=true) (fun b=>es.length-b.1) ((0,[]):Nat × List Ty) ?_ ?_
  ·exact⟨by omega,rfl,hR,fun _ h=>nomatch h⟩
  intro⟨k,ts⟩ ⟨hk,ht,hJ,hr⟩;dsimp only at hk ht hJ hr⊢;refine run ?_;refine aZ (fun hu=>?_) fun hu=>?_
  ·have hua:k<ag.length:=by omega
   obtain⟨a,g1,g2,g3,g4⟩:=hA k hu;rw[drop_eq_getElem_cons hu,drop_eq_getElem_cons hua,Tc] at hJ;have ga:ag[k]=a:=(List.getElem?_eq_some_iff.1 g1).2;subst ga;refine run ?_;refine nK 11 11 51 3 rfl rfl (by decide) ?_;have g5:=Yi es[k].op;refine jr ag[k].length (fun i=>[(.s 12,.s (.v (nP i))),(.s 11,.s (.ow 11 ((rowT ts (ag[k].take i)).map Ty.p).length)),(.o 11,.o (.row 51 3 ((rowT ts (ag[k].take i)).map Ty.p)))]) [.s 0,.s 1,.s 4,.s 5,.s 7,.s 9,.o 9,.s 10] ?_;intro i hi hw;have g6:(rowT ts (ag[k].take i)).length=i:=by unfold rowT;rw[length_map,length_take];omega
   refine run ?_;refine aZ (fun hv=>?_) fun hv=>?_
   ·have hv:i<ag[k].length:=by omega
    have hx:ag[k][i]<ts.length:=by rw[ht];exact g3 _ (getElem_mem hv)
    have e1:rowT ts (ag[k].take (i+1))=rowT ts (ag[k].take i)++[ts[ag[k][i]]]:=by
     unfold rowT;rw[take_succ_eq_append_getElem hv,map_append];simp only[map_cons,map_nil,getD_eq_getElem?_getD,getElem?_eq_getElem hx,Option.getD_some]
    refine run ?_;refine gq
   ·have e2:ag[k].take i=ag[k]:=take_of_length_le (by omega)
    have hl:∀t∈rowT ts (ag[k].take i),aN t=true:=fun t h=>by
     obtain⟨x,_,rfl⟩:=mem_map.1 h;exact rC hr x
    have h3:=aiH (Ld:=Ld) sg es[k] (rowT ts (ag[k].take i)) hs (NZ g4) (by rw[g6];omega) hl;rw[<-e2] at hJ;have h5:=@YK sg es[k] _ hl;generalize rowT ts (ag[k].take i)=l at*;generalize lK sg es[k] l=z at*;have hw3:=wrap_succ k (by omega);refine run ?_;refine bM (fun h=>?_) fun h=>?_
    ·refine run ?_;exact aF (ho:=.two (.tmp rfl (.nil 3)) lY) (hr:=by rw[hJ,if_neg (by simpa using h)];rfl)
    ·have h:z.2=0:=by simpa using h
     rw[if_pos h] at hJ;refine run ?_;refine Ny (k+1,ts++[z.1]) ?_ ?_
     ·refine⟨by omega,by simp[ht],hJ,fun t hm=>?_⟩;rcases mem_append.1 hm with hm|hm
      ·exact hr t hm
      ·rw[mem_singleton.1 hm];exact h5 h
     ·dsimp only;omega
  ·rw[drop_of_length_le (by omega)] at hJ;have hJ:R=(ts,0):=by rw[hJ];cases List.drop k ag<;>rfl
   refine run ?_;exact aF (hr:=by rw[hJ];rfl)
theorem VJ {sg:List Sg} {es:List Nd} (h:(dQ sg es).2=0):0<(dQ sg es).1.length/\(dQ sg es).1.length<=60:=by
 unfold dQ at h⊢;split at h
 ·next hz=>
  rw[if_pos hz,EM es (iZ es) [] (lZ _ _ _) h];have:=ru hz;simp only[length_nil,Nat.zero_add];omega
 ·next hz=>exact absurd h hz
theorem xType (sg:List Sg) (es:List Nd) (hs:sg.length<=1000) (hf:∀n∈es,Fine n) (hl:es.length<=100000):PC prog Ld 117 [.sl 5 (sg.map Sg.p),.sl 5 (es.map Nd.p)] (·=SH (gU sg es)):=by
 refine dh func117 fun X=>?_
 have h1:=agU (Ld:=Ld) sg es hs hf hl;have h2:gU sg es=if (dQ sg es).2=0 then ((dQ sg es).1.getD ((dQ sg es).1.length-1) aJ,0) else (aJ,(dQ sg es).2):=rfl
 have h3:=@VJ sg es;rw[h2];generalize dQ sg es=z at*;refine run ?_;refine bM (fun h=>?_) fun h=>?_
 ·rw[if_neg (by simpa using h)];refine run ?_;exact aF
 ·have h:z.2=0:=by simpa using h
  have h3:=h3 h;have hw:IntKind.i64.wrap ((z.1.length:Int)-1)=((z.1.length-1:Nat):Int):=by rw[IntWalk.i64_in _ (by omega)];omega
  have hx:z.1.length-1<z.1.length:=by omega
  rw[if_pos h,getD_eq_getElem?_getD,getElem?_eq_getElem hx];refine run ?_;exact aF
end
theorem VK {sg:List Sg} {es:List Nd} (h:(dQ sg es).2=0):0<(dQ sg es).1.length:=by
 by_cases hz:aX es=0
 ·unfold dQ at h⊢;rw[if_pos hz] at h⊢;rw[EM es (iZ es) [] (lZ _ _ _) h];have:=(ru hz).1;simp;omega
 ·unfold dQ at h;rw[if_neg hz] at h;exact absurd h hz
theorem YL (sg:List Sg) (es:List Nd) (A1 A2:Option Addr) (k1 c1 l2 c2:Nat) (w:World) (hL:bT w) (hk1:k1=sg.length) (hm1:k1<=maxLen) (hr1:Rd w A1 (D7 sg)) (h2:Es w es A2 l2 c2) (hf:∀n∈es,Fine n):
  Calls prog 77 #[.slice A1 k1 c1,.slice A2 l2 c2] w fun e w'=>e=.returned (.tuple #[(gU sg es).1.v,.int .i64 (gU sg es).2])/\Below w.heap.size w w':=by
 have HT:=zH (fun W hb=>VI sg es A1 A2 k1 c1 l2 c2 W (hL.below hb) hk1 hm1 (hr1.below hb) (h2.below hb) hf);have HP:=zH (VK (sg:=sg) (es:=es));have HE:Hid (gU sg es=(let r:=dQ sg es;if r.2=0 then (r.1.getD (r.1.length-1) aJ,0) else (aJ,r.2))):=rfl;have F7:Hid ((dQ sg es).2=0->gU sg es=((dQ sg es).1.getD ((dQ sg es).1.length-1) aJ,0)):=fun h=>by rw[HE.out];simp only;rw[if_pos h]
 have yh:Hid ((dQ sg es).2≠0->gU sg es=(aJ,(dQ sg es).2)):=fun h=>by rw[HE.out];simp only;rw[if_neg h]
 generalize gU sg es=R at*;generalize dQ sg es=r at*;obtain⟨ts,z⟩:=r;clear HE hL hk1 hm1 hr1 h2 hf;obtain⟨W,hW⟩:=zE (w.alloc (.cells #[.bool false,.int .i64 0,.int .i64 0] 51));obtain⟨B,hB⟩:=zE w.heap.size;have hk0:aj W B 51 [.bool false,.int .i64 0,.int .i64 0]:=by rw[hW,hB];exact aj.new w _ _
 have hba:Below w.heap.size w W:=by rw[hW];exact zB _ _
 have HB:=zH hB;have kW:=zH hk0;have bZ:=zH hba;clear hk0 hba;go_enter func77,ntmps77;go_wp2_with fail;simp only[<-hW,<-hB]
 clear hW hB;refine (HT.out W bZ.out).mono ?_;rintro e w5 ⟨A,n,c,rfl,hn,hnc,hcm,hrd,hb5⟩;have hk0:=kW.out.below hb5 kW.out.lt;have hkc:=hk0.cells;have uG:=hk0.bH;have iY:=zH (ah bZ.out hb5);replace hn:n=ts.length:=hn;replace hrd:Rd w5 A (tys ts):=hrd;simp only
 have agV:Hid (∀u0 u1 u2,Below w.heap.size w (((w5.setCell ⟨B,0,none⟩ u0).setCell ⟨B,1,none⟩ u1).setCell ⟨B,2,none⟩ u2)):=fun u0 u1 u2=>iD (B:=B) iY.out (by have:=HB.out;omega) _ _ _
 clear hb5 hk0;by_cases hz:z=0
 ·subst hz;have hp:0<ts.length:=HP.out rfl;have hlast:n-1<ts.length:=by omega
  obtain⟨b,off,hA,hbb,hx0,hx1,hx2⟩:=hrd.ty hlast;subst hA;have rO:Hid (ts.getD (ts.length-1) aJ=ts[n-1]):=by show _=_;rw[<-hn,getD_eq_getElem?_getD,getElem?_eq_getElem hlast];rfl
  generalize ts[n-1]=tx at hx0 hx1 hx2 rO;obtain rfl:R=(tx,0):=by rw[<-rO.out];exact F7.out rfl
  clear F7 yh rO;obtain⟨tt,tm,td⟩:=tx;simp only at hx0 hx1 hx2;have hw1:IntKind.i64.wrap ((n:Int)-1)=((n-1:Nat):Int):=by rw[IntWalk.i64_in _ (by unfold maxLen at hcm;omega)];omega
  have hn1:n-1<n:=by omega
  generalize n-1=m at*;have HN:=zH hn;clear hrd hp hlast hn hcm;go_wp2;refine bodyPost_ret (v:=.tuple #[.agg #[.bool tt,.int .i64 tm,.int .i64 td],.int .i64 0]) (by simp[results,results77,go_sem,hkc]) rfl ⟨rfl,?_⟩;exact agV.out _ _ _
 ·have hzb:(z !=0)=true:=by simp[hz]
  have hzc:(z==0)=false:=by simp[hz]
  obtain rfl:R=(aJ,z):=yh.out hz;have HN:=zH hn;clear hz hn hrd;go_wp2;refine bodyPost_ret (v:=.tuple #[.agg #[.bool false,.int .i64 0,.int .i64 0],.int .i64 z]) (by simp[results,results77,go_sem,hkc]) rfl ⟨rfl,?_⟩;exact agV.out _ _ _
structure Bk where
 fr:Ra
 rt:Ra
deriving DecidableEq
def Bk.cells (b:Bk):List Value:=[.bool b.fr.neg,.string b.fr.num,.string b.fr.den,.bool b.rt.neg,.string b.rt.num,.string b.rt.den]
def bks (l:List Bk):List Value:=l.flatMap Bk.cells
def dA (a:Ra):Prop:=a.num.size<=1048576/\a.den.size<=1048576
def lH (b:Bk):Prop:=dA b.fr/\dA b.rt
def G8 (k:Nat) (p b:Bk):Bool:= !okR b.fr|| !okR b.rt||(if k=0 then decide (dD b.fr≠0) else decide (0<=kV p.fr b.fr))
def wG:Nat->Bk->List Bk->Bool
 |_,_,[]=>false
 |k,p,b::r=>G8 k p b||wG (k+1) b r
def lg (b:Bk):Bool:= !bQ b.fr|| !bQ b.rt
def eY (l:List Bk):Int:=if 8<l.length then 2 else if l.length=0 then 11 else if wG 0 ⟨zR,zR⟩ l then 11 else if l.any lg then 3 else 0
theorem QG (b:Bk) (hf:lH b) (w:World):Calls prog 75 #[.agg (Bk.cells b).toArray] w fun e w'=>e=.returned (.bool (lg b))/\Below w.heap.size w w':=by
 obtain⟨⟨h1,h2⟩,h3,h4⟩:=hf;have HA:=zH (fun W=>uh b.fr W (by omega) (by omega));have HB:=zH (fun W=>uh b.rt W (by omega) (by omega));have HU:Hid (lg b=(!bQ b.fr|| !bQ b.rt)):=rfl;obtain⟨⟨an,am,ad⟩,⟨bn,bm,bd⟩⟩:=b;unfold Bk.cells;simp only[Ra.v] at HA HB HU⊢;generalize bQ ⟨an,am,ad⟩=fa at*;generalize bQ ⟨bn,bm,bd⟩=fb at*;rw[HU.out];clear HU h1 h2 h3 h4;obtain⟨W,hW⟩:=zE (w.alloc (.cells #[.bool an,.string am,.string ad,.bool bn,.string bm,.string bd] 132));obtain⟨B,hB⟩:=zE w.heap.size;have hk0:aj W B 132 [.bool an,.string am,.string ad,.bool bn,.string bm,.string bd]:=by rw[hW,hB];exact aj.new w _ _
 have hba:Below w.heap.size w W:=by rw[hW];exact zB _ _
 have kW:=zH hk0;have bZ:=zH hba;have hkc:=hk0.cells;clear hk0 hba;cases fa
 ·go_enter func75,ntmps75;go_wp2_with fail;simp only[<-hW,<-hB]
  clear hW hB;go_wp2_with fail;refine (HA.out W).mono ?_;rintro e w5 ⟨rfl,hb5⟩;have lV:=zH (ah bZ.out hb5);clear hb5;go_wp2;go_ret;exact⟨rfl,lV.out⟩
 ·go_enter func75,ntmps75;go_wp2_with fail;simp only[<-hW,<-hB]
  clear hW hB;go_wp2_with fail;refine (HA.out W).mono ?_;rintro e w5 ⟨rfl,hb5⟩;have lV:=zH (ah bZ.out hb5);have hk5:=(kW.out.below hb5 kW.out.lt).cells;clear hb5;go_wp2_with fail;refine (HB.out _).mono ?_;rintro e w6 ⟨rfl,hb6⟩;have HBF:=zH (ah lV.out hb6);clear hb6;go_wp2;go_ret;exact⟨by simp,HBF.out⟩
theorem YM (p q:Bk) (l:List Bk):wG 0 p l=wG 0 q l:=by cases l<;>rfl
theorem YN (k:Nat) (p b:Bk) (r:List Bk):wG k p (b::r)=(G8 k p b||wG (k+1) b r):=rfl
theorem Rd.bk {w:World} {A:Option Addr} {l:List Bk} (h:Rd w A (bks l)) {j:Nat} (hj:j<l.length):
  ∃b off,A=some ⟨b,off,none⟩/\b<w.heap.size/\∀k (hk:k<l.length),w.cell? ⟨b,off+k*6,none⟩=some (.bool l[k].fr.neg)/\w.cell? ⟨b,off+k*6+1,none⟩=some (.string l[k].fr.num)/\w.cell? ⟨b,off+k*6+2,none⟩=some (.string l[k].fr.den)/\
   w.cell? ⟨b,off+k*6+3,none⟩=some (.bool l[k].rt.neg)/\w.cell? ⟨b,off+k*6+4,none⟩=some (.string l[k].rt.num)/\w.cell? ⟨b,off+k*6+5,none⟩=some (.string l[k].rt.den):=by
 obtain⟨b,off,hA,hb,_⟩:=Rd.row Bk.cells 6 (fun _=>rfl) (by omega) h hj;refine⟨b,off,hA,hb,fun k hk=>?_⟩;obtain⟨b',off',hA',hb',hc⟩:=Rd.row Bk.cells 6 (fun _=>rfl) (by omega) h hk;rw[hA] at hA';injection hA' with hA';injection hA' with h1 h2;subst h1 h2;exact⟨hc 0 _ rfl,hc 1 _ rfl,hc 2 _ rfl,hc 3 _ rfl,hc 4 _ rfl,hc 5 _ rfl⟩
theorem QH (w:World):PredBelow prog 75 #[] (fun x:{b:Bk // lH b}=>.agg (Bk.cells x.1).toArray) (fun x=>lg x.1) w:=fun W x hW=>by
 refine (QG x.1 x.2 W).mono ?_;rintro e w' ⟨rfl,h⟩;exact⟨rfl,ah hW h⟩
instance acW:Inhabited {b:Bk // lH b}:=⟨⟨⟨zR,zR⟩,⟨Nat.zero_le _,Nat.zero_le _⟩,Nat.zero_le _,Nat.zero_le _⟩⟩
theorem abf (l:List Bk) (A:Option Addr) (n c:Nat) (w:World) (hn:n=l.length) (hm:n<=maxLen) (h0:0<n) (hr:Rd w A (bks l)) (hf:∀b∈l,lH b):
  Calls prog 74 #[.slice A n c,.func (.func 75) #[] #[]] w fun e w'=>e=.returned (.bool (l.any lg))/\Below w.heap.size w w':=by
 obtain⟨b,off,rfl,hb,hc⟩:=Rd.row Bk.cells 6 (fun _=>rfl) (by omega) hr (j:=0) (by omega);have eg:∀args w,(callFunc 75 args).run prog w=.ok (.enter 75 args) w:=enters_of func75 (by kernel_rfl) rfl
 have h:=AnyQ.slices_ContainsFunc Tryz.conB 6 isAgg132 sizeOf132 (fun x:{b:Bk // lH b}=>Bk.cells x.1) (fun _=>rfl) (fun x=>lg x.1) 75 #[] eg b off n c (l.attach.map fun x=>⟨x.1,hf x.1 x.2⟩) w
  (QH w) (by rw[length_map,length_attach];omega) (by unfold maxLen at hm;omega) hb (fun j hj i v hv=>by
    rw[length_map,length_attach] at hj;obtain⟨b',off',hA',hb',hc'⟩:=Rd.row Bk.cells 6 (fun _=>rfl) (by omega) hr hj;injection hA' with hA';injection hA' with h1 h2;subst h1 h2;refine hc' i v ?_;rw[getElem!_pos _ _ (by rw[length_map,length_attach];exact hj)] at hv;simpa using hv)
 have e1:((l.attach.map fun x=>(⟨x.1,hf x.1 x.2⟩:{b:Bk // lH b})).take n).any (fun x=>lg x.1)=l.any lg:=by
  rw[take_of_length_le (by rw[length_map,length_attach];omega),any_map];rw[Bool.eq_iff_iff,any_eq_true,any_eq_true];constructor
  ·rintro⟨x,_,h⟩;exact⟨x.1,x.2,h⟩
  ·rintro⟨x,hx,h⟩;exact⟨⟨x,hx⟩,mem_attach _ _,h⟩
 rw[e1] at h;exact h
theorem VL (nm:ByteArray) (m d:Int) (l:List Bk) (A:Option Addr) (n c:Nat) (w:World) (hn:n=l.length) (hm:n<=maxLen) (hr:Rd w A (bks l)) (hf:∀b∈l,lH b):
  Calls prog 30 #[.agg #[.string nm,.int .i64 m,.int .i64 d,.slice A n c]] w fun e w'=>e=.returned (.int .i64 (eY l))/\Below w.heap.size w w':=by
 have HUF:=zH (fun W (hb:Below w.heap.size w W) h0=>abf l A n c W hn hm h0 (hr.below hb) hf);have HR:=zH hr;have HF:=zH hf;have HN:=zH hn;have hm2:n<=9223372036854775807:=by unfold maxLen at hm;omega
 obtain⟨z,hz⟩:=zE (eY l);rw[<-hz];have HZ:=zH hz;clear hm hr hf hz hn;go_enter func30,ntmps30
 go_upto_region 1 with fail
 generalize hX:w.alloc _=W;obtain⟨hk,hb0⟩:=zA hX;have hkc:=hk.cells;clear hX hk;by_cases h8:8<n
 ·obtain rfl:z=2:=by rw[HZ.out];unfold eY;rw[<-HN.out,if_pos h8]
  clear HZ;go_wp2;go_ret;exact⟨rfl,hb0⟩
 by_cases h0:n=0
 ·obtain rfl:z=11:=by rw[HZ.out];unfold eY;rw[<-HN.out,if_neg h8,if_pos h0]
  clear HZ;subst h0;go_wp2;go_ret;exact⟨rfl,hb0⟩
 have HE:Hid (z=if wG 0 (l.getD (0-1) ⟨zR,zR⟩) l=true then 11 else if l.any lg then 3 else 0):=by show _=_;rw[HZ.out];unfold eY;rw[<-HN.out,if_neg h8,if_neg h0,YM]
 clear HZ;have h0b:((n:Int)==0)=false:=by simp[h0]
 go_wp2_with fail
 go_loopg [18] n (fun g iv wr=>∃j:Nat,j+g=n/\iv=.int .i64 j/\Hid (wG 0 (l.getD (0-1) ⟨zR,zR⟩) l=wG j (l.getD (j-1) ⟨zR,zR⟩) (l.drop j))/\Hid (∀k (hk:k<l.length),k<j->okR l[k].fr=true)/\Below W.heap.size W wr)
 case atStart=>exact⟨0,by omega,rfl,rfl,(fun k hk h=>absurd h (by omega)),Below.refl _ _⟩
 case round=>
  obtain⟨j,hj,rfl,hgo,hok,hbr⟩:=hrel;have hbw:=ah hb0 hbr;by_cases hlt:j<n
  ·have hjl:j<l.length:=by rw[<-HN.out];exact hlt
   obtain⟨b,off,rfl,hbb,hcs⟩:=(HR.out.below hbw).bk hjl;have hc:=hcs j hjl;obtain⟨⟨f1,f2⟩,f3,f4⟩:=HF.out l[j] (getElem_mem hjl);have Ee:=hgo.out;rw[drop_eq_getElem_cons hjl,YN] at Ee;have HRF:=zH (fun W=>qV l[j].fr W (by omega) (by omega));have rQ:=zH (fun W=>qV l[j].rt W (by omega) (by omega));have YH:=zH (fun W=>ug l[j].fr W (by omega) (by omega))
   have HCM:Hid (∀W (h:0<j),okR l[j].fr=true->Calls prog 73 #[(l[j-1]'(by omega)).fr.v,l[j].fr.v] W fun e w'=>e=.returned (.int .i64 (kV (l.getD (j-1) ⟨zR,zR⟩).fr l[j].fr))/\Below W.heap.size W w'):=fun W h ho=>by
    have hj1:j-1<l.length:=by omega
    obtain⟨⟨g1,g2⟩,_⟩:=HF.out l[j-1] (getElem_mem hj1);have h1:=Si l[j-1].fr l[j].fr W (hok.out _ hj1 (by omega)) ho 1048576 (by omega) g1 g2 f1 f2;have e1:l.getD (j-1) ⟨zR,zR⟩=l[j-1]:=by rw[getD_eq_getElem?_getD,getElem?_eq_getElem hj1];rfl
    rw[e1];exact h1
   have abg:Hid (okR l[j].fr=true->∀k (hk:k<l.length),k<j+1->okR l[k].fr=true):=fun h k hk hkj=>by
    by_cases e:k<j
    ·exact hok.out k hk e
    ·obtain rfl:k=j:=by omega
     exact h
   have hnx:l[j]=l.getD (j+1-1) ⟨zR,zR⟩:=by rw[Nat.add_sub_cancel,getD_eq_getElem?_getD,getElem?_eq_getElem hjl];rfl
   have HPC:=zH (fun X (hX:Below wr.heap.size wr X) (h:0<j)=>have q:=hcs (j-1) (by omega);And.intro ((hX.cell (p:=⟨b,off+(j-1)*6,none⟩) hbb).trans q.1) (And.intro ((hX.cell (p:=⟨b,off+(j-1)*6+1,none⟩) hbb).trans q.2.1) ((hX.cell (p:=⟨b,off+(j-1)*6+2,none⟩) hbb).trans q.2.2.1)));have kU:Hid (G8 j (l.getD (j-1) ⟨zR,zR⟩) l[j]=(!okR l[j].fr|| !okR l[j].rt||(if j=0 then decide (dD l[j].fr≠0) else decide (0<=kV (l.getD (j-1) ⟨zR,zR⟩).fr l[j].fr)))):=rfl;generalize G8 j (l.getD (j-1) ⟨zR,zR⟩) l[j]=bx at Ee kU;generalize kV (l.getD (j-1) ⟨zR,zR⟩).fr l[j].fr=cm at kU HCM;rw[hnx] at Ee;replace Ee:=zH Ee;clear hnx;generalize l[j]=bb at*;obtain⟨⟨an,am,ad⟩,⟨bn,bm,bd⟩⟩:=bb;simp only[Ra.v] at hc HRF rQ YH HCM kU abg;generalize okR ⟨an,am,ad⟩=okf at*;generalize okR ⟨bn,bm,bd⟩=okr at*;generalize dD ⟨an,am,ad⟩=sg at*;clear hgo hcs f1 f2 f3 f4 hok
   go_upto_region 9 with fail
   generalize hX:wr.alloc _=X;obtain⟨hk5,hb5⟩:=zA hX;clear hX hc;have hkx:=fun Y (hY:Below X.heap.size X Y)=>have q:=(hk5.below hY hk5.lt).cells;And.intro (q 0) (And.intro (q 1) (And.intro (q 2) (And.intro (q 3) (And.intro (q 4) (q 5)))))
   simp only[getElem?_cons_zero,getElem?_cons_succ] at hkx;have hq:=hkx X (Below.refl _ _);go_wp2_with fail;refine (HRF.out _).mono ?_;rintro e w6 ⟨rfl,hb6⟩;have hq:=hkx w6 hb6;cases okf
   ·obtain rfl:z=11:=by rw[HE.out,Ee.out,kU.out];rfl
    go_wp2;go_ret;exact⟨rfl,ah hbw (ah hb5 hb6)⟩
   go_wp2_with fail;refine (rQ.out _).mono ?_;rintro e w7 ⟨rfl,hb7⟩;cases okr
   ·obtain rfl:z=11:=by rw[HE.out,Ee.out,kU.out];rfl
    go_wp2;go_ret;exact⟨rfl,ah hbw (ah hb5 (ah hb6 hb7))⟩
   have abh:=ah hb6 hb7;clear hb6 hb7 hq HRF rQ
   go_upto_region 11 with fail
   have hbz:=fun Y (hY:Below w7.heap.size w7 Y)=>hkx Y (ah abh hY)
   go_cut [56] from 33 to 56 (fun v Y=>v=.bool bx/\Below w7.heap.size w7 Y)
   case first=>
    by_cases hj0:j=0
    ·have hbx:bx=decide (sg≠0):=by rw[kU.out,if_pos hj0];rfl
     subst hj0;refine jL (Below w7.heap.size w7) 99 (aI _ _ 1) (fun w8 _ hS=>?_)
     iterate 5 refine dR ?_
     refine mg 5 (YH.out w8) ?_;rintro e w9 ⟨rfl,fP⟩;refine⟨_,rfl,ah hS fP,fun hS=>?_⟩;by_cases hs0:sg=0
     ·subst hs0;obtain rfl:bx=false:=hbx
      iterate 6 refine dR ?_
      iterate 10 refine J7 ?_
      iterate 2 refine dR ?_
      refine iW ?_;go_wp2
      go_meet
      case rel=>exact⟨rfl,hS⟩
     ·obtain rfl:bx=true:=by rw[hbx];exact decide_eq_true hs0
      have hsb:(sg !=0)=true:=bne_iff_ne.2 hs0;clear hbx kU YH HCM HPC Ee abg HF HR HE HUF hkc
      iterate 3 refine dR ?_
      iterate 14 refine J7 ?_
      refine dR ?_;refine iW ?_;go_wp2
      go_meet
      case rel=>exact⟨rfl,hS⟩
    ·have hbx:bx=decide (0<=cm):=by rw[kU.out,if_neg hj0];rfl
     have hj1:((j:Int)==0)=false:=by simp[hj0]
     have hj2:(0:Int)<(j:Int):=by omega
     have hj3:0<j:=by omega
     have hbp:=fun Y (hY:Below w7.heap.size w7 Y)=>HPC.out Y (ah hb5 (ah abh hY)) (by omega)
     have HC:=zH (fun W=>HCM.out W (by omega) trivial);have hw1:IntKind.i64.wrap ((j:Int)-1)=((j-1:Nat):Int):=by rw[IntWalk.i64_in _ (by omega)];omega
     have hin:j-1<n:=by omega
     clear HPC HCM;generalize l[j-1]=pb at hbp HC;obtain⟨⟨pn,pm,pd⟩,pr⟩:=pb;simp only at hbp HC;generalize j-1=i at*;have i0:(0:Int)<=(i:Int):=by omega
     have i1:(i:Int)<(n:Int):=by omega
     refine jL (Below w7.heap.size w7) 99 (aI _ _ 1) (fun w8 _ hS=>?_)
     iterate 3 refine dR ?_
     iterate 4 refine J7 ?_
     iterate 13 refine dR ?_
     refine mg 20 (HC.out w8) ?_;rintro e w9 ⟨rfl,fP⟩;refine⟨_,rfl,ah hS fP,fun hS=>?_⟩
     iterate 3 refine dR ?_
     refine iW ?_;go_wp2
     go_meet
     case rel=>exact⟨by rw[hbx],hS⟩
   case rest=>
    obtain⟨rfl,hbc⟩:=hcut;have hbx:=ah hb5 (ah abh hbc);cases bx
    ·go_wp2
     go_roundg (n-(j+1))
     case measure=>omega
     case rel=>exact⟨j+1,by omega,by go_num,Ee,abg.out trivial,ah hbr hbx⟩
    ·obtain rfl:z=11:=by rw[HE.out,Ee.out];rfl
     go_wp2;go_ret;exact⟨rfl,ah hbw hbx⟩
  ·obtain rfl:j=n:=by omega
   have hU:=HUF.out _ hbw (by omega);have hgo:=hgo.out;rw[HN.out,drop_length] at hgo;have hz:z=if l.any lg then 3 else 0:=by rw[HE.out,hgo];rfl
   generalize l.any lg=an at*;go_wp2_with fail;refine hU.mono ?_;rintro e w6 ⟨rfl,hb6⟩;subst hz;cases an
   all_goals
    go_wp2;go_ret;exact⟨rfl,ah hbw hb6⟩
structure Hd where
 a:Option Addr
 n:Nat
 c:Nat
structure dB {α:Type} (w:World) (enc:α->List Value) (xs:List α) (h:Hd):Prop where
 len:h.n=xs.length
 cap:h.n<=h.c
 max:h.c<=maxLen
 rd:Rd w h.a (xs.flatMap enc)
theorem dB.below {α:Type} {w w':World} {enc:α->List Value} {xs:List α} {h:Hd} (k:dB w enc xs h) (hb:Below w.heap.size w w'):dB w' enc xs h:=⟨k.len,k.cap,k.max,k.rd.below hb⟩
theorem dB.nil {α:Type} (w:World) (enc:α->List Value):dB w enc ([]:List α) ⟨none,0,0⟩:=⟨rfl,Nat.le_refl _,Nat.zero_le _,.inl rfl⟩
theorem dB.BO {α:Type} {w:World} {enc:α->List Value} {xs:List α} {base m n:Nat} {e:TypeId} {v:Value} (h:w.ownsRow base e m v n (xs.flatMap enc)) (hn:n=xs.length):∃h:Hd,v=.slice h.a h.n h.c/\h.n=n/\dB w enc xs h:=by
 obtain⟨A,c,rfl,h1,h2,h3,_⟩:=dK h;exact⟨⟨A,n,c⟩,rfl,rfl,hn,h1,h2,h3⟩
structure Dc where
 name:ByteArray
 ty:Ty
deriving DecidableEq
structure Sc where
 name:ByteArray
 aA:Int
 days:Int
 bJ:List Bk
deriving DecidableEq
structure Pv where
 name:ByteArray
 ty:Ty
 fH:Bool
 step:Ra
 cap:Ra
 body:List Nd
deriving DecidableEq
structure Lw where
 facts:List Dc
 aH:List Sc
 ay:List Pv
deriving DecidableEq
def Dc.cells (d:Dc):List Value:=[.string d.name,.bool d.ty.truth,.int .i64 d.ty.aA,.int .i64 d.ty.days]
def kG (s:Sc × Hd):List Value:=[.string s.1.name,.int .i64 s.1.aA,.int .i64 s.1.days,.slice s.2.a s.2.n s.2.c]
def cO (p:Pv × Hd):List Value:=[.string p.1.name,.bool p.1.ty.truth,.int .i64 p.1.ty.aA,.int .i64 p.1.ty.days,.slice p.2.a p.2.n p.2.c,.bool p.1.fH,
 .bool p.1.step.neg,.string p.1.step.num,.string p.1.step.den,.bool p.1.cap.neg,.string p.1.cap.num,.string p.1.cap.den]
structure iQ (w:World) (l:Lw) (ss:List (Sc × Hd)) (ps:List (Pv × Hd)) (f s p:Hd):Prop where
 f:dB w Dc.cells l.facts f
 s:dB w kG ss s
 p:dB w cO ps p
 sl:ss.map Prod.fst=l.aH
 pl:ps.map Prod.fst=l.ay
 sb:∀x∈ss,dB w Bk.cells x.1.bJ x.2
 pb:∀x∈ps,dB w Nd.cells x.1.body x.2
theorem iQ.below {w w':World} {l:Lw} {ss:List (Sc × Hd)} {ps:List (Pv × Hd)} {f s p:Hd} (k:iQ w l ss ps f s p) (hb:Below w.heap.size w w'):iQ w' l ss ps f s p:=
 ⟨k.f.below hb,k.s.below hb,k.p.below hb,k.sl,k.pl,fun x hx=>(k.sb x hx).below hb,fun x hx=>(k.pb x hx).below hb⟩
def nD (f s p:Hd):Value:=.agg #[.slice f.a f.n f.c,.slice s.a s.n s.c,.slice p.a p.n p.c]
structure lW (l:Lw):Prop where
 fn:l.facts.length<=1000
 sn:l.aH.length<=1000
 pn:l.ay.length<=1000
 sb:∀s∈l.aH,∀b∈s.bJ,lH b
 pb:∀p∈l.ay,dA p.step/\dA p.cap/\∀n∈p.body,Fine n
def oM (d:Dc):Sg:=⟨5,d.name,d.ty⟩
def jd (op:Int) (p:Pv):Sg:=⟨op,p.name,p.ty⟩
def oN (s:Sc):Sg:=⟨24,s.name,⟨false,s.aA,s.days⟩⟩
def dO (l:Lw):List Sg:=l.facts.map oM++(l.ay.map (jd 6)++(l.ay.map (jd 7)++(l.ay.map (jd 8)++l.aH.map oN)))
def dX (p:Pv):Bool:=decide (p.step=zR)&&decide (p.cap=zR)
def iO (p:Pv):Bool:= !p.ty.truth&&(bQ p.step&&(bQ p.cap&&(decide (0<dD p.step)&&(decide ((fB p.cap p.step).1.den=(aK 1).den)&&(decide (0<dD (fB p.cap p.step).1)&&decide (kV (fB p.cap p.step).1 (aK 200)<=0))))))
def iJ (sg:List Sg) (p:Pv):Int:=if (gU sg p.body).2≠0 then (gU sg p.body).2 else if (gU sg p.body).1≠p.ty then 13 else if (p.fH&&decide (p.ty≠aV))||(!dX p&& !iO p) then 1 else 0
def jQ (l:Lw):Bool:=l.facts.all (fun d=>aN d.ty)&&(l.ay.all (fun p=>aN p.ty)&&l.aH.all (fun s=>dU s.aA s.days))
theorem VN (a b:List Sg):D7 (a++b)=D7 a++D7 b:=flatMap_append
section
set_option maxRecDepth 100000
theorem kC {a:Ra} (h:bQ a=true):okR a=true/\a.num.size<=50/\a.den.size<=50:=by
 unfold bQ at h;simp only[Bool.and_eq_true,decide_eq_true_eq] at h;obtain⟨⟨h1,h2⟩,h3⟩:=h;obtain⟨p1,p2,p3,p4⟩:=eU h1
 have key:∀L n,gQ n<=8*L->n<256 ^ L:=fun L n hn=>by
  unfold gQ at hn;rw[show (256:Nat)=2 ^ 8 from rfl,<-Nat.pow_mul];split at hn
  ·next h0=>rw[h0];exact Nat.pow_pos (by omega)
  ·next h0=>exact (Nat.log2_lt h0 (k:=8*L)).1 (by omega)
 refine⟨h1,?_,?_⟩
 ·rw[<-Vl p3];exact aY _ 50 (key 50 _ h2)
 ·rw[<-Vl p1];exact aY _ 50 (key 50 _ h3)
theorem oO {a:Ra} (h:0<dD a):a.num≠⟨#[]⟩:=by
 intro e;unfold dD at h;split at h
 ·next h1=>
  split at h
  ·cases h
  ·next h2=>
   split at h
   ·cases h
   ·next h3=>
    obtain⟨p1,p2,p3,p4⟩:=eU h1;refine h2 ?_;rw[<-p4,e];unfold low aK;have e0:ak ⟨#[]⟩=0:=rfl;rw[e0,Nat.gcd_zero_left,Nat.zero_div,Nat.div_self p2];simp
 ·cases h
theorem G9 (x:Pv × Hd) (w:World):Calls prog 78 #[.agg (cO x).toArray] w fun e w'=>e=.returned (.bool (dX x.1))/\Below w.heap.size w w':=by
 unfold dX;have uw:=fun W=>nM x.1.step zR W
 have HE2:=fun W=>nM x.1.cap zR W
 generalize decide (x.1.step=zR)=a at*;generalize decide (x.1.cap=zR)=b at*;obtain⟨⟨nm,⟨tt,tm,td⟩,ch,⟨He,Hf,Hg⟩,⟨Hl,Ho,cn3⟩,bo⟩,⟨ha,hn,hcc⟩⟩:=x;unfold cO;simp only[Ra.v,zR] at uw HE2⊢;go_enter func78,ntmps78
 go_upto_region 1 with fail
 generalize hX:w.alloc _=W;obtain⟨hk,hb⟩:=zA hX;have hkc:=hk.cells;clear hX hk;cases a
 all_goals
  go_wp2;go_ret;exact⟨by simp,hb⟩
theorem QI (x:Pv × Hd) (w:World) (hs:dA x.1.step) (hc:dA x.1.cap):Calls prog 79 #[.agg (cO x).toArray] w fun e w'=>e=.returned (.bool (iO x.1))/\Below w.heap.size w w':=by
 obtain⟨s1,s2⟩:=hs;obtain⟨c1,c2⟩:=hc;have h1:=cu (Ld:=bG) fun W _=>uh x.1.step W (by omega) (by omega)
 have h2:=cu (Ld:=bG) fun W _=>uh x.1.cap W (by omega) (by omega)
 have h3:=cu (Ld:=bG) fun W _=>ug x.1.step W (by omega) (by omega)
 have hP:iO x.1=(!x.1.ty.truth&&(bQ x.1.step&&(bQ x.1.cap&&(decide (0<dD x.1.step)&&(decide ((fB x.1.cap x.1.step).1.den=(aK 1).den)&&(decide (0<dD (fB x.1.cap x.1.step).1)&&decide (kV (fB x.1.cap x.1.step).1 (aK 200)<=0))))))):=rfl;rw[hP];clear hP;refine iF (Ld:=bG) (us:=[.agg (cO x).toArray]) ?_ w trivial (hs:=.ag (ws:=cO x) (by unfold cO;repeat constructor) .nil);refine dh func79 fun X=>?_
 refine run ?_;refine dH [(.s 25,.s (.v (bP (x.1.ty.truth|| !bQ x.1.step|| !bQ x.1.cap||decide (dD x.1.step<=0)))))] ?_;refine run ?_;refine bM (fun h=>?_) fun h=>?_
 ·refine run ?_
  exact aF (hr:=congrArg bP (by
   simp only[Bool.or_eq_true,Bool.not_eq_true',decide_eq_true_eq] at h;rcases h with ((h|h)|h)|h
   ·simp[h]
   ·simp[h]
   ·simp[h]
   ·simp[show ¬0<dD x.1.step by omega]))
 simp only[Bool.or_eq_false_iff,Bool.not_eq_false',decide_eq_false_iff_not] at h;obtain⟨⟨⟨h4,h5⟩,h6⟩,h7⟩:=h;have h8:0<dD x.1.step:=by omega
 obtain⟨p1,p2,p3⟩:=kC h5;obtain⟨q1,q2,q3⟩:=kC h6;have hz:=Yc x.1.cap x.1.step 50 q2 q3 p2 p3
 have hq:okR (fB x.1.cap x.1.step).1=true:=by
  unfold fB;rw[if_neg (oO h8)];exact Dl _ _ _ (Nat.mul_pos (eU q1).2.1 (yF (eU p1).2.2.1 (oO h8)))
 have z2:okR (aK 200)=true/\(aK 200).num.size<=100/\(aK 200).den.size<=100:=by decide+kernel
 have c3:=mQ (Ld:=bG) (.ra _ (.ra _ .nil)) (.ra _ (.sc .nil)) rfl fun W _=>ad6 x.1.cap x.1.step W q1 p1 (oO h8) 50 (by omega) q2 q3 p2 p3
 have c4:=cu (Ld:=bG) fun W _=>mV 1 W (by omega) (by omega)
 have c5:=cu (Ld:=bG) fun W _=>mV 200 W (by omega) (by omega)
 have c6:=cu (Ld:=bG) fun W _=>ug (fB x.1.cap x.1.step).1 W (by omega) (by omega)
 have c7:=cu (Ld:=bG) fun W _=>Si (fB x.1.cap x.1.step).1 (aK 200) W hq z2.1 100 (by omega) hz.1 hz.2 z2.2.1 z2.2.2
 rw[h4,h5,h6,decide_eq_true h8];clear h1 h2 h3 hz z2 p1 p2 p3 q1 q2 q3 hq;generalize (fB x.1.cap x.1.step).1=q at*;generalize aK 1=o1 at*;generalize aK 200=o2 at*;refine run ?_;refine dH [(.s 2,.s (.v (bP (decide (q.den=o1.den)&&decide (0<dD q)&&decide (kV q o2<=0)))))] ?_;refine run ?_;exact aF (hr:=by simp[Bool.and_assoc])
end
section
set_option maxRecDepth 100000
set_option maxHeartbeats 2000000
abbrev Pv.p (x:Pv):PV:=.ag [sP x.name,bP x.ty.truth,iP x.ty.aA,iP x.ty.days,.sl 5 (x.body.map Nd.p),bP x.fH,bP x.step.neg,sP x.step.num,sP x.step.den,bP x.cap.neg,sP x.cap.num,sP x.cap.den]
variable {Ld:bU}
theorem YO (x:Pv):PC prog Ld 118 [x.p] (·=bP (dX x)):=by
 have hp:dX x=(decide (x.step=zR)&&decide (x.cap=zR)):=rfl;have h1:=fun w=>nM x.step zR w
 have h2:=fun w=>nM x.cap zR w
 generalize decide (x.step=zR)=a at*;generalize decide (x.cap=zR)=b at*;simp only[Ra.v,zR] at h1 h2;refine dh func118 fun X=>?_
 refine run ?_;refine dH [(.s 2,.s (.v (bP (dX x))))] ?_;refine run ?_;exact aF
theorem amn (a b:Ra) (ha:okR a=true) (hb:okR b=true) (h0:b.num≠⟨#[]⟩) (h1:dA a) (h2:dA b):PC prog Ld 61 [a.p,b.p] (·=.tu [(fB a b).1.p,bP true]):=
 mQ (.ag (by repeat constructor) (.ag (by repeat constructor) .nil)) (.ag (by repeat constructor) (.sc .nil)) rfl fun w _=>NV a b w ha hb h0 1048576 (by omega) h1.1 h1.2 h2.1 h2.2
def Hq (x:Pv):Int:=if iO x then (ak (fB x.cap x.step).1.num:Int) else 0
theorem agZ (x:Pv) (hs:dA x.step) (hc:dA x.cap):PC prog Ld 119 [x.p] (·=iP (Hq x)):=by
 have hU:Hq x=if iO x then (ak (fB x.cap x.step).1.num:Int) else 0:=rfl
 have hC:iO x=(!x.ty.truth&&(bQ x.step&&(bQ x.cap&&(decide (0<dD x.step)&&(decide ((fB x.cap x.step).1.den=(aK 1).den)&&(decide (0<dD (fB x.cap x.step).1)&&decide (kV (fB x.cap x.step).1 (aK 200)<=0))))))):=rfl;have h1:=GY (Ld:=Ld) x.step (Nat.le_trans hs.1 (by decide)) (Nat.le_trans hs.2 (by decide));have h2:=GY (Ld:=Ld) x.cap (Nat.le_trans hc.1 (by decide)) (Nat.le_trans hc.2 (by decide));have h3:=Vq (Ld:=Ld) x.step (Nat.le_trans hs.1 (by decide)) (Nat.le_trans hs.2 (by decide));refine dh func119 fun X=>?_
 refine run ?_;refine dH [(.s 26,.s (.v (bP (x.ty.truth|| !bQ x.step|| !bQ x.cap||decide (dD x.step<=0)))))] ?_;refine run ?_;refine bM (fun h=>?_) fun h=>?_
 ·refine run ?_;refine aF (hr:=?_);rw[hU,if_neg];rfl;rw[hC];simp only[Bool.or_eq_true,Bool.not_eq_true',decide_eq_true_eq] at h;rcases h with ((h|h)|h)|h<;>simp[h]
  omega
 ·simp only[Bool.or_eq_false_iff,Bool.not_eq_false',decide_eq_false_iff_not] at h;obtain⟨⟨⟨g1,g2⟩,g3⟩,g4⟩:=h;have h4:=amn (Ld:=Ld) x.cap x.step (kC g3).1 (kC g2).1 (oO (by omega)) hc hs
  have h5:okR (fB x.cap x.step).1=true:=by
   unfold fB;rw[if_neg (oO (by omega))];exact Dl _ _ _ (Nat.mul_pos (eU (kC g3).1).2.1 (yF (eU (kC g2).1).2.2.1 (oO (by omega))))
  have h6:=GR h5;rw[g1,g2,g3,decide_eq_true (show 0<dD x.step by omega)] at hC;generalize (fB x.cap x.step).1=q at*;have h7:iO x=true↔∃n:Nat,1<=n/\n<=200/\q=aK (n:Int):=by rw[<-h6,hC];simp
  clear h6 hC h5;have he:=nM;unfold Ra.v at he;refine run ?_;refine mO 200 (fun k=>∀i:Nat,1<=i->i<=k->q≠aK (i:Int)) (fun k=>[(.s 5,.s (.v (nP (k+1))))]) [.s 3,.o 3] ?_ (fun i h1 h2=>by omega);intro k hk hJ hw;refine run ?_;refine aZ (fun hu=>?_) fun hu=>?_
  ·have h8:=xk (Ld:=Ld) ((k+1:Nat):Int) (by omega) (by omega);have hw2:IntKind.i64.wrap ((k:Int)+1+1)=((k+1+1:Nat):Int):=by rw[IntWalk.i64_in _ (by omega)];omega
   have h9:=o7 (k+1);refine run ?_;refine aZ (fun hv=>?_) fun hv=>?_
   ·have hv:q=aK ((k+1:Nat):Int):=hv;refine run ?_;refine aF (hr:=?_);rw[hU,if_pos (h7.2 ⟨k+1,by omega,by omega,hv⟩),hv,h9];simp only[aS]
   ·refine run ?_;refine mP fun i g5 g6=>?_
    by_cases hi:i=k+1
    ·rw[hi];exact hv
    ·exact hJ i g5 (by omega)
  ·refine run ?_;refine aF (hr:=?_);rw[hU,if_neg];rfl;rw[h7];rintro⟨n,g5,g6,g7⟩;exact hJ n g5 (by omega) g7
end
section
set_option maxRecDepth 100000
set_option maxHeartbeats 2000000
variable {Ld:bU}
theorem abj (x:Pv):decide (Hq x=0)= !iO x:=by
 unfold Hq;cases h:iO x
 ·rfl
 ·have hC:(!x.ty.truth&&(bQ x.step&&(bQ x.cap&&(decide (0<dD x.step)&&(decide ((fB x.cap x.step).1.den=(aK 1).den)&&(decide (0<dD (fB x.cap x.step).1)&&decide (kV (fB x.cap x.step).1 (aK 200)<=0)))))))=true:=h;simp only[Bool.and_eq_true,decide_eq_true_eq] at hC;obtain⟨_,g2,g3,g4,g5,g6,g7⟩:=hC
  have h5:okR (fB x.cap x.step).1=true:=by
   unfold fB;rw[if_neg (oO (by omega))];exact Dl _ _ _ (Nat.mul_pos (eU (kC g3).1).2.1 (yF (eU (kC g2).1).2.2.1 (oO (by omega))))
  obtain⟨n,h1,_,h3⟩:=(GR h5).1 ⟨g5,g6,g7⟩;rw[if_pos rfl,h3,o7,aS];exact decide_eq_false (by omega)
theorem VO (sg:List Sg) (x:Pv) (hg:sg.length<=1000) (hf:∀n∈x.body,Fine n) (hl:x.body.length<=100000) (hs:dA x.step) (hc:dA x.cap):PC prog Ld 60 [.sl 5 (sg.map Sg.p),x.p] (·=iP (iJ sg x)):=by
 have h1:=xType (Ld:=Ld) sg x.body hg hf hl;have h2:=YO (Ld:=Ld) x;have h3:=agZ (Ld:=Ld) x hs hc;have hz:=abj x;have hE:iJ sg x=if (gU sg x.body).2≠0 then (gU sg x.body).2 else if (gU sg x.body).1≠x.ty then 13 else if (x.fH&&decide (x.ty≠aV))||(!dX x&& !iO x) then 1 else 0:=rfl
 have he:=Bj;unfold Ty.v at he;have hk:=fun w=>Bj x.ty aV w
 rw[decide_not] at hE;generalize decide (x.ty=aV)=b at*;simp only[Ty.v,aV] at hk;generalize gU sg x.body=z at*;refine dh func60 fun X=>?_
 refine run ?_;refine bM (fun h=>?_) fun h=>?_
 ·refine run ?_;exact aF (hr:=by rw[hE,if_pos (by simpa using h)])
 ·rw[if_neg (by simpa using h)] at hE;refine run ?_;refine bM (fun h=>?_) fun h=>?_
  ·refine run ?_;exact aF (hr:=by rw[hE,if_pos (by simpa using h)];rfl)
  ·rw[if_neg (by simpa using h)] at hE;clear he;refine run ?_;refine dH [(.s 38,.s (.v (bP ((x.fH&& !b)||(!dX x&& !iO x)))))] ?_;refine run ?_;refine bM (fun h=>?_) fun h=>?_
   ·rw[if_pos h] at hE;refine run ?_;exact aF (hr:=by rw[hE];rfl)
   ·rw[if_neg (by rw[h];simp)] at hE;refine run ?_;exact aF (hr:=by rw[hE];rfl)
end
section
set_option maxRecDepth 100000
set_option maxHeartbeats 2000000
variable {Ld:bU}
def I64 (n:Int):Prop:= -9223372036854775808<=n/\n<=9223372036854775807
theorem vw (a m:Int) (hm:0<m):(0<=a.tmod m/\a % m=a.tmod m)∨(a.tmod m<0/\a % m=a.tmod m+m):=by
 have h1:=Int.tmod_def a m;have h2:=Int.emod_nonneg a (show m≠0 by omega);have h3:=Int.emod_lt_of_pos a hm;have h4:=Int.tmod_eq_emod (a:=a) (b:=m);split at h4
 ·left;omega
 ·rw[Int.natAbs_of_nonneg (by omega)] at h4
  right;omega
theorem abk (a m:Int) (ha:I64 a) (hm:0<m) (hm2:m<=9223372036854775807):PC prog Ld 12 [iP a,iP m] (·=iP (a % m)):=by
 obtain⟨h0,h1⟩:=ha;have h2:=Int.emod_nonneg a (show m≠0 by omega);have h3:=Int.emod_lt_of_pos a hm;have hw:IntKind.i64.wrap (a.tmod m)=a.tmod m:=IntWalk.i64_in _ (by rcases vw a m hm with h|h<;>omega);have hmz:(m==0)=false:=by rw[beq_eq_false_iff_ne];omega
 have ao5:¬m=0:=by omega
 refine dh func12 fun X=>?_
 refine run ?_;refine aZ (fun h=>?_) fun h=>?_
 ·have e:a.tmod m+m=a % m:=by rcases vw a m hm with h|h<;>omega
  have hw2:IntKind.i64.wrap (a % m)=a % m:=IntWalk.i64_in _ (by omega);refine run ?_;exact aF
 ·have e:a.tmod m=a % m:=by rcases vw a m hm with h|h<;>omega
  rw[e] at*;refine run ?_;exact aF
structure Dr where
 l:List Int
 k:Nat
abbrev Dr.cs (d:Dr):List PV:=[.sl 1 (d.l.map iP),nP d.k]
class eG (d:Dr):Prop where
 r:∀x∈d.l,I64 x
 n:d.l.length<=1000000
@[irreducible] def Dr.nx (d:Dr) (n:Int):Int:=if h:d.k<d.l.length then d.l[d.k] % n else 0
@[irreducible] def Dr.go (d:Dr):Dr:=if d.k<d.l.length then ⟨d.l,d.k+1⟩ else d
class Ps (n:Int):Prop where
 p:0<n/\n<=1000
instance:Ps 2:=⟨by decide⟩
instance:Ps 3:=⟨by decide⟩
instance:Ps 4:=⟨by decide⟩
instance:Ps 5:=⟨by decide⟩
instance:Ps 6:=⟨by decide⟩
instance:Ps 7:=⟨by decide⟩
instance:Ps 8:=⟨by decide⟩
instance:Ps 30:=⟨by decide⟩
instance:Ps 40:=⟨by decide⟩
instance:Ps 100:=⟨by decide⟩
theorem Dr.lt (d:Dr) (n:Int) [h:Ps n]:0<=d.nx n/\d.nx n<n:=by
 have:=h.p;unfold Dr.nx;split
 ·exact⟨Int.emod_nonneg _ (by omega),Int.emod_lt_of_pos _ (by omega)⟩
 ·omega
instance (d:Dr) [h:eG d]:eG d.go:=by
 unfold Dr.go;split
 ·exact⟨h.r,h.n⟩
 ·exact h
theorem Dr.wr (c:Int) (d:Dr) (n:Int) [h:Ps n] (hc:-1000000<=c/\c<=1000000):IntKind.i64.wrap (c+d.nx n)=c+d.nx n:=by
 have:=d.lt n;have:=h.p;exact IntWalk.i64_in _ (by omega)
instance LJ (d:Dr) (n:Int) [h:eG d] [hn:Ps n]:U0 prog Ld 49 [none,some (iP n)] d.cs (iP (d.nx n)) d.go.cs:=by
 constructor;refine yX func49 fun X=>?_
 have:=h.n;refine run ?_;refine aZ (fun hu=>?_) fun hu=>?_
 ·have h1:¬d.k<d.l.length:=by omega
  refine run ?_;exact iy (hr:=by unfold Dr.nx;rw[dif_neg h1]) (hl2:=by unfold Dr.go;rw[if_neg h1])
 ·have h1:d.k<d.l.length:=by omega
  have h2:=abk (Ld:=Ld) d.l[d.k] n (h.r _ (getElem_mem h1)) hn.p.1 (by have:=hn.p;omega);have w1:=wrap_succ d.k (by omega);have w2:IntKind.i64.wrap (d.k:Int)=(d.k:Int):=IntWalk.i64_in _ (by omega);refine run ?_;exact iy (hr:=by unfold Dr.nx;rw[dif_pos h1]) (hl2:=by unfold Dr.go;rw[if_pos h1];rfl)
end
def wH (sg:List Sg):List Nd->List Ty->Option (List Ty)
 |[],st=>some st
 |n::r,st=>if (lK sg n (st.take (aG n.op).ops).reverse).2=0 then wH sg r ((lK sg n (st.take (aG n.op).ops).reverse).1::st.drop (aG n.op).ops) else none
theorem zy (sg:List Sg):∀(a b:List Nd) (st:List Ty),wH sg (a++b) st=(wH sg a st).bind (wH sg b)
 |[],b,st=>rfl
 |n::r,b,st=>by
  rw[cons_append,wH,wH];split
  ·exact zy sg r b _
  ·rfl
structure TE (sg:List Sg) (t:Ty) (e:List Nd):Prop where
 c:∀r d,chk (e++r) d=chk r (d+1)
 s:∀st,wH sg e st=some (t::st)
theorem aek {sg:List Sg} {n:Nd} {st ts:List Ty} {t:Ty} (hl:ts.length=(aG n.op).ops) (h:lK sg n ts=(t,0)):wH sg [n] (ts.reverse++st)=some (t::st):=by
 have e:((ts.reverse++st).take (aG n.op).ops).reverse=ts:=by rw[<-hl,take_left' (by simp),reverse_reverse]
 have d:(ts.reverse++st).drop (aG n.op).ops=st:=by rw[<-hl];exact drop_left' (by simp)
 rw[wH,e,d,h];rfl
theorem ael {n:Nd} (hw:aQ n=0) (r:List Nd) (d:Nat):chk (n::r) (d+(aG n.op).ops)=chk r (d+1):=by
 rw[chk,if_neg (by simp[hw]),if_neg (by omega)];congr 1;omega
theorem TE.node {sg:List Sg} {n:Nd} {t:Ty}:∀(cs:List (List Nd × Ty)),(∀x∈cs,TE sg x.2 x.1)->(hw:aQ n=0)->(hl:cs.length=(aG n.op).ops)->lK sg n (cs.map Prod.snd)=(t,0)->TE sg t ((cs.map Prod.fst).flatten++[n]):=by
 intro cs hc hw hl ho
 have hC:∀(l:List (List Nd × Ty)),(∀x∈l,TE sg x.2 x.1)->∀r d,chk ((l.map Prod.fst).flatten++r) d=chk r (d+l.length):=by
  intro l
  induction l with
  |nil=>intro _ r d;rfl
  |cons x l ih=>
   intro h r d;rw[map_cons,flatten_cons,append_assoc,(h x (by simp)).c,ih (fun y hy=>h y (by simp[hy]))];congr 1;simp;omega
 have hS:∀(l:List (List Nd × Ty)),(∀x∈l,TE sg x.2 x.1)->∀st,wH sg (l.map Prod.fst).flatten st=some ((l.map Prod.snd).reverse++st):=by
  intro l
  induction l with
  |nil=>intro _ st;rfl
  |cons x l ih=>
   intro h st;rw[map_cons,flatten_cons,zy,(h x (by simp)).s,Option.bind_some,ih (fun y hy=>h y (by simp[hy]))];simp
 refine⟨fun r d=>?_,fun st=>?_⟩
 ·rw[append_assoc,hC cs hc,hl];exact ael hw r d
 ·rw[zy,hS cs hc,Option.bind_some];exact aek (by rw[length_map,hl]) ho
theorem TE.leaf {sg:List Sg} {n:Nd} {t:Ty} (hw:aQ n=0) (hl:(aG n.op).ops=0) (ho:lK sg n []=(t,0)):TE sg t [n]:=TE.node [] (fun _ h=>by cases h) hw hl.symm ho
theorem YP {sg:List Sg}:∀(e:List Nd) (ts:List Ty) (idx:List Nat) (st':List Ty),(∀x∈idx,x<ts.length)->wH sg e (idx.map fun k=>ts.getD k aJ)=some st'->
  ∃ts' idx',mX sg e (ig e ts.length idx) ts=(ts',0)/\st'=idx'.map (fun k=>ts'.getD k aJ)/\(e≠[]->∃r,idx'=(ts'.length-1)::r)/\(e=[]->idx'=idx/\ts'=ts)
 |[],ts,idx,st',_,h=>⟨ts,idx,rfl,(Option.some.inj h).symm,fun h=>absurd rfl h,fun _=>⟨rfl,rfl⟩⟩
 |n::r,ts,idx,st',hx,h=>by
  have er:rowT ts ((idx.take (aG n.op).ops).reverse)=((idx.map fun k=>ts.getD k aJ).take (aG n.op).ops).reverse:=by simp[rowT,map_reverse,map_take]
  rw[ig,Tc,er];rw[wH] at h;split at h
  ·next h0=>
   rw[if_pos h0];generalize (lK sg n ((idx.map fun k=>ts.getD k aJ).take (aG n.op).ops).reverse).1=T at h⊢
   have em:((ts.length::idx.drop (aG n.op).ops).map fun k=>(ts++[T]).getD k aJ)=T::(idx.map fun k=>ts.getD k aJ).drop (aG n.op).ops:=by
    rw[map_cons,<-map_drop];congr 1
    ·simp[getD_eq_getElem?_getD]
    ·refine map_congr_left fun k hk=>?_
     have hk:=hx k (mem_of_mem_drop hk);simp only[getD_eq_getElem?_getD]
     rw[getElem?_append_left hk]
   have hl:(ts++[T]).length=ts.length+1:=by simp
   obtain⟨ts',idx',a1,a2,a3,a4⟩:=YP r (ts++[T]) (ts.length::idx.drop (aG n.op).ops) st' (fun x h=>by
    rw[hl];rcases mem_cons.1 h with rfl|h
    ·omega
    ·have:=hx x (mem_of_mem_drop h);omega) (by rw[em];exact h)
   rw[hl] at a1;refine⟨ts',idx',a1,a2,fun _=>?_,fun h=>by cases h⟩;by_cases hr:r=[]
   ·obtain⟨b1,b2⟩:=a4 hr;exact⟨_,by rw[b1,b2,hl,Nat.add_sub_cancel]⟩
   ·exact a3 hr
  ·cases h
theorem TE.ne {sg:List Sg} {t:Ty} {e:List Nd} (h:TE sg t e):e≠[]:=by
 rintro rfl;have:=h.s [];cases this
theorem TE.chk {sg:List Sg} {t:Ty} {e:List Nd} (h:TE sg t e) (h60:e.length<=60):aX e=0:=by
 have k:=h.c [] 0;rw[append_nil] at k;unfold aX;rw[if_neg (by omega),k];rfl
theorem TE.type {sg:List Sg} {t:Ty} {e:List Nd} (h:TE sg t e) (h60:e.length<=60):gU sg e=(t,0):=by
 obtain⟨ts',idx',a1,a2,a3,_⟩:=YP e [] [] [t] (fun x h=>by cases h) (h.s []);obtain⟨r,rfl⟩:=a3 h.ne;have e1:dQ sg e=(ts',0):=by unfold dQ iZ;rw[if_pos (h.chk h60)];exact a1
 have e2:ts'.getD (ts'.length-1) aJ=t:=by injection a2 with a2 _;exact a2.symm
 unfold gU;simp only[e1,if_true]
 rw[e2]
section
variable {α:Type} {w:World} {A:Option Addr} {n c j:Nat}
theorem dB.at {enc:α->List Value} {xs:List α} (m:Nat) (hm:∀a,(enc a).length=m) (h0:0<m) (k:dB w enc xs ⟨A,n,c⟩) (hj:j<n):∃b off,A=some ⟨b,off,none⟩/\b<w.heap.size/\∃hx:j<xs.length,∀X,Below w.heap.size w X->∀i v,(enc xs[j])[i]?=some v->X.cell? ⟨b,off+j*m+i,none⟩=some v:=by
 have hx:j<xs.length:=by rw[<-k.len];exact hj
 obtain⟨b,off,hA,hb,hc⟩:=Rd.row enc m hm h0 k.rd hx;exact⟨b,off,hA,hb,hx,fun X hX i v hv=>(hX.cell (p:=⟨b,off+j*m+i,none⟩) hb).trans (hc i v hv)⟩
theorem acX {xs:List Dc} (k:dB w Dc.cells xs ⟨A,n,c⟩) (hj:j<n):∃b off nm t m d,A=some ⟨b,off,none⟩/\b<w.heap.size/\∃hx:j<xs.length,xs[j]=⟨nm,⟨t,m,d⟩⟩/\∀X,Below w.heap.size w X->X.cell? ⟨b,off+j*4,none⟩=some (.string nm)/\X.cell? ⟨b,off+j*4+1,none⟩=some (.bool t)/\X.cell? ⟨b,off+j*4+2,none⟩=some (.int .i64 m)/\X.cell? ⟨b,off+j*4+3,none⟩=some (.int .i64 d):=by
 obtain⟨b,off,hA,hb,hx,hc⟩:=k.at 4 (fun _=>rfl) (by omega) hj;exact⟨b,off,_,_,_,_,hA,hb,hx,rfl,fun X hX=>⟨hc X hX 0 _ rfl,hc X hX 1 _ rfl,hc X hX 2 _ rfl,hc X hX 3 _ rfl⟩⟩
theorem acY {xs:List (Sc × Hd)} (k:dB w kG xs ⟨A,n,c⟩) (hj:j<n):∃b off nm m d bs h,A=some ⟨b,off,none⟩/\b<w.heap.size/\∃hx:j<xs.length,xs[j]=(⟨nm,m,d,bs⟩,h)/\∀X,Below w.heap.size w X->X.cell? ⟨b,off+j*4,none⟩=some (.string nm)/\X.cell? ⟨b,off+j*4+1,none⟩=some (.int .i64 m)/\X.cell? ⟨b,off+j*4+2,none⟩=some (.int .i64 d)/\X.cell? ⟨b,off+j*4+3,none⟩=some (.slice h.a h.n h.c):=by
 obtain⟨b,off,hA,hb,hx,hc⟩:=k.at 4 (fun _=>rfl) (by omega) hj;exact⟨b,off,_,_,_,_,_,hA,hb,hx,rfl,fun X hX=>⟨hc X hX 0 _ rfl,hc X hX 1 _ rfl,hc X hX 2 _ rfl,hc X hX 3 _ rfl⟩⟩
theorem acZ {xs:List (Pv × Hd)} (k:dB w cO xs ⟨A,n,c⟩) (hj:j<n):∃b off p,A=some ⟨b,off,none⟩/\b<w.heap.size/\∃hx:j<xs.length,xs[j]=p/\∀X,Below w.heap.size w X->X.cell? ⟨b,off+j*12,none⟩=some (.string p.1.name)/\X.cell? ⟨b,off+j*12+1,none⟩=some (.bool p.1.ty.truth)/\X.cell? ⟨b,off+j*12+2,none⟩=some (.int .i64 p.1.ty.aA)/\X.cell? ⟨b,off+j*12+3,none⟩=some (.int .i64 p.1.ty.days)/\X.cell? ⟨b,off+j*12+4,none⟩=some (.slice p.2.a p.2.n p.2.c)/\X.cell? ⟨b,off+j*12+5,none⟩=some (.bool p.1.fH)/\
  X.cell? ⟨b,off+j*12+6,none⟩=some (.bool p.1.step.neg)/\X.cell? ⟨b,off+j*12+7,none⟩=some (.string p.1.step.num)/\X.cell? ⟨b,off+j*12+8,none⟩=some (.string p.1.step.den)/\X.cell? ⟨b,off+j*12+9,none⟩=some (.bool p.1.cap.neg)/\X.cell? ⟨b,off+j*12+10,none⟩=some (.string p.1.cap.num)/\X.cell? ⟨b,off+j*12+11,none⟩=some (.string p.1.cap.den):=by
 obtain⟨b,off,hA,hb,hx,hc⟩:=k.at 12 (fun _=>rfl) (by omega) hj;exact⟨b,off,_,hA,hb,hx,rfl,fun X hX=>⟨hc X hX 0 _ rfl,hc X hX 1 _ rfl,hc X hX 2 _ rfl,hc X hX 3 _ rfl,hc X hX 4 _ rfl,hc X hX 5 _ rfl,hc X hX 6 _ rfl,hc X hX 7 _ rfl,hc X hX 8 _ rfl,hc X hX 9 _ rfl,hc X hX 10 _ rfl,hc X hX 11 _ rfl⟩⟩
end
end Go.Proofs.YtjpbmbgincdjaaaGreatDoor
