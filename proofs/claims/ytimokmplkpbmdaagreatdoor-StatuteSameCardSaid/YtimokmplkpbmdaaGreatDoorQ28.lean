/- A part of the proof: Ev. -/
import Derived.Test.YtimokmplkpbmdaaGreatDoorQ27
set_option linter.all false
set_option maxRecDepth 100000
set_option maxHeartbeats 0
namespace Go.Proofs.YtimokmplkpbmdaaGreatDoor
open Go.RowKit
theorem PU (a b:Nat) (w:World):
  CallsD Tryz.prog 175 #[.pointer (some ⟨a,0,none⟩),.pointer (some ⟨b,0,none⟩)] .returning w fun e u' w'=>e=.returned (.tuple #[])/\u'=.returning/\w'=w:=by
 refine callsD_of_wpS Tryz.func175 rfl fun c₀ cs hu=>?_
 apply wpS_seq;apply wpS_region;simp[wpOpsS,go_sem,recoverD,hu,Tryz.ntmps175,Exit.thenS];refine wpS_of_wp ?_;go_wp2;cases c₀
 simp_all [bodyPostS,results,Tryz.results175]
theorem Aj {w:World} {A:Option Addr} {cs:List Value} (h:Rd w A cs) (p:Addr) (u:Value) (hne:∀ad,A=some ad->ad.block≠p.block):Rd (w.setCell p u) A cs:=by
 rcases h with rfl|⟨b,off,rfl,hb,hc⟩
 ·exact .inl rfl
 ·refine .inr ⟨b,off,rfl,by simpa [World.setCell] using hb,fun i hi=>?_⟩;rw[<-hc i hi];exact World.cell?_of_block (Below.heap_setCell w p u b (hne _ rfl))
theorem bW {w:World} {b b':Nat} {e:TypeId} {sz:Nat} {v:Value} {n:Nat} {xs:List Value} (h:w.ownsRow b e sz v n xs) (hb:b'<=b):w.ownsRow b' e sz v n xs:=by
 refine⟨h.1,h.2.imp id ?_⟩;rintro⟨g,cap,cur,h1,h2,h3⟩;exact⟨g,cap,cur,h1,Nat.le_trans hb h2,h3⟩
theorem NM {w:World} {b R:Nat} {e:TypeId} {sz:Nat} {v:Value} {n:Nat} {xs:List Value} (h:w.ownsRow b e sz v n xs) (hR:R<b) (i:Nat) (u:Value):(w.setCell ⟨R,i,none⟩ u).ownsRow b e sz v n xs:=by
 refine⟨h.1,h.2.imp id ?_⟩;rintro⟨g,cap,cur,h1,h2,h3,h4⟩;exact⟨g,cap,cur,h1,h2,(Below.heap_setCell w _ u g (by show g≠R;omega)).trans h3,h4⟩
def NP (r:List Nd × Int) (w:World) (e:Ending) (w':World):Prop:=∃A n c,e=.returned (.tuple #[.slice A n c,.int .i64 r.2])/\Es w' r.1 A n c/\Below w.heap.size w w'/\w'.ownsRow w.heap.size 49 5 (.slice A n c) n (eP r.1)
theorem Ur (s:List UInt8) (w:World) (hL:dK w) (hs:s.length<=1048576) (r:List UInt8) (ns:List Nd) (b:Nat) (hp:kX 61 s [] 0=some (r,ns,b)) (hz:bQ ns=0) (ht:textE ns=s):Calls Tryz.prog 137 #[.string ⟨s.toArray⟩] w (NP (ns,0) w):=by
 have hmf:∀(fn:Fn) (first cap:Array Value) (w:World),(Instr.makeFunc fn first cap).run Tryz.prog w=.ok (.func fn first cap) w:=fun _ _ _ _=>rfl
 obtain⟨W,hW⟩:=zE (((w.alloc (.cells #[.slice none 0 0] 40)).alloc (.cells #[.int .i64 0] 46)).alloc (.cells #[.string ⟨s.toArray⟩,.slice none 0 0,.int .i64 0] 240));have lQ:=Three.new w 40 46 240 #[.slice none 0 0] #[.int .i64 0] #[.string ⟨s.toArray⟩,.slice none 0 0,.int .i64 0];rw[<-hW] at lQ;obtain⟨hk0,hk1,hk2,hba,hsz⟩:=lQ;obtain⟨B,hB⟩:=zE w.heap.size;have HB:=zH hB;rw[<-hB] at hba hsz hk0 hk1 hk2;have HE:=zH (ZX w hL (B+2) (by rw[HB.out];omega) 61 s [] 0 (.slice none 0 0) W (by rw[<-HB.out];exact hba) hk2 (World.ownsRow_nil _ _ _ _) hs (Nat.le_refl _) (by omega) (by omega));rw[hp] at HE;have HF:=zH (Xo 61 s [] 0 _ hp hs (fun n h=>by cases h)).2;have jF:=zH hk0;have iF:=zH hk1;have aY:=zH hba;have HL:=zH hL;clear hk0 hk1 hk2 hba hL hs hp;have HTS:Hid ((⟨(textE ns).toArray⟩:ByteArray)=⟨s.toArray⟩):=by show _=_;rw[ht]
 clear ht;generalize (⟨s.toArray⟩:ByteArray)=SS at*
 go_enter_defers Tryz.func137,Tryz.ntmps137
 go_wp2_with fail;simp only[<-hW,<-hB]
 clear hW hB;refine HE.out.mono ?_;rintro e w5 ⟨rfl,v5,hk5,hown5,Us⟩;have Qq:Below B w w5:=aY.out.trans (Us.below (World.ownsRow_nil W (B+2+1) 49 5) (by omega) (by omega));have hk0:=Us.blk jF.out (by omega) (by intro h;cases h);have hk1:=Us.blk iF.out (by omega) (by intro h;cases h);obtain⟨A5,cap5,rfl,hn5,hm5,hr5,_⟩:=bY hown5;have hL5:dK w5:=HL.out.below (by rw[<-HB.out];exact Qq);have hEs:Es w5 ns A5 ns.length cap5:=⟨rfl,hn5,hm5,hr5⟩
 have oH:=zH (JY ns A5 ns.length cap5 w5 hL5 hEs HF.out);unfold DK at oH;simp only[hz,if_true] at oH;rw[HTS.out] at oH
 have hne5:∀ad,A5=some ad->B+3<=ad.block:=by
  obtain⟨A',c',hv,_,_,_,h4⟩:=yP hown5;injection hv with e1 e2 e3;rw[e1];exact h4
 have Bd:=zH hne5;have HOW:=zH hown5;have NQ:=zH hk0;have Ut:=zH hk1;have rF:=zH hk5;have HES:=zH hEs;have jo:=zH Qq;have hcp:=hk5.cells;clear hk0 hk1 hk5 hn5 hm5 hr5 hL5 hEs Qq hown5 Us;go_wp2_with fail;refine oH.out.mono ?_;rintro e w6 ⟨rfl,hb6⟩;have hk0:=NQ.out.below hb6 NQ.out.lt;have hk1:=Ut.out.below hb6 Ut.out.lt;have hk5:=rF.out.below hb6 rF.out.lt;have hc0:w6.cell? ⟨B,0,none⟩=some (.slice none 0 0):=hk0.cells 0;have hc1:w6.cell? ⟨B+1,0,none⟩=some (.int .i64 0):=hk1.cells 0;have hf0:=hk0.aI;have hf1:=hk1.aI;have hc5:=hk5.cells
 have bC:Hid (∀u v,Below w.heap.size w ((w6.setCell ⟨B,0,none⟩ u).setCell ⟨B+1,0,none⟩ v)):=fun u v=>by
  have h1:Below B w w6:=jo.out.trans (hb6.mono (by have:=NQ.out.lt;omega));rw[<-HB.out];exact (h1.setCell (p:=⟨B,0,none⟩) (Nat.le_refl _) u).setCell (p:=⟨B+1,0,none⟩) (by show B<=B+1;omega) v
 have ZY:=zH (HES.out.below hb6);have aij:=zH (own_below HOW.out hb6);have HGB:Hid (∀b,b<B->True):=fun _ _=>trivial
 clear hb6 hcp hk0 hk1 hk5;go_wp2;refine leaves_cons (f:=175) (args:=#[.pointer (some ⟨B,0,none⟩),.pointer (some ⟨B+1,0,none⟩)]) (by simp) (by simp[go_sem]) ?_;refine (PU B (B+1) _).mono ?_;rintro e u' w7 ⟨rfl,rfl,rfl⟩
 have hd0:((w6.setCell ⟨B,0,none⟩ (.slice A5 ns.length cap5)).setCell ⟨B+1,0,none⟩ (.int .i64 0)).cell? ⟨B,0,none⟩=some (.slice A5 ns.length cap5):=by
  rw[World.cell?_setCell_other _ _ _ _ (by simp)];exact World.cell?_setCell_same' _ _ _ (by rw[hc0];rfl)
 have hd1:((w6.setCell ⟨B,0,none⟩ (.slice A5 ns.length cap5)).setCell ⟨B+1,0,none⟩ (.int .i64 0)).cell? ⟨B+1,0,none⟩=some (.int .i64 0):=
  World.cell?_setCell_same' _ _ _ (by rw[World.cell?_setCell_other _ _ _ _ (by simp),hc1];rfl)
 simp[Leaves,settle,results,Tryz.results137,go_sem,hd0,hd1];refine⟨A5,ns.length,cap5,rfl,⟨rfl,ZY.out.cap,ZY.out.max,?_⟩,bC.out _ _,bW (NM (NM aij.out (by omega) 0 _) (by omega) 0 _) (by have h2:=HB.out;omega)⟩;exact Aj (Aj ZY.out.rd ⟨B,0,none⟩ _ (fun ad h=>by have:=Bd.out ad h;show ad.block≠B;omega)) ⟨B+1,0,none⟩ _ (fun ad h=>by have:=Bd.out ad h;show ad.block≠B+1;omega)
def zh (s:List UInt8):List Nd × Int:=match G7 s with
 |some e=>(e,0)
 |none=>([],11)
theorem Uu (s:List UInt8) (e:List Nd) (w:World) (hL:dK w) (hs:s.length<=1048576) (hp:zh s=(e,0)):Calls Tryz.prog 137 #[.string ⟨s.toArray⟩] w (NP (e,0) w):=by
 unfold zh G7 at hp;cases hq:kX 61 s [] 0 with
 |none=>rw[hq] at hp;simp at hp
 |some q=>
  obtain⟨r,ns,b⟩:=q;rw[hq] at hp;simp only[Option.bind_some] at hp;by_cases h:bQ ns=0/\textE ns=s
  ·rw[if_pos h] at hp;have e1:ns=e:=(Prod.mk.inj hp).1;rw[<-e1];exact Ur s w hL hs r ns b hq h.1 h.2
  ·rw[if_neg h] at hp;simp at hp
end Go.Proofs.YtimokmplkpbmdaaGreatDoor
