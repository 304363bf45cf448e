/- A part of the proof: Ev. -/
import Derived.Defers
import Derived.Recover
import Derived.Test.YtgfeadgafdijaaaGreatDoorJ01
import Derived.Test.YtgfeadgafdijaaaGreatDoorJ29
set_option linter.unusedVariables false
set_option linter.unusedSimpArgs false
set_option maxRecDepth 100000
set_option maxHeartbeats 40000000
namespace Go.Proofs.YtgfeadgafdijaaaGreatDoor
open Go.RowKit
theorem Qp (a b:Nat) (w:World):
  CallsD Tryz.prog 139 #[.pointer (some ⟨a,0,none⟩),.pointer (some ⟨b,0,none⟩)] .returning w fun e u' w'=>e=.returned (.tuple #[])∧u'=.returning∧w'=w:=by
 refine callsD_of_wpS Tryz.func139 rfl fun c₀ cs hu=>?_
 apply wpS_seq;apply wpS_region;simp[wpOpsS,go_sem,recoverD,hu,Tryz.ntmps139,Exit.thenS];refine wpS_of_wp ?_;go_wp2;cases c₀
 simp_all [bodyPostS,results,Tryz.results139]
theorem Bq {w:World} {A:Option Addr} {cs:List Value} (h:Rd w A cs) (p:Addr) (u:Value) (hne:∀ad,A=some ad→ad.block≠p.block):Rd (w.setCell p u) A cs:=by
 rcases h with rfl|⟨b,off,rfl,hb,hc⟩
 ·exact .inl rfl
 ·refine .inr ⟨b,off,rfl,by simpa [World.setCell] using hb,fun i hi=>?_⟩;rw[←hc i hi];exact World.cell?_of_block (Below.heap_setCell w p u b (hne _ rfl))
theorem lT {w:World} {b b':Nat} {e:TypeId} {sz:Nat} {v:Value} {n:Nat} {xs:List Value} (h:w.ownsRow b e sz v n xs) (hb:b'≤b):w.ownsRow b' e sz v n xs:=by
 refine⟨h.1,h.2.imp id ?_⟩;rintro⟨g,cap,cur,h1,h2,h3⟩;exact⟨g,cap,cur,h1,Nat.le_trans hb h2,h3⟩
theorem uH {w:World} {b R:Nat} {e:TypeId} {sz:Nat} {v:Value} {n:Nat} {xs:List Value} (h:w.ownsRow b e sz v n xs) (hR:R<b) (i:Nat) (u:Value):(w.setCell ⟨R,i,none⟩ u).ownsRow b e sz v n xs:=by
 refine⟨h.1,h.2.imp id ?_⟩;rintro⟨g,cap,cur,h1,h2,h3,h4⟩;exact⟨g,cap,cur,h1,h2,(Below.heap_setCell w _ u g (by show g≠R;omega)).trans h3,h4⟩
def OL (r:List Nd × Int) (w:World) (e:Ending) (w':World):Prop:=∃A n c,e=.returned (.tuple #[.slice A n c,.int .i64 r.2])∧Es w' r.1 A n c∧Below w.heap.size w w'∧w'.ownsRow w.heap.size 48 5 (.slice A n c) n (oV r.1)
theorem Ul (s:List UInt8) (w:World) (hL:dK w) (hs:s.length≤1048576) (r:List UInt8) (ns:List Nd) (b:Nat) (hp:oD 61 s [] 0=some (r,ns,b)) (hz:bC ns=0) (ht:textE ns=s):Calls Tryz.prog 99 #[.string ⟨s.toArray⟩] w (OL (ns,0) w):=by
 have hmf:∀(fn:Fn) (first cap:Array Value) (w:World),(Instr.makeFunc fn first cap).run Tryz.prog w=.ok (.func fn first cap) w:=fun _ _ _ _=>rfl
 obtain⟨W,hW⟩:=zE (((w.alloc (.cells #[.slice none 0 0] 44)).alloc (.cells #[.int .i64 0] 50)).alloc (.cells #[.string ⟨s.toArray⟩,.slice none 0 0,.int .i64 0] 183));have jY:=Three.new w 44 50 183 #[.slice none 0 0] #[.int .i64 0] #[.string ⟨s.toArray⟩,.slice none 0 0,.int .i64 0];rw[←hW] at jY;obtain⟨hk0,hk1,hk2,hba,hsz⟩:=jY;obtain⟨B,hB⟩:=zE w.heap.size;have HB:=zH hB;rw[←hB] at hba hsz hk0 hk1 hk2;have HE:=zH (Zv w hL (B+2) (by rw[HB.out];omega) 61 s [] 0 (.slice none 0 0) W (by rw[←HB.out];exact hba) hk2 (World.ownsRow_nil _ _ _ _) hs (Nat.le_refl _) (by omega) (by omega));rw[hp] at HE;have HF:=zH (Xq 61 s [] 0 _ hp hs (fun n h=>by cases h)).2;have iJ:=zH hk0;have jL:=zH hk1;have aK:=zH hba;have HL:=zH hL;clear hk0 hk1 hk2 hba hL hs hp;have HTS:Hid ((⟨(textE ns).toArray⟩:ByteArray)=⟨s.toArray⟩):=by show _=_;rw[ht]
 clear ht;generalize (⟨s.toArray⟩:ByteArray)=SS at*
 go_enter_defers Tryz.func99,Tryz.ntmps99
 go_wp2_with fail;simp only[←hW,←hB]
 clear hW hB;refine HE.out.mono ?_;rintro e w5 ⟨rfl,v5,hk5,hown5,Um⟩;have QV:Below B w w5:=aK.out.trans (Um.below (World.ownsRow_nil W (B+2+1) 48 5) (by omega) (by omega));have hk0:=Um.blk iJ.out (by omega) (by intro h;cases h);have hk1:=Um.blk jL.out (by omega) (by intro h;cases h);obtain⟨A5,cap5,rfl,hn5,hm5,hr5,_⟩:=bM hown5;have hL5:dK w5:=HL.out.below (by rw[←HB.out];exact QV);have hEs:Es w5 ns A5 ns.length cap5:=⟨rfl,hn5,hm5,hr5⟩
 have lQ:=zH (Lj ns A5 ns.length cap5 w5 hL5 hEs HF.out);unfold pV at lQ;simp only[hz,if_true] at lQ;rw[HTS.out] at lQ
 have hne5:∀ad,A5=some ad→B+3≤ad.block:=by
  obtain⟨A',c',hv,_,_,_,h4⟩:=zO hown5;injection hv with e1 e2 e3;rw[e1];exact h4
 have yS:=zH hne5;have HOW:=zH hown5;have OM:=zH hk0;have Un:=zH hk1;have gZ:=zH hk5;have HES:=zH hEs;have eF:=zH QV;have hcp:=hk5.cells;clear hk0 hk1 hk5 hn5 hm5 hr5 hL5 hEs QV hown5 Um;go_wp2_with fail;refine lQ.out.mono ?_;rintro e w6 ⟨rfl,hb6⟩;have hk0:=OM.out.below hb6 OM.out.lt;have hk1:=Un.out.below hb6 Un.out.lt;have hk5:=gZ.out.below hb6 gZ.out.lt;have hc0:w6.cell? ⟨B,0,none⟩=some (.slice none 0 0):=hk0.cells 0;have hc1:w6.cell? ⟨B+1,0,none⟩=some (.int .i64 0):=hk1.cells 0;have hf0:=hk0.aF;have hf1:=hk1.aF;have hc5:=hk5.cells
 have bF:Hid (∀u v,Below w.heap.size w ((w6.setCell ⟨B,0,none⟩ u).setCell ⟨B+1,0,none⟩ v)):=fun u v=>by
  have h1:Below B w w6:=eF.out.trans (hb6.mono (by have:=OM.out.lt;omega));rw[←HB.out];exact (h1.setCell (p:=⟨B,0,none⟩) (Nat.le_refl _) u).setCell (p:=⟨B+1,0,none⟩) (by show B≤B+1;omega) v
 have Zw:=zH (HES.out.below hb6);have agN:=zH (own_below HOW.out hb6);have HGB:Hid (∀b,b<B→True):=fun _ _=>trivial
 clear hb6 hcp hk0 hk1 hk5;go_wp2;refine leaves_cons (f:=139) (args:=#[.pointer (some ⟨B,0,none⟩),.pointer (some ⟨B+1,0,none⟩)]) (by simp) (by simp[go_sem]) ?_;refine (Qp B (B+1) _).mono ?_;rintro e u' w7 ⟨rfl,rfl,rfl⟩
 have hd0:((w6.setCell ⟨B,0,none⟩ (.slice A5 ns.length cap5)).setCell ⟨B+1,0,none⟩ (.int .i64 0)).cell? ⟨B,0,none⟩=some (.slice A5 ns.length cap5):=by
  rw[World.cell?_setCell_other _ _ _ _ (by simp)];exact World.cell?_setCell_same' _ _ _ (by rw[hc0];rfl)
 have hd1:((w6.setCell ⟨B,0,none⟩ (.slice A5 ns.length cap5)).setCell ⟨B+1,0,none⟩ (.int .i64 0)).cell? ⟨B+1,0,none⟩=some (.int .i64 0):=
  World.cell?_setCell_same' _ _ _ (by rw[World.cell?_setCell_other _ _ _ _ (by simp),hc1];rfl)
 simp[Leaves,settle,results,Tryz.results99,go_sem,hd0,hd1];refine⟨A5,ns.length,cap5,rfl,⟨rfl,Zw.out.cap,Zw.out.max,?_⟩,bF.out _ _,lT (uH (uH agN.out (by omega) 0 _) (by omega) 0 _) (by have h2:=HB.out;omega)⟩;exact Bq (Bq Zw.out.rd ⟨B,0,none⟩ _ (fun ad h=>by have:=yS.out ad h;show ad.block≠B;omega)) ⟨B+1,0,none⟩ _ (fun ad h=>by have:=yS.out ad h;show ad.block≠B+1;omega)
def IU (s:List UInt8):List Nd × Int:=match WW s with
 |some e=>(e,0)
 |none=>([],11)
theorem Uo (s:List UInt8) (e:List Nd) (w:World) (hL:dK w) (hs:s.length≤1048576) (hp:IU s=(e,0)):Calls Tryz.prog 99 #[.string ⟨s.toArray⟩] w (OL (e,0) w):=by
 unfold IU WW at hp;cases hq:oD 61 s [] 0 with
 |none=>rw[hq] at hp;simp at hp
 |some q=>
  obtain⟨r,ns,b⟩:=q;rw[hq] at hp;simp only[Option.bind_some] at hp;by_cases h:bC ns=0∧textE ns=s
  ·rw[if_pos h] at hp;have e1:ns=e:=(Prod.mk.inj hp).1;rw[←e1];exact Ul s w hL hs r ns b hq h.1 h.2
  ·rw[if_neg h] at hp;simp at hp
end Go.Proofs.YtgfeadgafdijaaaGreatDoor
