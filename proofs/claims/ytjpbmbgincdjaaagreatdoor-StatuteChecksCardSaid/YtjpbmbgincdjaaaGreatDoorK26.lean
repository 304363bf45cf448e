/- Part: Ka. -/
import Derived.Test.YtjpbmbgincdjaaaGreatDoorK25
set_option linter.all false
set_option maxRecDepth 100000
set_option maxHeartbeats 0
namespace Go.Proofs.YtjpbmbgincdjaaaGreatDoor
open Go.RowKit List World Tryz
theorem Ym (w:World):(Instr.typeAssert .nilIface 20 33 true).run prog w=.ok (.tuple #[.int .i64 0,.bool false]) w:=by
 kernel_rfl
theorem Kq (z:Int) (w:World):(Instr.typeAssert (.iface 33 (.int .i64 z)) 20 33 true).run prog w=.ok (.tuple #[.int .i64 z,.bool true]) w:=by
 simp[Instr.typeAssert,run_underlying underlying33,go_sem,Result.andThen]
theorem QE (a b:Nat) (w:World):
  CallsD prog 181 #[.pointer (some ⟨a,0,none⟩),.pointer (some ⟨b,0,none⟩)] .returning w fun e u' w'=>e=.returned (.tuple #[])/\u'=.returning/\w'=w:=by
 refine callsD_of_wpS func181 rfl fun c₀ cs hu=>?_
 apply wpS_seq;apply wpS_region;simp[wpOpsS,go_sem,recoverD,hu,ntmps181,Exit.thenS,Ym,Kq];refine wpS_of_wp ?_;go_wp2;cases c₀
 simp_all [bodyPostS,results,results181]
theorem EN (a b:Nat) (z:Int) (v1 v2:Value) (older:List PanicEntry) (w:World) (h1:w.cell? ⟨a,0,none⟩=some v1) (h2:w.cell? ⟨b,0,none⟩=some v2) (f1:w.frozen? ⟨a,0,none⟩=false) (f2:w.frozen? ⟨b,0,none⟩=false) (hab:¬a=b) (hba:¬b=a):
  CallsD prog 181 #[.pointer (some ⟨a,0,none⟩),.pointer (some ⟨b,0,none⟩)] (.panicking ({v:=.iface 33 (.int .i64 z),recovered:=false}::older)) w fun e u' w'=>
   e=.returned (.tuple #[])/\u'=.panicking ({v:=.iface 33 (.int .i64 z),recovered:=true}::older)/\w'=(w.setCell ⟨a,0,none⟩ (.slice none 0 0)).setCell ⟨b,0,none⟩ (.int .i64 z):=by
 refine callsD_of_wpS func181 rfl fun c₀ cs hu=>?_
 apply wpS_seq;apply wpS_region;simp[wpOpsS,go_sem,recoverD,hu,ntmps181,Exit.thenS,Ym,Kq];refine wpS_of_wp ?_;simp only[Array.replicate_succ,Array.replicate_zero,push_toArray,append_toArray,nil_append,cons_append,setIfInBounds_toArray,set_cons_succ,set_cons_zero]
 go_wp2;simp[bodyPostS,results,results181]
def uz (r:List Ty × Int) (w:World) (e:Ending) (w':World):Prop:=
 ∃A n c,e=.returned (.tuple #[.slice A n c,.int .i64 r.2])/\n=r.1.length/\n<=c/\c<=maxLen/\Rd w' A (tys r.1)/\Below w.heap.size w w'
theorem uz.bad {w w':World} {z:Int} (hb:Below w.heap.size w w'):uz ([],z) w (.returned (.tuple #[.slice none 0 0,.int .i64 z])) w':=
 ⟨none,0,0,rfl,rfl,Nat.le_refl _,by unfold maxLen;omega,.inl rfl,hb⟩
theorem zf (w:World) (t t':TypeId) (cs cs':Array Value):aj ((w.alloc (.cells cs t)).alloc (.cells cs' t')) w.heap.size t cs.toList/\aj ((w.alloc (.cells cs t)).alloc (.cells cs' t')) (w.heap.size+1) t' cs'.toList/\
  Below w.heap.size w ((w.alloc (.cells cs t)).alloc (.cells cs' t'))/\((w.alloc (.cells cs t)).alloc (.cells cs' t')).heap.size=w.heap.size+2:=by
 have h:=aj.new (w.alloc (.cells cs t)) t' cs';rw[size_alloc] at h;exact⟨(aj.new w _ _).alloc _,h,(zB _ _).alloc (by rw[size_alloc];omega) _,by rw[size_alloc,size_alloc]⟩
theorem Oq (sg:List Sg) (es:List Nd) (A1 A2:Option Addr) (k1 c1 l2 c2:Nat) (w:World) (hL:bT w) (h2:Es w es A2 l2 c2) (hf:∀n∈es,Fine n) (hz:aX es≠0):
  Calls prog 132 #[.slice A1 k1 c1,.slice A2 l2 c2] w (uz (dQ sg es) w):=by
 have HC:=zH (fun W hb=>check_any es A2 l2 c2 W (hL.below hb).e (h2.below hb).len (h2.below hb).cap (h2.below hb).max (h2.below hb).rd hf);have HT:Hid (dQ sg es=([],aX es)):=by show _=_;unfold dQ;rw[if_neg hz]
 rw[HT.out];obtain⟨z,hzz⟩:=zE (aX es);rw[<-hzz] at hz HC⊢;have hzb:(z !=0)=true:=by simp[hz]
 have hzc:(z==0)=false:=by simp[hz]
 clear hL h2 hf HT hzz;obtain⟨W,hW⟩:=zE ((w.alloc (.cells #[.slice none 0 0] 191)).alloc (.cells #[.int .i64 0] 33));have rD:=zf w 191 33 #[.slice none 0 0] #[.int .i64 0];rw[<-hW] at rD;obtain⟨hk0,hk1,hba,_⟩:=rD;obtain⟨B,hB⟩:=zE w.heap.size;rw[<-hB] at hk0 hk1 hba;have HB:=zH hB;have kW:=zH hk0;have jl:=zH hk1;have bZ:=zH hba;clear hk0 hk1 hba
 go_enter_defers func132,ntmps132
 go_wp2_with fail;simp only[<-hW,<-hB]
 clear hW hB;refine (HC.out W (by rw[<-HB.out];exact bZ.out)).mono ?_;rintro e w5 ⟨rfl,hb5⟩;have hk0:=kW.out.below hb5 kW.out.lt;have hk1:=jl.out.below hb5 jl.out.lt;have hc0:w5.cell? ⟨B,0,none⟩=some (.slice none 0 0):=hk0.cells 0;have hc1:w5.cell? ⟨B+1,0,none⟩=some (.int .i64 0):=hk1.cells 0;have hf0:=hk0.bH;have hf1:=hk1.bH
 have iY:Hid (∀u v,Below w.heap.size w ((w5.setCell ⟨B,0,none⟩ u).setCell ⟨B+1,0,none⟩ v)):=fun u v=>by
  have h1:Below B w w5:=bZ.out.trans (hb5.mono (by have:=kW.out.lt;omega));rw[<-HB.out];exact (h1.setCell (p:=⟨B,0,none⟩) (Nat.le_refl _) u).setCell (p:=⟨B+1,0,none⟩) (by show B<=B+1;omega) v
 clear hb5 hk0 hk1;go_wp2
 have hd0:((w5.setCell ⟨B,0,none⟩ (.slice none 0 0)).setCell ⟨B+1,0,none⟩ (.int .i64 z)).cell? ⟨B,0,none⟩=some (.slice none 0 0):=by
  rw[cell?_setCell_other _ _ _ _ (by simp)];exact cell?_setCell_same' _ _ _ (by rw[hc0];rfl)
 have hd1:((w5.setCell ⟨B,0,none⟩ (.slice none 0 0)).setCell ⟨B+1,0,none⟩ (.int .i64 z)).cell? ⟨B+1,0,none⟩=some (.int .i64 z):=
  cell?_setCell_same' _ _ _ (by rw[cell?_setCell_other _ _ _ _ (by simp),hc1];rfl)
 simp[bodyPostD,Leaves,settle,results,results132,go_sem,hd0,hd1];exact uz.bad (iY.out _ _)
end Go.Proofs.YtjpbmbgincdjaaaGreatDoor
