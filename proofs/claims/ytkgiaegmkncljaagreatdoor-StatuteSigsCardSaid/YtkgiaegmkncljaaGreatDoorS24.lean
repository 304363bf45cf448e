/- A part of the proof: K9 Y2 Y5. -/
import Derived.Deep.Cut
import Derived.Deep.CutRange
import Derived.Deep.LoopGhost
import Derived.Test.YtkgiaegmkncljaaGreatDoorS01
import Derived.Test.YtkgiaegmkncljaaGreatDoorS20
import Derived.Test.YtkgiaegmkncljaaGreatDoorS23
set_option linter.unusedVariables false
set_option linter.unusedSimpArgs false
set_option maxRecDepth 100000
set_option maxHeartbeats 40000000
namespace Go.Proofs.YtkgiaegmkncljaaGreatDoor
open Go.RowKit
def ownT (sg:List Sg) (n:Nd):Option Ty:=if sigB n.op then sigOf sg n else some tPlain
def rowT (ts:List Ty) (row:List Nat):List Ty:=row.map fun k=>ts.getD k tPlain
def tyGo (sg:List Sg):List Nd→List (List Nat)→List Ty→List Ty × Int
 |n::r,a::ar,ts=>match ownT sg n with
  |none=>([],12)
  |some own=>if (ruleT n.op own (rowT ts a)).2 then tyGo sg r ar (ts++[(ruleT n.op own (rowT ts a)).1]) else ([],13)
 |_,_,ts=>(ts,0)
def typesE (sg:List Sg) (e:List Nd):List Ty × Int:=if checkE e=0 then tyGo sg e (argsE e) [] else ([],checkE e)
def typeE (sg:List Sg) (e:List Nd):Ty × Int:=let r:=typesE sg e;if r.2=0 then (r.1.getD (r.1.length-1) tPlain,0) else (tPlain,r.2)
theorem runA_ok:∀(e:List Nd) (k:Nat) (st:List Nat),chk e st.length=0→(∀x∈st,x<k)→∀j (hj:j<e.length),∃row,(runA e k st)[j]?=some row∧row.length=(shp e[j].op).ops∧(∀x∈row,x<k+j)∧wrongN e[j]=0
 |[],_,_,_,_,j,hj=>by simp at hj
 |n::r,k,st,h,hst,j,hj=>by
  obtain⟨h1,h2,h3⟩:=chk_zero h;cases j with
  |zero=>exact⟨_,rfl,by rw[List.length_reverse,List.length_take];exact Nat.min_eq_left h2,fun x hx=>hst x (List.mem_of_mem_take (List.mem_reverse.1 hx)),h1⟩
  |succ j=>
   have ih:=runA_ok r (k+1) (k::st.drop (shp n.op).ops) (by rw[List.length_cons,List.length_drop];exact h3)
    (fun x hx=>by rcases List.mem_cons.1 hx with rfl|hx
                  ·omega
                  ·exact Nat.lt_succ_of_lt (hst x (List.mem_of_mem_drop hx))) j (by simpa using hj)
   obtain⟨row,e1,e2,e3,e4⟩:=ih;exact⟨row,e1,e2,fun x hx=>by have:=e3 x hx;omega,e4⟩
theorem argsE_ok {e:List Nd} (h:checkE e=0) (j:Nat) (hj:j<e.length):∃row,(argsE e)[j]?=some row∧row.length=(shp e[j].op).ops∧(∀x∈row,x<j)∧wrongN e[j]=0:=by
 unfold checkE at h;split at h
 ·cases h
 ·obtain⟨row,h1,h2,h3,h4⟩:=runA_ok e 0 [] h (fun x hx=>by cases hx) j hj;exact⟨row,h1,h2,fun x hx=>by have:=h3 x hx;omega,h4⟩
theorem checkE_pos {e:List Nd} (h:checkE e=0):0<e.length∧e.length≤60:=by
 unfold checkE at h;split at h
 ·cases h
 ·refine⟨?_,by omega⟩;cases e with
  |nil=>rw[chk] at h;simp at h
  |cons n r=>simp
theorem wrong_op {n:Nd} (h:wrongN n=0):1≤n.op∧n.op≤24:=by
 unfold wrongN at h;split at h
 ·cases h
 ·next h'=>
  exact⟨by have:¬n.op<1:=fun h1=>h' (Or.inl h1);omega,by have:¬24<n.op:=fun h1=>h' (Or.inr (Or.inl h1));omega⟩
theorem right_plain:rightB tPlain=true:=by decide
theorem right_getD {l:List Ty} (h:∀t∈l,rightB t=true) (i:Nat):rightB (l.getD i tPlain)=true:=by
 rw[List.getD_eq_getElem?_getD];rcases Nat.lt_or_ge i l.length with hi|hi
 ·rw[List.getElem?_eq_getElem hi];exact h _ (List.getElem_mem hi)
 ·rw[List.getElem?_eq_none hi];exact right_plain
theorem sigOf_right {sg:List Sg} {n:Nd} {t:Ty} (h:sigOf sg n=some t):rightB t=true:=by
 unfold sigOf at h;obtain⟨s,hs,rfl⟩:=Option.map_eq_some_iff.1 h;have:=List.find?_some hs;unfold sigFit at this;simp only[Bool.and_eq_true] at this;exact this.2.2.1
theorem ownT_right {sg:List Sg} {n:Nd} {t:Ty} (h:ownT sg n=some t):rightB t=true:=by
 unfold ownT at h;split at h
 ·exact sigOf_right h
 ·injection h with h;subst h;exact right_plain
theorem ruleT_right (k:Int) (own:Ty) (l:List Ty) (ho:rightB own=true) (hl:∀t∈l,rightB t=true) (h:(ruleT k own l).2=true):rightB (ruleT k own l).1=true:=by
 have hA:=right_getD hl 0;have hB:=right_getD hl 1;have ht:rightB tTruth=true:=by decide
 revert h
 unfold ruleT;by_cases h1:k=1
 ·rw[if_pos h1];intro _;decide
 rw[if_neg h1];clear h1;by_cases h1:k=2
 ·rw[if_pos h1];intro _;decide
 rw[if_neg h1];clear h1;by_cases h1:k=3
 ·rw[if_pos h1];intro _;decide
 rw[if_neg h1];clear h1;by_cases h1:k=4
 ·rw[if_pos h1];intro _;decide
 rw[if_neg h1];clear h1;by_cases h1:k≤8
 ·rw[if_pos h1];intro _;exact ho
 rw[if_neg h1];clear h1;by_cases h1:k=11
 ·rw[if_pos h1];intro h;simp only[Bool.and_eq_true] at h;exact h.2.2
 rw[if_neg h1];clear h1;by_cases h1:k=12
 ·rw[if_pos h1];intro h;simp only[Bool.and_eq_true] at h;exact h.2.2
 rw[if_neg h1];clear h1;by_cases h1:k≤14
 ·rw[if_pos h1];intro _;exact hA
 rw[if_neg h1];clear h1;by_cases h1:k=15
 ·rw[if_pos h1];intro _;exact hB
 rw[if_neg h1];clear h1;by_cases h1:k=16
 ·rw[if_pos h1];intro _;exact ht
 rw[if_neg h1];clear h1;by_cases h1:k=17
 ·rw[if_pos h1];intro _;exact ht
 rw[if_neg h1];clear h1;by_cases h1:k≤20
 ·rw[if_pos h1];intro _;exact ht
 rw[if_neg h1];clear h1;by_cases h1:k≤23
 ·rw[if_pos h1];intro _;exact hA
 rw[if_neg h1];clear h1;intro _;exact ho
theorem tyGo_cons {sg:List Sg} {n:Nd} {r:List Nd} {a:List Nat} {ar:List (List Nat)} {ts:List Ty} {own:Ty} (h:ownT sg n=some own) (h2:(ruleT n.op own (rowT ts a)).2=true):
  tyGo sg (n::r) (a::ar) ts=tyGo sg r ar (ts++[(ruleT n.op own (rowT ts a)).1]):=by
 rw[tyGo,h];simp only[h2,if_true]
theorem tyGo_none {sg:List Sg} {n:Nd} {r:List Nd} {a:List Nat} {ar:List (List Nat)} {ts:List Ty} (h:ownT sg n=none):tyGo sg (n::r) (a::ar) ts=([],12):=by rw[tyGo,h]
theorem tyGo_bad {sg:List Sg} {n:Nd} {r:List Nd} {a:List Nat} {ar:List (List Nat)} {ts:List Ty} {own:Ty} (h:ownT sg n=some own) (h2:(ruleT n.op own (rowT ts a)).2=false):
  tyGo sg (n::r) (a::ar) ts=([],13):=by
 rw[tyGo,h];simp only[h2];rfl
theorem tyGo_len {sg:List Sg}:∀(r:List Nd) (ar:List (List Nat)) (ts:List Ty),ar.length=r.length→(tyGo sg r ar ts).2=0→(tyGo sg r ar ts).1.length=ts.length+r.length
 |[],[],ts,_,_=>rfl
 |n::r,a::ar,ts,hl,h=>by
  cases ho:ownT sg n with
  |none=>rw[tyGo_none ho] at h;cases h
  |some own=>
   cases h2:(ruleT n.op own (rowT ts a)).2 with
   |false=>rw[tyGo_bad ho h2] at h;cases h
   |true=>
    rw[tyGo_cons ho h2] at h⊢;rw[tyGo_len r ar _ (by simpa using hl) h];simp;omega
 |[],a::ar,ts,hl,_=>by simp at hl
 |n::r,[],ts,hl,_=>by simp at hl
def fitR (op:Int) (nm:ByteArray) (s:Sg):Bool:=decide (s.op=op)&&(decide (s.name=nm)&&(sigB op&&(rightB s.ty&&(decide (op≠24)|| !s.ty.truth))))
def refF (l:List Sg) (op:Int) (nm:ByteArray):Option Ty:=(l.find? (fitR op nm)).map Sg.ty
theorem refF_eq (l:List Sg) (n:Nd):refF l n.op n.name=if sigB n.op then sigOf l n else none:=by
 unfold refF sigOf;cases h:sigB n.op
 ·rw[if_neg (by decide),List.find?_eq_none.2 (fun s _=>by unfold fitR;rw[h];simp)];rfl
 ·rw[if_pos rfl];congr 2
  funext s
  unfold fitR sigFit;rw[h];by_cases h1:s.op=n.op<;>simp[h1]
def FindIs (q:Option Ty) (w:World) (e:Ending) (w':World):Prop:=e=.returned (.tuple #[(q.getD tPlain).v,.bool q.isSome])∧Below w.heap.size w w'
theorem xFind_any (l:List Sg) (A:Option Addr) (k c:Nat) (nop:Int) (nnm:ByteArray) (w:World) (hk:k=l.length) (hm:k≤maxLen) (hr:Rd w A (sgs l)):
  Calls Tryz.prog 152 #[.slice A k c,.int .i64 nop,.string nnm] w (FindIs (refF l nop nnm) w):=by
 have HKL:=zH hk;have hm2:k≤9223372036854775807:=by unfold maxLen at hm;omega
 clear hk hm;go_enter Tryz.func152,Tryz.ntmps152
 go_upto_region 1 with fail
 generalize hX:w.alloc _=W;obtain⟨hk0,hbw⟩:=zA hX;have hle:w.heap.size≤w.heap.size:=Nat.le_refl _;generalize hB:w.heap.size=B at hk0 hle⊢;clear hX;rw[←hB] at hle;go_wp2
 go_loopg [8] k (fun g iv wr=>∃j:Nat,j+g=k∧iv=.int .i64 j∧Below W.heap.size W wr∧Hid ((l.drop j).find? (fitR nop nnm)=l.find? (fitR nop nnm)))
 case atStart=>exact⟨0,by omega,rfl,Below.refl _ _,rfl⟩
 case round=>
  obtain⟨j,hj,rfl,hbr,hf⟩:=hrel;have hmB:=hk0.below hbr hk0.lt
  have HBE:Hid (∀X v0 v1 v2,Below W.heap.size W X→Below w.heap.size w (((X.setCell ⟨B,0,none⟩ v0).setCell ⟨B,1,none⟩ v1).setCell ⟨B,2,none⟩ v2)):=fun X v0 v1 v2 h=>by
   have h:=bstep hbw h;have hl:w.heap.size≤B:=Nat.le_of_eq hB;exact ((h.setCell (p:=⟨B,0,none⟩) hl v0).setCell (p:=⟨B,1,none⟩) hl v1).setCell (p:=⟨B,2,none⟩) hl v2
  by_cases hlt:j<k
  ·have hjl:j<l.length:=by rw[←HKL.out];exact hlt
   obtain⟨b,off,hA,hb,hc⟩:=Rd.row Sg.cells 5 (fun _=>rfl) (by omega) hr hjl;subst hA;have hf2:=hf.out;rw[List.drop_eq_getElem_cons hjl,List.find?_cons] at hf2;replace hf:=zH hf2;generalize l[j]=s at*;obtain⟨sop,snm,⟨st,sm,sd⟩⟩:=s;have hbr0:=bstep hbw hbr;have d0:=(hbr0.cell (p:=⟨b,off+j*5+0,none⟩) hb).trans (hc 0 _ rfl);have d1:=(hbr0.cell (p:=⟨b,off+j*5+1,none⟩) hb).trans (hc 1 _ rfl);have d2:=(hbr0.cell (p:=⟨b,off+j*5+2,none⟩) hb).trans (hc 2 _ rfl);have d3:=(hbr0.cell (p:=⟨b,off+j*5+3,none⟩) hb).trans (hc 3 _ rfl);have d4:=(hbr0.cell (p:=⟨b,off+j*5+4,none⟩) hb).trans (hc 4 _ rfl);simp only[Nat.add_zero] at d0;clear hc hbr0 hf2 hmB
   go_upto_region 5 with fail
   generalize hX:wr.alloc _=W5;obtain⟨hk5,hb5⟩:=zA hX;replace hbr:=bstep hbr hb5;generalize wr.heap.size=N at hk5⊢;clear hX hb5 d0 d1 d2 d3 d4
   go_cut [8,48] from 10 to 50 (fun jv qv X=>jv=.int .i64 (j:Int)∧qv=.bool (fitR nop nnm ⟨sop,snm,⟨st,sm,sd⟩⟩)∧Below W5.heap.size W5 X)
   case first=>
    have hc2:=hk5.cells;by_cases h1:sop=nop
    ·subst h1;by_cases h2:snm=nnm
     ·subst h2;have HE:Hid (fitR sop snm ⟨sop,snm,⟨st,sm,sd⟩⟩=(sigB sop&&(rightB ⟨st,sm,sd⟩&&(decide (sop≠24)|| !st)))):=by show _=_;unfold fitR;simp
      obtain⟨o,ho⟩:=zF (sigB sop);obtain⟨r,hr'⟩:=zF (rightB ⟨st,sm,sd⟩);rw[ho,hr'] at HE;go_wp2_with fail;refine (xNamed_any sop _).mono ?_;rw[ho];rintro e w6 ⟨rfl,hb6⟩;have hc2:=(hk5.below hb6 hk5.lt).cells;clear ho;cases o
      ·go_wp2
       go_meet
       case rel=>exact⟨rfl,by rw[HE.out];rfl,hb6⟩
      ·go_wp2_with fail;refine (xRight_any ⟨st,sm,sd⟩ _).mono ?_;rw[hr'];rintro e w7 ⟨rfl,hb7⟩;replace hb6:=bstep hb6 hb7;have hc2:=(hk5.below hb6 hk5.lt).cells;clear hr' hb7;cases r
       ·go_wp2
        go_meet
        case rel=>exact⟨rfl,by rw[HE.out];rfl,hb6⟩
       ·by_cases h3:sop=24
        ·subst h3;go_wp2
         go_meet
         case rel=>exact⟨rfl,by rw[HE.out];rfl,hb6⟩
        ·have h3b:(sop !=24)=true:=by simp[h3]
         have h3c:(sop==24)=false:=by simp[h3]
         rw[decide_eq_true h3] at HE;clear h3;go_wp2
         go_meet
         case rel=>exact⟨rfl,by rw[HE.out];rfl,hb6⟩
     ·have h2b:¬(snm.toList=nnm.toList):=fun h=>h2 (by rw[ByteArray.toList_eq,ByteArray.toList_eq] at h;exact ByteArray.ext (Array.toList_inj.1 h))
      have h2c:(snm.toList==nnm.toList)=false:=beq_eq_false_iff_ne.2 h2b;have HE:Hid (fitR sop nnm ⟨sop,snm,⟨st,sm,sd⟩⟩=false):=by show _=_;unfold fitR;simp[h2]
      go_wp2
      go_meet
      case rel=>exact⟨rfl,by rw[HE.out],Below.refl _ _⟩
    ·have h1b:(sop==nop)=false:=beq_eq_false_iff_ne.2 h1;have HE:Hid (fitR nop nnm ⟨sop,snm,⟨st,sm,sd⟩⟩=false):=by show _=_;unfold fitR;simp[h1]
     go_wp2
     go_meet
     case rel=>exact⟨rfl,by rw[HE.out],Below.refl _ _⟩
   case rest=>
    obtain⟨rfl,hq,hbc⟩:=hcut;have hf2:=hf.out;have hm2':=hk5.below hbc hk5.lt;replace hbr:=bstep hbr hbc;cases hff:fitR nop nnm ⟨sop,snm,⟨st,sm,sd⟩⟩
    ·rw[hff] at hf2 hq;subst hq;replace hf:=zH hf2;clear hm2' hbc hf2 hff;go_wp2
     go_roundg (k-(j+1))
     case measure=>omega
     case rel=>exact⟨j+1,by omega,by go_num,hbr,hf⟩
    ·rw[hff] at hf2 hq;subst hq;have HQ:Hid (refF l nop nnm=some ⟨st,sm,sd⟩):=by show _=_;unfold refF;rw[←hf2];rfl
     have hmB:=hk0.below hbr hk0.lt;have hc1:=hmB.cells;have hf1:=hmB.froz;have hc2:=hm2'.cells;clear hm2' hbc hmB hf2 hf hff hB;go_wp2;refine bodyPost_ret (v:=.tuple #[.agg #[.bool st,.int .i64 sm,.int .i64 sd],.bool true]) (by simp[results,Tryz.results152,go_sem,hc1]) rfl ⟨by rw[HQ.out];rfl,HBE.out _ _ _ _ hbr⟩
  ·obtain rfl:j=k:=by omega
   have hf2:=hf.out;rw[HKL.out,List.drop_length] at hf2;have HQ:Hid (refF l nop nnm=none):=by show _=_;unfold refF;rw[←hf2];rfl
   have hc1:=hmB.cells;have hf1:=hmB.froz;clear hmB hf2 hf hB;go_wp2;refine bodyPost_ret (v:=.tuple #[.agg #[.bool false,.int .i64 0,.int .i64 0],.bool false]) (by simp[results,Tryz.results152,go_sem,hc1]) rfl ⟨by rw[HQ.out];rfl,HBE.out _ _ _ _ hbr⟩
structure TsAt (w:World) (ts:List Ty) (A:Option Addr) (n c:Nat):Prop where
 len:n=ts.length
 cap:n≤c
 max:c≤maxLen
 rd:Rd w A (tys ts)
theorem TsAt.below {w w':World} {ts:List Ty} {A:Option Addr} {n c:Nat} (h:TsAt w ts A n c) (hb:Below w.heap.size w w'):TsAt w' ts A n c:=⟨h.len,h.cap,h.max,h.rd.below hb⟩
theorem TsAt.at {w:World} {ts:List Ty} {A:Option Addr} {n c j:Nat} (k:TsAt w ts A n c) (hj:j<n):∃b off,A=some ⟨b,off,none⟩∧b<w.heap.size∧∀X,Below w.heap.size w X→X.cell? ⟨b,off+j*3,none⟩=some (.bool (ts.getD j tPlain).truth)∧X.cell? ⟨b,off+j*3+1,none⟩=some (.int .i64 (ts.getD j tPlain).money)∧X.cell? ⟨b,off+j*3+2,none⟩=some (.int .i64 (ts.getD j tPlain).days):=by
 have hx:j<ts.length:=by rw[←k.len];exact hj
 obtain⟨b,off,hA,hb,hc⟩:=Rd.row Ty.cells 3 (fun _=>rfl) (by omega) k.rd hx;have e:ts.getD j tPlain=ts[j]:=by rw[List.getD_eq_getElem?_getD,List.getElem?_eq_getElem hx];rfl
 rw[e];have hd:=fun X (hX:Below w.heap.size w X) i v hv=>(hX.cell (p:=⟨b,off+j*3+i,none⟩) hb).trans (hc i v hv)
 exact⟨b,off,hA,hb,fun X hX=>⟨hd X hX 0 _ rfl,hd X hX 1 _ rfl,hd X hX 2 _ rfl⟩⟩
end Go.Proofs.YtkgiaegmkncljaaGreatDoor
