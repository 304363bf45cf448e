/- A part of the proof: G1 G2 G3 G4 G5 G6 E8 G7. -/
import Derived.Test.YtmmbjngbeiokeaaGreatDoorF18
import Derived.Test.YtmmbjngbeiokeaaGreatDoorF19
set_option linter.unusedVariables false
set_option linter.unusedSimpArgs false
set_option maxRecDepth 100000
set_option maxHeartbeats 40000000
namespace Go.Proofs.YtmmbjngbeiokeaaGreatDoor
open Go.RowKit
theorem shp_out (n:Int) (h:n<1∨24<n):shp n=sh0:=by
 unfold shp;rcases h with h|h
 ·rw[show n.toNat=0 from by omega];rfl
 ·rw[List.getD_eq_getElem?_getD,List.getElem?_eq_none (by show 25≤_;omega)];rfl
theorem shp_all (P:Int→Sh→Prop) (h:∀k∈List.range 25,P (k:Int) (shp (k:Int))) (ho:∀n:Int,(n<1∨24<n)→P n sh0) (n:Int):P n (shp n):=by
 by_cases hh:n<1∨24<n
 ·rw[shp_out n hh];exact ho n hh
 ·have:=h n.toNat (List.mem_range.2 (by omega));rwa[show ((n.toNat:Nat):Int)=n from by omega] at this
theorem shp_ops (n:Int):((shp n).ops:Int)=if n=15 then 3 else if (9≤n∧n≤14)∨(16≤n∧n≤19) then 2 else if 20≤n∧n≤24 then 1 else 0:=by
 refine shp_all (fun n s=>(s.ops:Int)=if n=15 then 3 else if (9≤n∧n≤14)∨(16≤n∧n≤19) then 2 else if 20≤n∧n≤24 then 1 else 0) (by decide) ?_ n;intro n h;rw[if_neg (by omega),if_neg (by omega),if_neg (by omega)];rfl
theorem shp_stp (n:Int):(shp n).stp=decide (21≤n∧n≤23):=by
 refine shp_all (fun n s=>s.stp=decide (21≤n∧n≤23)) (by decide) ?_ n;intro n h;rw[decide_eq_false (by omega)];rfl
theorem shp_lit (n:Int):(shp n).lit=decide (1≤n∧n≤4):=by
 refine shp_all (fun n s=>s.lit=decide (1≤n∧n≤4)) (by decide) ?_ n;intro n h;rw[decide_eq_false (by omega)];rfl
theorem wrongN_ways (n:Nd):(n.op<1∧wrongN n=11)∨(1≤n.op∧24<n.op∧wrongN n=11)∨(1≤n.op∧n.op≤24∧numOk n=false∧wrongN n=11)∨
  (1≤n.op∧n.op≤24∧numOk n=true∧(shp n.op).nam=false∧n.name.toList.isEmpty=false∧wrongN n=11)∨
  (1≤n.op∧n.op≤24∧numOk n=true∧(shp n.op).nam=false∧n.name.toList.isEmpty=true∧wrongN n=0)∨
  (1≤n.op∧n.op≤24∧numOk n=true∧(shp n.op).nam=true∧nameB n.name.data.toList=false∧wrongN n=12)∨
  (1≤n.op∧n.op≤24∧numOk n=true∧(shp n.op).nam=true∧nameB n.name.data.toList=true∧wrongN n=0):=by
 by_cases h1:n.op<1
 ·exact .inl ⟨h1,by unfold wrongN;rw[if_pos (.inl h1)]⟩
 by_cases h2:24<n.op
 ·exact .inr (.inl ⟨by omega,h2,by unfold wrongN;rw[if_pos (.inr (.inl h2))]⟩)
 refine .inr (.inr ?_);have a1:1≤n.op:=by omega
 have a2:n.op≤24:=by omega
 cases h3:numOk n
 ·exact .inl ⟨a1,a2,rfl,by unfold wrongN;rw[if_pos (.inr (.inr (.inr h3)))]⟩
 refine .inr ?_;cases h4:(shp n.op).nam
 ·cases h5:n.name.toList.isEmpty
  ·exact .inl ⟨a1,a2,rfl,rfl,rfl,by unfold wrongN;rw[if_pos (.inr (.inr (.inl ⟨h4,fun h=>by rw[(emp_nil _).2 h] at h5;cases h5⟩)))]⟩
  ·refine .inr (.inl ⟨a1,a2,rfl,rfl,rfl,?_⟩);unfold wrongN;rw[if_neg (by rintro (h|h|h|h);exact h1 h;exact h2 h;exact h.2 ((emp_nil _).1 h5);rw[h3] at h;cases h),h4];rfl
 ·have hw:wrongN n=if !nameB n.name.data.toList then 12 else 0:=by
   unfold wrongN;rw[if_neg (by rintro (h|h|h|h);exact h1 h;exact h2 h;rw[h4] at h;cases h.1;rw[h3] at h;cases h),h4,Bool.true_and]
  refine .inr (.inr ?_);cases h5:nameB n.name.data.toList
  ·exact .inl ⟨a1,a2,rfl,rfl,rfl,by rw[hw,h5];rfl⟩
  ·exact .inr ⟨a1,a2,rfl,rfl,rfl,by rw[hw,h5];rfl⟩
structure Es (w:World) (es:List Nd) (A:Option Addr) (n c:Nat):Prop where
 len:n=es.length
 cap:n≤c
 max:c≤maxLen
 rd:Rd w A (nds es)
theorem Es.below {w w':World} {es:List Nd} {A:Option Addr} {n c:Nat} (h:Es w es A n c) (hb:Below w.heap.size w w'):Es w' es A n c:=⟨h.len,h.cap,h.max,h.rd.below hb⟩
theorem Es.nil (w:World):Es w [] none 0 0:=⟨rfl,Nat.le_refl _,by unfold maxLen;omega,.inl rfl⟩
theorem info_node:(Tryz.prog.info? 87).map (fun i=>(i.zero,i.size,i.bytes))=some (some (.agg #[.int .i64 0,.bool false,.string ⟨#[]⟩,.string ⟨#[]⟩,.string ⟨#[]⟩]),5,64):=by kernel_rfl
theorem nds_one (es:List Nd):∀u∈nds es,u.oneCell'=true:=by
 intro u hu;obtain⟨n,_,h⟩:=List.mem_flatMap.1 hu;simp only[Nd.cells,List.mem_cons,List.not_mem_nil,or_false] at h;rcases h with rfl|rfl|rfl|rfl|rfl<;>rfl
theorem nds_append (a b:List Nd):nds (a++b)=nds a++nds b:=List.flatMap_append
def RetEs (r:List Nd × Int) (w:World) (e:Ending) (w':World):Prop:=∃A n c,e=.returned (.tuple #[.slice A n c,.int .i64 r.2])∧Es w' r.1 A n c∧Below w.heap.size w w'
theorem RetEs.bad {r:List Nd × Int} {z:Int} {w w':World} (h:r=([],z)) (hb:Below w.heap.size w w'):RetEs r w (.returned (.tuple #[.slice none 0 0,.int .i64 z])) w':=
 ⟨none,0,0,by rw[h],by rw[h];exact Es.nil _,hb⟩
theorem own_form {w:World} {base:Nat} {e:TypeId} {size:Nat} {v:Value} {n:Nat} {xs:List Value} (h:w.ownsRow base e size v n xs) (hn:0<n):∃g cap,v=.slice (some ⟨g,0,none⟩) n cap∧base≤g:=by
 rcases h.2 with⟨_,h0⟩|⟨g,cap,cur,hv,hb,_⟩
 ·omega
 ·exact⟨g,cap,hv,hb⟩
theorem chk_op (e:List Nd):∀d,chk e d=0→∀n∈e,wrongN n=0:=by
 induction e with
 |nil=>intro d _ n hn;cases hn
 |cons m r ih=>
  intro d h n hn;rw[chk] at h;split at h
  ·next h1=>exact absurd h h1
  ·next h1=>
   split at h
   ·cases h
   ·rcases List.mem_cons.1 hn with rfl|hn
    ·simpa using h1
    ·exact ih _ h n hn
theorem checkE_wr {es:List Nd} (h:checkE es=0):∀n∈es,wrongN n=0:=by
 unfold checkE at h;split at h
 ·cases h
 ·exact chk_op es 0 h
end Go.Proofs.YtmmbjngbeiokeaaGreatDoor
