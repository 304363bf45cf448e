/- A part of the proof: E7 G1 G2 G3 G4 G5 G6 E8 G7. -/
import Derived.Test.YtfajelpcfnfjkaaGreatDoorA17
import Derived.Test.YtfajelpcfnfjkaaGreatDoorA19
set_option linter.unusedVariables false
set_option linter.unusedSimpArgs false
namespace Go.Proofs.YtfajelpcfnfjkaaGreatDoor
open Go.RowKit
theorem wrongN_op {n:Nd} (h:wrongN n=0):1≤n.op∧n.op≤24:=by
 unfold wrongN at h;split at h
 ·cases h
 ·next hc=>
  exact⟨Classical.byContradiction fun hh=>hc (.inl (by omega)),Classical.byContradiction fun hh=>hc (.inr (.inl (by omega)))⟩
theorem wrongN_vals (n:Nd):wrongN n=0∨wrongN n=11∨wrongN n=12:=by
 unfold wrongN;split
 ·exact .inr (.inl rfl)
 ·split
  ·exact .inr (.inr rfl)
  ·exact .inl rfl
theorem shp_ops_le (n:Int):(shp n).ops≤3:=by
 have h:∀s∈shs,s.ops≤3:=by decide
 unfold shp;rw[List.getD_eq_getElem?_getD];cases hg:shs[n.toNat]? with
 |none=>show 0≤3;omega
 |some s=>exact h s (List.mem_of_getElem? hg)
set_option maxRecDepth 100000 in
set_option maxHeartbeats 1600000 in
theorem check_any (es:List Nd) (A:Option Addr) (len cap:Nat) (w:World) (hL:LaidE w) (hlen:len=es.length) (hcap:len≤cap) (hm:cap≤maxLen) (hr:Rd w A (nds es)) (hf:∀n∈es,Fine n):
  Calls Tryz.prog 14 #[.slice A len cap] w fun e w'=>e=.returned (.int .i64 (checkE es))∧Below w.heap.size w w':=by
 unfold maxLen at hm;by_cases h60:60<len
 ·have HV:Hid (checkE es=2):=by show _=_;unfold checkE;rw[if_pos (by omega)]
  have h60':(60:Int)<len:=by omega
  clear hlen hL hr hf;go_enter Tryz.func14,Tryz.ntmps14;go_wp2;go_ret;exact⟨by rw[HV.out];rfl,Below.refl _ _⟩
 ·have HV:Hid (checkE es=chk es 0):=by show _=_;unfold checkE;rw[if_neg (by omega)]
  have h60':¬(60:Int)<len:=by omega
  have HL:=Lib.hid hL;have HR:=Lib.hid hr;have HF:=Lib.hid hf;have HLEN:=Lib.hid hlen;have hle:len≤60:=by omega
  clear hlen hL hr hf h60;go_enter Tryz.func14,Tryz.ntmps14;go_wp2
  go_loopg [3,12] len (fun g dv iv wr=>∃k d:Nat,k+g=len∧d≤k∧dv=.int .i64 d∧iv=.int .i64 k∧Hid (chk es 0=chk (es.drop k) d)∧Below w.heap.size w wr)
  case atStart=>exact⟨0,0,by omega,by omega,rfl,rfl,rfl,Below.refl _ _⟩
  case round=>
   obtain⟨k,d,hk,hd,rfl,rfl,hch,hbw⟩:=hrel;by_cases hlt:k<len
   ·have hke:k<es.length:=by rw[←HLEN.out];exact hlt
    obtain⟨b,off,rfl,hb,hc0,hc1,hc2,hc3,hc4⟩:=(HR.out.below hbw).nd hke;have hfin:=HF.out _ (List.getElem_mem hke);have HD:Hid (chk (es.drop k) d=chk (es[k]::es.drop (k+1)) d):=by show _=_;rw[List.drop_eq_getElem_cons hke]
    have HWR:=Lib.hid (fun w hL=>wrong_any es[k] w hL hfin);generalize es[k]=n at*;obtain⟨op,⟨neg,num,den⟩,nm⟩:=n;simp only at hc0 hc1 hc2 hc3 hc4;have hll:=HL.out.below hbw;have hla:=hll.alloc (.cells #[.int .i64 op,.bool neg,.string num,.string den,.string nm] 56);have HLA:=Lib.hid hla;have hba:Below w.heap.size w (wr.alloc (.cells #[.int .i64 op,.bool neg,.string num,.string den,.string nm] 56)):=hbw.alloc hbw.size _;have hka:=Blk.new wr 56 #[.int .i64 op,.bool neg,.string num,.string den,.string nm];have hv:=wrongN_vals ⟨op,⟨neg,num,den⟩,nm⟩;have hop:wrongN ⟨op,⟨neg,num,den⟩,nm⟩=0→1≤op∧op≤24:=wrongN_op
    have HCH:Hid (∀z,wrongN ⟨op,⟨neg,num,den⟩,nm⟩=z→chk es 0=if z≠0 then z else if d<(shp op).ops then 11 else chk (es.drop (k+1)) (d-(shp op).ops+1)):=by
     rintro z rfl;rw[hch.out,HD.out,chk]
    clear hla hll hfin;obtain⟨z,hz⟩:∃z,wrongN ⟨op,⟨neg,num,den⟩,nm⟩=z:=⟨_,rfl⟩
    have HCH:=Lib.hid (HCH.out z hz);rw[hz] at HWR hv hop;clear hz HD hch;by_cases hz0:z=0
    ·subst hz0;obtain⟨o1,o2⟩:=hop rfl;obtain⟨p,rfl⟩:∃p:Nat,op=p:=⟨op.toNat,by omega⟩
     have hol:=shp_ops_le (p:Int);clear hv;go_wp2_with fail;refine (HWR.out _ HLA.out).mono ?_;rintro e w2 ⟨rfl,hb2⟩;have hk2:=hka.below hb2 hka.lt;have hcB:=hk2.cells;have ht:=(HLA.out.below hb2).cell p 1 (by omega) (by omega)
     have HC:Hid (chk es 0=if d<(shp (p:Int)).ops then 11 else chk (es.drop (k+1)) (d-(shp (p:Int)).ops+1)):=by
      have:=HCH.out;rwa[if_neg (by simp)] at this
     simp only[Sh.cells,List.getElem?_cons_succ,List.getElem?_cons_zero] at ht;generalize shp (p:Int)=s at*;obtain⟨wd,o,l1,l2,l3⟩:=s;simp only at ht hol HC;have HB:=Lib.hid (bstep hba hb2);clear HCH hk2 hka hb2 hba HWR;by_cases hdo:d<o
     ·have e1:(d:Int)-o<0:=by omega
      go_wp2;go_ret;exact⟨by rw[HV.out,HC.out,if_pos hdo];rfl,HB.out⟩
     ·have e1:0≤(d:Int)-o:=by omega
      go_wp2
      go_roundg (len-(k+1))
      case measure=>omega
      case rel=>
       refine⟨k+1,d-o+1,by omega,by omega,by go_num,by go_num,?_,HB.out⟩;show _=_;rw[HC.out,if_neg hdo]
    ·have e1:(z==0)=false:=by simp[hz0]
     have e2:(z !=0)=true:=by simp[hz0]
     go_wp2_with fail;refine (HWR.out _ HLA.out).mono ?_;rintro e w2 ⟨rfl,hb2⟩;go_wp2;go_ret;exact⟨by rw[HV.out,HCH.out,if_pos hz0];rfl,bstep hba hb2⟩
   ·have hkl:k=len:=by omega
    have hg0:gk=0:=by omega
    have HD:Hid (es.drop k=[]):=by show _=_;rw[hkl,HLEN.out,List.drop_length]
    by_cases h1:d=1
    ·have e1:((d:Int) !=1)=false:=by rw[h1];rfl
     go_wp2;go_ret;refine⟨?_,hbw⟩;rw[HV.out,hch.out,HD.out,h1];rfl
    ·have e1:((d:Int) !=1)=true:=by rw[bne_iff_ne];omega
     go_wp2;go_ret;refine⟨?_,hbw⟩;rw[HV.out,hch.out,HD.out,chk,if_neg h1];rfl
theorem shp_out (n:Int) (h:n<1∨24<n):shp n=sh0:=by
 unfold shp;rcases h with h|h
 ·rw[show n.toNat=0 from by omega];rfl
 ·rw[List.getD_eq_getElem?_getD,List.getElem?_eq_none (by show 25≤_;omega)];rfl
theorem shp_all (P:Int→Sh→Prop) (h:∀k∈List.range 25,P (k:Int) (shp (k:Int))) (ho:∀n:Int,(n<1∨24<n)→P n sh0) (n:Int):P n (shp n):=by
 by_cases hh:n<1∨24<n
 ·rw[shp_out n hh];exact ho n hh
 ·have:=h n.toNat (List.mem_range.2 (by omega));rwa[show ((n.toNat:Nat):Int)=n from by omega] at this
theorem shp_ops (n:Int):((shp n).ops:Int)=if n=15 then 3 else if (9≤n∧n≤14)∨(16≤n∧n≤19) then 2 else if 20≤n∧n≤24 then 1 else 0:=by
 refine shp_all (fun n s=>(s.ops:Int)=if n=15 then 3 else if (9≤n∧n≤14)∨(16≤n∧n≤19) then 2 else if 20≤n∧n≤24 then 1 else 0) (by decide) ?_ n;intro n h;rw[if_neg (by omega),if_neg (by omega),if_neg (by omega)];rfl
theorem shp_stp (n:Int):(shp n).stp=decide (21≤n∧n≤23):=by
 refine shp_all (fun n s=>s.stp=decide (21≤n∧n≤23)) (by decide) ?_ n;intro n h;rw[decide_eq_false (by omega)];rfl
theorem shp_lit (n:Int):(shp n).lit=decide (1≤n∧n≤4):=by
 refine shp_all (fun n s=>s.lit=decide (1≤n∧n≤4)) (by decide) ?_ n;intro n h;rw[decide_eq_false (by omega)];rfl
theorem wrongN_ways (n:Nd):(n.op<1∧wrongN n=11)∨(1≤n.op∧24<n.op∧wrongN n=11)∨(1≤n.op∧n.op≤24∧numOk n=false∧wrongN n=11)∨
  (1≤n.op∧n.op≤24∧numOk n=true∧(shp n.op).nam=false∧n.name.toList.isEmpty=false∧wrongN n=11)∨
  (1≤n.op∧n.op≤24∧numOk n=true∧(shp n.op).nam=false∧n.name.toList.isEmpty=true∧wrongN n=0)∨
  (1≤n.op∧n.op≤24∧numOk n=true∧(shp n.op).nam=true∧nameB n.name.data.toList=false∧wrongN n=12)∨
  (1≤n.op∧n.op≤24∧numOk n=true∧(shp n.op).nam=true∧nameB n.name.data.toList=true∧wrongN n=0):=by
 by_cases h1:n.op<1
 ·exact .inl ⟨h1,by unfold wrongN;rw[if_pos (.inl h1)]⟩
 by_cases h2:24<n.op
 ·exact .inr (.inl ⟨by omega,h2,by unfold wrongN;rw[if_pos (.inr (.inl h2))]⟩)
 refine .inr (.inr ?_);have a1:1≤n.op:=by omega
 have a2:n.op≤24:=by omega
 cases h3:numOk n
 ·exact .inl ⟨a1,a2,rfl,by unfold wrongN;rw[if_pos (.inr (.inr (.inr h3)))]⟩
 refine .inr ?_;cases h4:(shp n.op).nam
 ·cases h5:n.name.toList.isEmpty
  ·exact .inl ⟨a1,a2,rfl,rfl,rfl,by unfold wrongN;rw[if_pos (.inr (.inr (.inl ⟨h4,fun h=>by rw[(emp_nil _).2 h] at h5;cases h5⟩)))]⟩
  ·refine .inr (.inl ⟨a1,a2,rfl,rfl,rfl,?_⟩);unfold wrongN;rw[if_neg (by rintro (h|h|h|h);exact h1 h;exact h2 h;exact h.2 ((emp_nil _).1 h5);rw[h3] at h;cases h),h4];rfl
 ·have hw:wrongN n=if !nameB n.name.data.toList then 12 else 0:=by
   unfold wrongN;rw[if_neg (by rintro (h|h|h|h);exact h1 h;exact h2 h;rw[h4] at h;cases h.1;rw[h3] at h;cases h),h4,Bool.true_and]
  refine .inr (.inr ?_);cases h5:nameB n.name.data.toList
  ·exact .inl ⟨a1,a2,rfl,rfl,rfl,by rw[hw,h5];rfl⟩
  ·exact .inr ⟨a1,a2,rfl,rfl,rfl,by rw[hw,h5];rfl⟩
structure Es (w:World) (es:List Nd) (A:Option Addr) (n c:Nat):Prop where
 len:n=es.length
 cap:n≤c
 max:c≤maxLen
 rd:Rd w A (nds es)
theorem Es.below {w w':World} {es:List Nd} {A:Option Addr} {n c:Nat} (h:Es w es A n c) (hb:Below w.heap.size w w'):Es w' es A n c:=⟨h.len,h.cap,h.max,h.rd.below hb⟩
theorem Es.nil (w:World):Es w [] none 0 0:=⟨rfl,Nat.le_refl _,by unfold maxLen;omega,.inl rfl⟩
theorem info_node:(Tryz.prog.info? 56).map (fun i=>(i.zero,i.size,i.bytes))=some (some (.agg #[.int .i64 0,.bool false,.string ⟨#[]⟩,.string ⟨#[]⟩,.string ⟨#[]⟩]),5,64):=by kernel_rfl
theorem nds_append (a b:List Nd):nds (a++b)=nds a++nds b:=List.flatMap_append
def RetEs (r:List Nd × Int) (w:World) (e:Ending) (w':World):Prop:=∃A n c,e=.returned (.tuple #[.slice A n c,.int .i64 r.2])∧Es w' r.1 A n c∧Below w.heap.size w w'
theorem RetEs.bad {r:List Nd × Int} {z:Int} {w w':World} (h:r=([],z)) (hb:Below w.heap.size w w'):RetEs r w (.returned (.tuple #[.slice none 0 0,.int .i64 z])) w':=
 ⟨none,0,0,by rw[h],by rw[h];exact Es.nil _,hb⟩
theorem own_form {w:World} {base:Nat} {e:TypeId} {size:Nat} {v:Value} {n:Nat} {xs:List Value} (h:w.ownsRow base e size v n xs) (hn:0<n):∃g cap,v=.slice (some ⟨g,0,none⟩) n cap∧base≤g:=by
 rcases h.2 with⟨_,h0⟩|⟨g,cap,cur,hv,hb,_⟩
 ·omega
 ·exact⟨g,cap,hv,hb⟩
theorem chk_op (e:List Nd):∀d,chk e d=0→∀n∈e,wrongN n=0:=by
 induction e with
 |nil=>intro d _ n hn;cases hn
 |cons m r ih=>
  intro d h n hn;rw[chk] at h;split at h
  ·next h1=>exact absurd h h1
  ·next h1=>
   split at h
   ·cases h
   ·rcases List.mem_cons.1 hn with rfl|hn
    ·simpa using h1
    ·exact ih _ h n hn
theorem checkE_wr {es:List Nd} (h:checkE es=0):∀n∈es,wrongN n=0:=by
 unfold checkE at h;split at h
 ·cases h
 ·exact chk_op es 0 h
end Go.Proofs.YtfajelpcfnfjkaaGreatDoor
