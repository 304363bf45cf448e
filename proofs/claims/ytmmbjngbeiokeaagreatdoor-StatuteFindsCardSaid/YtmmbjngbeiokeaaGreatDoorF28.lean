/- A part of the proof: Ek El Em. -/
import Derived.Deep.Cut
import Derived.Deep.CutRange
import Derived.Deep.LoopGhost
import Derived.Test.YtmmbjngbeiokeaaGreatDoorF01
import Derived.Test.YtmmbjngbeiokeaaGreatDoorF27
set_option linter.unusedVariables false
set_option linter.unusedSimpArgs false
set_option maxRecDepth 100000
set_option maxHeartbeats 40000000
namespace Go.Proofs.YtmmbjngbeiokeaaGreatDoor
open Go.RowKit
theorem bld_below {T e:TypeId} {B b:Nat} {p:Value} {bs:List Value} {w w':World} (h:Lib.BuilderAt T e B b p bs w) (hb:Below w.heap.size w w'):Lib.BuilderAt T e B b p bs w':=by
 obtain⟨h1,v,h2,h3,h4⟩:=h;exact⟨h1,v,(hb.block b (lt_of_some h2)).trans h2,own_below h3 hb,h4⟩
theorem isb_below {T e:TypeId} {B b:Nat} {bs:List Value} {w w':World} (h:Lib.IsBuilder T e B b bs w) (hb:Below w.heap.size w w'):Lib.IsBuilder T e B b bs w':=h.imp (fun h=>bld_below h hb) (fun h=>bld_below h hb)
theorem isb_lt {T e:TypeId} {B b:Nat} {bs:List Value} {w:World} (h:Lib.IsBuilder T e B b bs w):b<w.heap.size:=by
 rcases h with h|h<;>exact h.lt
theorem yesno_map (W:World) (r:Nat) (hr:r=W.heap.size):∃W2 W3:World,
  (Instr.mapUpdate 213 (.map (some r)) (.bool true) (.string ⟨#[121,101,115]⟩)).run Tryz.prog (W.alloc (.map #[] 0))=.ok () W2∧
  (Instr.mapUpdate 213 (.map (some r)) (.bool false) (.string ⟨#[110,111]⟩)).run Tryz.prog W2=.ok () W3∧
  (Instr.lookup 213 (.map (some r)) (.bool true) false).run Tryz.prog W3=.ok (.string ⟨#[121,101,115]⟩) W3∧
  (Instr.lookup 213 (.map (some r)) (.bool false) false).run Tryz.prog W3=.ok (.string ⟨#[110,111]⟩) W3∧Below W.heap.size W W3:=by
 subst hr;have hm:=Tryz.underlying213;have hk:=Tryz.underlying4;have hc:∀(x b:Bool) (w:World),(Instr.checkKey b 10000 4 (.bool x)).run Tryz.prog w=.ok () w:=fun x b w=>MapKept.run_checkKey (k:=.bool x) hk (by simp[MapKept.IsKey]) b 9999
 obtain⟨W1,hW1⟩:=zE (W.alloc (.map #[] 0));have hb1:W1.heap[W.heap.size]?=some (.map #[] 0):=by rw[hW1];unfold World.alloc;simp
 have h1:(Instr.mapUpdate 213 (.map (some W.heap.size)) (.bool true) (.string ⟨#[121,101,115]⟩)).run Tryz.prog W1=.ok () {W1 with heap:=W1.heap.setIfInBounds W.heap.size (.map #[{key:=.bool true,val:=.string ⟨#[121,101,115]⟩,born:=0}] 1)}:=by
  have hf:Instr.findNow .bool (.bool true) ([]:List MapEntry) 0=some none:=rfl;simp[Instr.mapUpdate,run_underlying hm,MapKept.run_getObj_map hb1,hc,MapKept.run_findKey hk hf,MapKept.run_setObj_map _ hb1,Result.andThen]
 obtain⟨W2,hW2⟩:=zE (({W1 with heap:=W1.heap.setIfInBounds W.heap.size (.map #[{key:=.bool true,val:=.string ⟨#[121,101,115]⟩,born:=0}] 1)}:World));have hb2:W2.heap[W.heap.size]?=some (.map #[{key:=.bool true,val:=.string ⟨#[121,101,115]⟩,born:=0}] 1):=by rw[hW2];show (W1.heap.setIfInBounds _ _)[_]?=_;rw[Array.getElem?_setIfInBounds,if_pos rfl,if_pos (lt_of_some hb1)]
 rw[←hW2] at h1
 have h2:(Instr.mapUpdate 213 (.map (some W.heap.size)) (.bool false) (.string ⟨#[110,111]⟩)).run Tryz.prog W2=.ok () {W2 with heap:=W2.heap.setIfInBounds W.heap.size (.map #[{key:=.bool true,val:=.string ⟨#[121,101,115]⟩,born:=0},{key:=.bool false,val:=.string ⟨#[110,111]⟩,born:=1}] 2)}:=by
  have hf:Instr.findNow .bool (.bool false) ([{key:=.bool true,val:=.string ⟨#[121,101,115]⟩,born:=0}]:List MapEntry) 0=some none:=rfl;simp[Instr.mapUpdate,run_underlying hm,MapKept.run_getObj_map hb2,hc,MapKept.run_findKey hk hf,MapKept.run_setObj_map _ hb2,Result.andThen]
 obtain⟨W3,hW3⟩:=zE (({W2 with heap:=W2.heap.setIfInBounds W.heap.size (.map #[{key:=.bool true,val:=.string ⟨#[121,101,115]⟩,born:=0},{key:=.bool false,val:=.string ⟨#[110,111]⟩,born:=1}] 2)}:World));have hb3:W3.heap[W.heap.size]?=some (.map #[{key:=.bool true,val:=.string ⟨#[121,101,115]⟩,born:=0},{key:=.bool false,val:=.string ⟨#[110,111]⟩,born:=1}] 2):=by rw[hW3];show (W2.heap.setIfInBounds _ _)[_]?=_;rw[Array.getElem?_setIfInBounds,if_pos rfl,if_pos (lt_of_some hb2)]
 rw[←hW3] at h2;refine⟨W2,W3,by rw[←hW1];exact h1,h2,?_,?_,?_⟩
 ·have hf:Instr.findNow .bool (.bool true) ([{key:=.bool true,val:=.string ⟨#[121,101,115]⟩,born:=0},{key:=.bool false,val:=.string ⟨#[110,111]⟩,born:=1}]:List MapEntry) 0=some (some (0,.string ⟨#[121,101,115]⟩)):=rfl;simp[Instr.lookup,run_underlying hm,MapKept.run_getObj_map hb3,hc,MapKept.run_findKey hk hf,Result.andThen]
 ·have hf:Instr.findNow .bool (.bool false) ([{key:=.bool true,val:=.string ⟨#[121,101,115]⟩,born:=0},{key:=.bool false,val:=.string ⟨#[110,111]⟩,born:=1}]:List MapEntry) 0=some (some (1,.string ⟨#[110,111]⟩)):=rfl;simp[Instr.lookup,run_underlying hm,MapKept.run_getObj_map hb3,hc,MapKept.run_findKey hk hf,Result.andThen]
 ·have ha:Below W.heap.size W W1:=by rw[hW1];exact zB _ _
  refine⟨by rw[hW3,hW2];exact ha.os,by rw[hW3,hW2];exact ha.tape,by rw[hW3,hW2];exact ha.output,by rw[hW3,hW2];simpa using ha.size,fun k hk=>?_⟩;rw[hW3,hW2];simp only[Array.getElem?_setIfInBounds]
  rw[if_neg (by omega),if_neg (by omega)];exact ha.block k hk
def hdT (n:Nd):List UInt8:=
 (shp n.op).word++n.name.data.toList++(if (shp n.op).lit then (textR n.num).data.toList else [])++(if n.op=2 then [100] else [])++(if (shp n.op).stp then [91]++(textR n.num).data.toList++[93] else [])
theorem txt_sep {n:Nd} (h4:n.op≠4) {cs:List (List Nd)} (hl:cs.length=(shp n.op).ops):txt n (cs.map textE)=hdT n++(sepT 0 cs++(if (shp n.op).ops=0 then [] else [41])):=by
 unfold txt hdT;rw[if_neg h4];congr 1;split
 ·next h0=>
  have:cs=[]:=List.eq_nil_of_length_eq_zero (by omega);subst this;rfl
 ·next h0=>rw[sepT_zero cs (by intro h;rw[h] at hl;exact h0 hl.symm)]
theorem sepT_len (k:Nat) (cs:List (List Nd)) (ha:∀a∈cs,Ex k a) (hf:∀n∈cs.flatten,Fine n) (j:Nat):(sepT j cs).length≤7000002*cs.flatten.length:=by
 induction cs generalizing j with
 |nil=>simp[sepT]
 |cons a cs ih=>
  have h1:=textE_len k a (ha a (by simp)) (fun n hn=>hf n (by simp[hn]));have h2:=ih (fun a h=>ha a (by simp[h])) (fun n hn=>hf n (by simp only[List.flatten_cons,List.mem_append];exact .inr hn)) (j+1);have h3:(sepW j).length≤2:=by unfold sepW;split<;>simp
  rw[sepT,List.flatten_cons];simp only[List.length_append]
  omega
theorem flat_take (cs:List (List Nd)) (i:Nat) (h:i<cs.length):(cs.take i).flatten.length+(cs.getD i []).length≤cs.flatten.length:=by
 have h1:cs=cs.take i++(cs.getD i []::cs.drop (i+1)):=by
  conv=>lhs;rw[←List.take_append_drop i cs,List.drop_eq_getElem_cons h]
  rw[List.getD_eq_getElem?_getD,List.getElem?_eq_getElem h];rfl
 conv=>rhs;rw[h1]
 simp only[List.flatten_append,List.flatten_cons,List.length_append];omega
structure WB (Bb b:Nat) (w0 w:World) (tot:List Value) (R:List UInt8) (X:World):Prop where
 t:∃t0,Lib.BuilderAt 69 5 Bb b (.pointer (some ⟨b,0,none⟩)) t0 X∧t0++lc R=tot
 o:Below w0.heap.size w0 X
 l:Below Bb w X
 f:BF b w X
 hB:Bb≤X.heap.size
section
variable {Bb b:Nat} {w0 w X X':World} {tot:List Value} {R R':List UInt8}
theorem WB.grow (h:WB Bb b w0 w tot R X) (hb:Below X.heap.size X X'):WB Bb b w0 w tot R X':=
 let ⟨t0,h1,h2⟩:=h.t;⟨⟨t0,bld_below h1 hb,h2⟩,bstep h.o hb,h.l.trans (hb.mono h.hB),h.f.trans (BF.of_below hb),Nat.le_trans h.hB hb.size⟩
theorem WB.as (h:WB Bb b w0 w tot R X) (e:R=R'):WB Bb b w0 w tot R' X:=e ▸ h
theorem wbW (s:ByteArray) {t0:List Value} (h1:Lib.IsBuilder 69 5 Bb b t0 X) (h2:t0++lc (s.data.toList++R)=tot) (o:Below w0.heap.size w0 X) (l:Below Bb w X) (f:BF b w X) (hB:Bb≤X.heap.size) (ht:tot.length≤10000000000000) (h0:w0.heap.size≤Bb):
  Calls Tryz.prog 95 #[.pointer (some ⟨b,0,none⟩),.string s] X fun e X'=>e=.returned (.tuple #[.int .i64 s.size,.nilIface])∧WB Bb b w0 w tot R X':=by
 have hl:=congrArg List.length h2;unfold lc at hl;rw[List.length_append,List.length_map,List.length_append] at hl;refine (wrs_bf Bb b t0 s X h1 (by rw[ba_size];omega) hB).mono ?_;rintro e X' ⟨rfl,hx,hb,hf⟩;exact⟨rfl,⟨_,hx,by rw[←h2];unfold lc;rw[List.map_append,List.append_assoc]⟩,o.trans (hb.mono h0),l.trans hb,f.trans hf,Nat.le_trans hB hb.size⟩
theorem WB.wr (s:ByteArray) (h:WB Bb b w0 w tot (s.data.toList++R) X) (ht:tot.length≤10000000000000) (h0:w0.heap.size≤Bb):
  Calls Tryz.prog 95 #[.pointer (some ⟨b,0,none⟩),.string s] X fun e X'=>e=.returned (.tuple #[.int .i64 s.size,.nilIface])∧WB Bb b w0 w tot R X':=
 let ⟨_,h1,h2⟩:=h.t;wbW s (.inr h1) h2 h.o h.l h.f h.hB ht h0
theorem sepT_cut (cs:List (List Nd)) (i j:Nat):(sepT j cs).length=(sepT j (cs.take i)).length+(sepT (j+i) (cs.drop i)).length:=by
 induction i generalizing cs j with
 |zero=>simp[sepT]
 |succ i ih=>cases cs with
  |nil=>simp[sepT]
  |cons a cs=>rw[List.take_succ_cons,List.drop_succ_cons,sepT,sepT];simp only[List.length_append];rw[ih cs (j+1),show j+(i+1)=j+1+i by omega];omega
theorem sepT_drop {cs:List (List Nd)} {i:Nat} (h:i<cs.length) (R:List UInt8):sepT i (cs.drop i)++R=sepW i++(textE (cs.getD i [])++(sepT (i+1) (cs.drop (i+1))++R)):=by
 rw[List.drop_eq_getElem_cons h,sepT,List.getD_eq_getElem?_getD,List.getElem?_eq_getElem h];simp
end
theorem write_any (es:List Nd) (args:List (List Nat)) (A1 A2:Option Addr) (l1 c1 l2 c2 Bb b:Nat) (w0:World) (hL:LaidE w0) (h1:Es w0 es A1 l1 c1) (hf1:∀n∈es,Fine n) (h2:ArgsAt w0 args A2 l2 c2)
  (hB:w0.heap.size≤Bb) (h60:l1≤60) (hag:args.length=es.length)
  (k:Nat):∀(a:List Nd),Ex k a→∀(o:Nat),Sub es args o a→∀(bs:List Value) (w:World),Below w0.heap.size w0 w→Bb≤w.heap.size→Lib.IsBuilder 69 5 Bb b bs w→bs.length+7000002*a.length≤1000000000000→
    Calls Tryz.prog 101 #[.pointer (some ⟨b,0,none⟩),.slice A1 l1 c1,.slice A2 l2 c2,.int .i64 ((o+a.length-1:Nat):Int)] w fun e w'=>e=.returned (.tuple #[])∧
     (Lib.BuilderAt 69 5 Bb b (.pointer (some ⟨b,0,none⟩)) (bs++lc (textE a)) w'∧Below Bb w w'∧BF b w w'):=by
 have H1:=zH h1;have H2:=zH h2;have HL:=zH hL;have HF:=zH hf1;have hl1:=h1.len;have hl2:=h2.len;rw[hag] at hl2;clear h1 h2 hL hf1;subst hl1 hl2
 induction k with
 |zero=>intro a h;exact h.elim
 |succ k ih=>
  rintro a ⟨cs,n,rfl,hn,hl,ha⟩ o hsub bs w hbw hBw hib hlen;obtain⟨hr1,hr2⟩:=hsub.root hl ha;rw[List.length_append,List.length_singleton] at hlen⊢;obtain⟨p,hp⟩:=zF (o+cs.flatten.length);rw[show o+(cs.flatten.length+1)-1=p from by omega];rw[hp] at hr1 hr2;have hpe:p<es.length:=(List.getElem?_eq_some_iff.1 hr1).1;have hfn:Fine n:=HF.out n (List.mem_of_getElem? hr1)
  have hfc:∀m∈cs.flatten,Fine m:=fun m hm=>by
   obtain⟨i,hi,he⟩:=List.getElem_of_mem hm;have:=hsub.node i (by rw[List.length_append];omega);rw[List.getElem?_append_left hi,List.getElem?_eq_getElem hi,he] at this;exact HF.out m (List.mem_of_getElem? this)
  have HIH:Hid (∀i,i<cs.length→∀(bs':List Value) (w':World),Below w0.heap.size w0 w'→Bb≤w'.heap.size→Lib.IsBuilder 69 5 Bb b bs' w'→bs'.length+7000002*(cs.getD i []).length≤1000000000000→
    Calls Tryz.prog 101 #[.pointer (some ⟨b,0,none⟩),.slice A1 es.length c1,.slice A2 es.length c2,.int .i64 (((roots o cs).getD i 0:Nat):Int)] w' fun e w''=>e=.returned (.tuple #[])∧
     (Lib.BuilderAt 69 5 Bb b (.pointer (some ⟨b,0,none⟩)) (bs'++lc (textE (cs.getD i []))) w''∧Below Bb w' w''∧BF b w' w'')):=by
   intro i hi bs' w' hbw' hBw' hib' hlen';have e1:cs.getD i []=cs[i]:=by rw[List.getD_eq_getElem?_getD,List.getElem?_eq_getElem hi];rfl
   have hcs:cs=cs.take i++cs[i]::cs.drop (i+1):=by rw[←List.drop_eq_getElem_cons hi,List.take_append_drop]
   have hli:(cs.take i).length=i:=by rw[List.length_take];omega
   have e2:(roots o cs).getD i 0=o+(cs.take i).flatten.length+(cs[i]).length-1:=by
    have:=roots_get o (cs.take i) (cs.drop (i+1)) cs[i];rw[←hcs,hli] at this;rw[List.getD_eq_getElem?_getD,this];rfl
   rw[e1] at hlen'⊢;rw[e2];refine ih cs[i] (ha _ (List.getElem_mem hi)) (o+(cs.take i).flatten.length) ?_ bs' w' hbw' hBw' hib' hlen';refine Sub.child (k:=k) (cs:=cs.take i) (ds:=cs.drop (i+1)) (n:=n) ?_ ?_ ?_
   ·rw[←hcs];exact hsub
   ·rw[←hcs];exact hl
   ·rw[←hcs];exact ha
  clear ih;have hTX:Hid (textE (cs.flatten++[n])=txt n (cs.map textE)):=textE_node hl ha
  have hSL:∀i,(sepT 0 (cs.take i)).length≤7000002*(cs.take i).flatten.length:=fun i=>
   sepT_len k (cs.take i) (fun a h=>ha a (List.mem_of_mem_take h)) (fun m hm=>hfc m (by
    rw[←List.take_append_drop i cs,List.flatten_append];exact List.mem_append_left _ hm)) 0
  have HSL:=zH hSL;have HFT:=zH (fun i h=>flat_take cs i h);clear hsub hfc hSL;obtain⟨rows,hrd2,hll⟩:=H2.out.rows;obtain⟨v9,hv9,A9,c9,rfl,h91,h92,h93,_⟩:=hll.row p _ hr2;have HR9:=zH h93;have hpl2:p<args.length:=by rw[hag];exact hpe
  rw[roots_length] at hv9 h91;have hpr:p<rows.length:=(List.getElem?_eq_some_iff.1 hv9).1;obtain⟨b2,off2,rfl,hb2,hc2⟩:=hrd2.at_ hpr;have h9:=hc2 p hpr;rw[(List.getElem?_eq_some_iff.1 hv9).2] at h9;have H9:Hid (∀w',Below w0.heap.size w0 w'→w'.cell? ⟨b2,off2+p,none⟩=some (.slice A9 cs.length c9)):=fun w' hb=>(hb.cell hb2).trans h9
  clear hc2 h9 hv9 hll hrd2 hb2 hr2 h93;obtain⟨b1,off1,hA1,hb1,hnd⟩:=(H1.out.rd.below hbw).nd hpe;subst hA1;rw[(List.getElem?_eq_some_iff.1 hr1).2] at hnd;obtain⟨hc0,hc1,hc2,hc3,hc4⟩:=hnd;obtain⟨w1',w24,hnm0,hnumok,_⟩:=wrongN_parts hn;have hways:=shp_lit n.op;have hways2:=shp_stp n.op;have hops2:=shp_ops n.op;have hol:=shp_ops_le n.op;have hnl:=name_len hn;have hwl:=shp_word_len n.op;have hts:=textR_size n.num hfn.1 hfn.2;have HTX:=zH (fun W hL=>qText_any n.num W hL hfn.1 hfn.2);have HHD:Hid (n.op≠4→textE (cs.flatten++[n])=hdT n++(sepT 0 cs++(if (shp n.op).ops=0 then [] else [41]))):=fun h4=>by rw[hTX.out,txt_sep h4 hl]
  have HD:Hid (hdT n=(shp n.op).word++n.name.data.toList++(if (shp n.op).lit then (textR n.num).data.toList else [])++(if n.op=2 then [100] else [])++(if (shp n.op).stp then [91]++(textR n.num).data.toList++[93] else [])):=rfl
  have HTR:Hid (n.op=4→(n.num=ofI 0∧textE (cs.flatten++[n])=noL)∨(n.num=ofI 1∧textE (cs.flatten++[n])=yesL)):=by
   intro h4;rw[hTX.out];unfold numOk at hnumok;rw[if_pos h4,Bool.or_eq_true,decide_eq_true_eq,decide_eq_true_eq] at hnumok;unfold txt;rcases hnumok with hz|hz
   ·exact .inl ⟨hz,by rw[if_pos h4,hz,if_pos (show (ofI 0).num=⟨#[]⟩ from rfl)];rfl⟩
   ·exact .inr ⟨hz,by rw[if_pos h4,hz,if_neg (show ¬(ofI 1).num=⟨#[]⟩ from by decide)];rfl⟩
  generalize textE (cs.flatten++[n])=TT at*;have hll0:=HL.out.below hbw;clear hTX hnumok hnm0 hn;generalize hdT n=HDT at*;generalize textR n.num=tx at*;obtain⟨op,⟨neg,num,den⟩,nm⟩:=n;simp only at hc0 hc1 hc2 hc3 hc4 w1' w24 hways hways2 hops2 hnl hwl HTX HHD HD HTR hl hol;obtain⟨q,rfl⟩:∃q:Nat,op=q:=⟨op.toNat,by omega⟩
  have hla:=hll0.alloc (.cells #[.int .i64 (q:Int),.bool neg,.string num,.string den,.string nm] 87);have ht0:=hla.cell q 0 (by omega) (by omega);have ht1:=hla.cell q 1 (by omega) (by omega);have ht2:=hla.cell q 2 (by omega) (by omega);have ht3:=hla.cell q 3 (by omega) (by omega);have ht4:=hla.cell q 4 (by omega) (by omega);generalize shp (q:Int)=s at*;obtain⟨wdl,oo,lit,nam,stp⟩:=s;simp only[Sh.cells,List.getElem?_cons_zero,List.getElem?_cons_succ,Nat.add_zero] at ht0 ht1 ht2 ht3 ht4;simp only at hways hways2 hops2 hwl hl HHD HD hol;obtain⟨wd,hwd⟩:∃wd:ByteArray,⟨wdl.toArray⟩=wd:=⟨_,rfl⟩
  have hwdl:wd.data.toList=wdl:=by rw[←hwd]
  rw[hwd] at ht0;rw[←hwdl] at HD hwl;have hwd7:wd.size≤7:=by rw[ba_size];exact hwl
  have hsz3:(tx.size:Nat)≤6291460:=hts;have hne0:b<w.heap.size:=isb_lt hib;clear hla hwd hwdl;subst hl;have HSLW:Hid ((sepT 0 cs).length≤7000002*cs.flatten.length):=by have:=HSL.out cs.length;rwa[List.take_length] at this
  have HLEN:=zH hlen;have hlenb:bs.length≤999993000000:=by omega
  have hsm1:¬(9223372036854775807<wd.size+nm.size):=by omega
  have hsm2:¬(9223372036854775807<1+tx.size):=by omega
  have hsm3:¬(9223372036854775807<(⟨#[91]⟩++tx:ByteArray).size+1):=by rw[ByteArray.size_append];show ¬(_<1+tx.size+1);omega
  have hsm4:¬(9223372036854775807<1+tx.size+1):=by omega
  clear hlen;by_cases h4:(q:Int)=4
  ·have e4:((q:Int)==4)=true:=by rw[h4];rfl
   have HT2:∃bx:Bool,(num.toList !=(⟨#[]⟩:ByteArray).toList)=bx∧TT=(if bx then yesL else noL):=by
    rcases HTR.out h4 with⟨hz,ht⟩|⟨hz,ht⟩
    ·injection hz with z1 z2 z3;subst z2;exact⟨false,by decide+kernel,ht⟩
    ·injection hz with z1 z2 z3;subst z2;exact⟨true,by decide+kernel,ht⟩
   obtain⟨bx,e5,ht⟩:=HT2;have e6:=e5;rw[show (⟨#[]⟩:ByteArray).toList=[] by rw[ByteArray.toList_eq]] at e6;have e7:num.toList.isEmpty= !bx:=by rw[←e6];cases num.toList<;>rfl
   have HT:=zH ht;have hmk:=@run_makeMap Tryz.prog
   have hba:Below w.heap.size w ((w.alloc (.cells #[.int .i64 (q:Int),.bool neg,.string num,.string den,.string nm] 87)).alloc (.cells #[.string wd,.int .i64 (cs.length:Int),.bool lit,.bool nam,.bool stp] 148)):=
    (zB _ _).alloc (by rw[World.size_alloc];omega) _
   obtain⟨W2,W3,hi1,hi2,hi3,hi4,hb3⟩:=yesno_map _ (w.heap.size+1+1) (show w.heap.size+1+1=((w.alloc (.cells #[.int .i64 (q:Int),.bool neg,.string num,.string den,.string nm] 87)).alloc (.cells #[.string wd,.int .i64 (cs.length:Int),.bool lit,.bool nam,.bool stp] 148)).heap.size by rw[World.size_alloc,World.size_alloc]);have hbw3:=bstep hba hb3;have hi:=isb_below hib hbw3;have HI:=zH hi;have HBW:Hid (Below Bb w W3):=hbw3.mono hBw;have HFW:Hid (BF b w W3):=BF.of_below hbw3;have hBW:Bb≤W3.heap.size:=Nat.le_trans hBw hbw3.size;have hkn:Blk ((w.alloc (.cells #[.int .i64 (q:Int),.bool neg,.string num,.string den,.string nm] 87)).alloc (.cells #[.string wd,.int .i64 (cs.length:Int),.bool lit,.bool nam,.bool stp] 148)) w.heap.size 87 [.int .i64 (q:Int),.bool neg,.string num,.string den,.string nm]:=(Blk.new w _ _).alloc _;have hcn:=(hkn.below hb3 hkn.lt).cells;clear hb3 hbw3 hi hib hba hkn;clear hways hways2 hops2 HTR HHD HD hfn hr1 h4 ht;go_enter Tryz.func101,Tryz.ntmps101;cases bx
   ·go_wp2_with fail;refine (wrs_bf Bb b bs ⟨#[110,111]⟩ _ HI.out (by show bs.length+2≤_;omega) hBW).mono ?_;rintro e w1 ⟨rfl,hx1,hb1,hf1⟩;go_wp2
    first|go_end0|refine bodyPost_ret (results_none rfl _ _ _) rfl ?_
    exact⟨rfl,by rw[HT.out];exact hx1,HBW.out.trans hb1,HFW.out.trans hf1⟩
   ·go_wp2_with fail;refine (wrs_bf Bb b bs ⟨#[121,101,115]⟩ _ HI.out (by show bs.length+3≤_;omega) hBW).mono ?_;rintro e w1 ⟨rfl,hx1,hb1,hf1⟩;go_wp2
    first|go_end0|refine bodyPost_ret (results_none rfl _ _ _) rfl ?_
    exact⟨rfl,by rw[HT.out];exact hx1,HBW.out.trans hb1,HFW.out.trans hf1⟩
  ·have e4:((q:Int)==4)=false:=by rw[beq_eq_false_iff_ne];exact h4
   have HT:=zH (HHD.out h4);obtain⟨tot,htot⟩:=zE (bs++lc TT);have hX:bs++lc ((wd++nm).data.toList++((if lit then tx.data.toList else [])++((if (q:Int)=2 then [100] else [])++((if stp then (⟨#[91]⟩++tx++⟨#[93]⟩:ByteArray).data.toList else [])++(sepT 0 cs++(if cs.length=0 then [] else [41]))))))=tot:=by rw[htot,HT.out,HD.out];simp[ByteArray.data_append,lc]
   have htl:tot.length=bs.length+HDT.length+(sepT 0 cs).length+(if cs.length=0 then [] else [41]:List UInt8).length:=by rw[htot,HT.out];unfold lc;simp only[List.length_append,List.length_map];omega
   have hdl:HDT.length≤7000000:=by
    have h1:=ba_size tx;have h2:=ba_size nm;have e1:(lit&&stp)=false:=by rw[hways,hways2,←Bool.decide_and];exact decide_eq_false (by omega)
    have e3:(if stp=true then [91]++tx.data.toList++[93] else ([]:List UInt8)).length+(if lit=true then tx.data.toList else []).length≤tx.size+2:=by
     clear hX htl hways hways2 HD;cases lit<;>cases stp<;>simp only[Bool.false_eq_true,if_true,if_false,List.length_append,List.length_cons,List.length_nil]<;>first|omega|cases e1
    have e2:(if (q:Int)=2 then [100] else ([]:List UInt8)).length≤1:=by split<;>simp
    rw[HD.out];simp only[List.length_append] at e3⊢;omega
   have HQ:Hid (∀i,i<cs.length→tot.length+2+7000002*(cs.getD i []).length≤1000000000000+(sepT i (cs.drop i)++(if cs.length=0 then [] else [41]:List UInt8)).length):=fun i h=>by
    have h1:=HSL.out i;have h2:=HFT.out i h;have h3:=HLEN.out;have h4:=sepT_cut cs i 0;rw[Nat.zero_add] at h4;rw[htl,List.length_append];omega
   replace htl:tot.length≤10000000000000:=by
    have h4:=HSLW.out;have h5:=HLEN.out;have e5:(if cs.length=0 then ([]:List UInt8) else [41]).length≤1:=by split<;>simp
    omega
   have hib2:=fun X h=>isb_below hib (w':=X) h
   have HTT:Hid (bs++lc TT=tot):=htot.symm;clear hib hdl htot HHD HTR hways hways2 hops2 hfn hr1 h4 hsz3;obtain⟨hk0,hk1,hba,_⟩:=Two.new w 87 148 #[.int .i64 (q:Int),.bool neg,.string num,.string den,.string nm] #[.string wd,.int .i64 (cs.length:Int),.bool lit,.bool nam,.bool stp];go_enter Tryz.func101,Tryz.ntmps101
   go_upto_region 2 with fail
   generalize hW:(w.alloc _).alloc _=W;rw[hW] at hk0 hk1 hba;have n0:w.heap.size≠b:=by omega
   have n1:w.heap.size+1≠b:=by omega
   have hc:=fun (X:World) (k:BF b W X)=>show (X.cell? ⟨w.heap.size,0,none⟩=some (.int .i64 (q:Int))∧X.cell? ⟨w.heap.size,1,none⟩=some (.bool neg)∧X.cell? ⟨w.heap.size,2,none⟩=some (.string num)∧X.cell? ⟨w.heap.size,3,none⟩=some (.string den)∧X.cell? ⟨w.heap.size,4,none⟩=some (.string nm))∧X.cell? ⟨w.heap.size+1,0,none⟩=some (.string wd)∧X.cell? ⟨w.heap.size+1,1,none⟩=some (.int .i64 (cs.length:Int))∧X.cell? ⟨w.heap.size+1,2,none⟩=some (.bool lit)∧X.cell? ⟨w.heap.size+1,3,none⟩=some (.bool nam)∧X.cell? ⟨w.heap.size+1,4,none⟩=some (.bool stp) from
    ⟨⟨(k.blk hk0 (by decide) n0).cells 0,(k.blk hk0 (by decide) n0).cells 1,(k.blk hk0 (by decide) n0).cells 2,(k.blk hk0 (by decide) n0).cells 3,(k.blk hk0 (by decide) n0).cells 4⟩,(k.blk hk1 (by decide) n1).cells 0,(k.blk hk1 (by decide) n1).cells 1,(k.blk hk1 (by decide) n1).cells 2,(k.blk hk1 (by decide) n1).cells 3,(k.blk hk1 (by decide) n1).cells 4⟩
   clear hW hk0 hk1 n0 n1 ht0 ht1 ht2 ht3 ht4 hc0 hc1 hc2 hc3 hc4;have hl0:=hc _ (BF.refl b W);go_wp2_with fail;refine (wbW (wd++nm) (hib2 _ hba) hX (bstep hbw hba) (Below.refl _ _) (BF.refl _ _) (Nat.le_trans hBw hba.size) htl hB).mono ?_;clear hX;rintro e w1 ⟨rfl,hX⟩;clear hl0;have hl0:=hc _ hX.f
   go_upto_if 40 with fail
   go_cut [] from 39 to 45 (fun X=>WB Bb b w0 W tot ((if (q:Int)=2 then [100] else [])++((if stp then (⟨#[91]⟩++tx++⟨#[93]⟩:ByteArray).data.toList else [])++(sepT 0 cs++(if cs.length=0 then [] else [41])))) X)
   case first=>
    cases lit
    ·go_wp2
     go_meet
     case rel=>exact hX
    ·go_wp2_with fail;refine (HTX.out w1 (HL.out.below hX.o).base).mono ?_;rintro e w2 ⟨rfl,hb⟩;go_wp2_with fail;refine (WB.wr tx (hX.grow hb) htl hB).mono ?_;rintro e w3 ⟨rfl,hX⟩;go_wp2
     go_meet
     case rel=>exact hX
   case rest=>
    clear hX hl0;have hX:=hcut;clear hcut;have hl0:=hc _ hX.f;obtain⟨x2,e2⟩:=zF ((q:Int)==2)
    go_upto_if 48 with fail
    go_cut [] from 46 to 50 (fun X=>WB Bb b w0 W tot ((if stp then (⟨#[91]⟩++tx++⟨#[93]⟩:ByteArray).data.toList else [])++(sepT 0 cs++(if cs.length=0 then [] else [41]))) X)
    case first=>
     cases x2
     ·rw[if_neg (beq_eq_false_iff_ne.1 e2)] at hX;go_wp2
      go_meet
      case rel=>exact hX
     ·rw[if_pos (eq_of_beq e2)] at hX;go_wp2_with fail;refine (WB.wr ⟨#[100]⟩ hX htl hB).mono ?_;rintro e w3 ⟨rfl,hX⟩;go_wp2
      go_meet
      case rel=>exact hX
    case rest=>
     clear hX hl0;have hX:=hcut;clear hcut;have hl0:=hc _ hX.f
     go_upto_if 52 with fail
     go_cut [] from 51 to 59 (fun X=>WB Bb b w0 W tot (sepT 0 (cs.drop 0)++(if cs.length=0 then [] else [41])) X)
     case first=>
      cases stp
      ·go_wp2
       go_meet
       case rel=>exact hX
      ·rw[if_pos rfl] at hX;go_wp2_with fail;refine (HTX.out _ (HL.out.below hX.o).base).mono ?_;rintro e w2 ⟨rfl,hb⟩;go_wp2_with fail;replace hX:=hX.grow hb;generalize (⟨#[91]⟩++tx++⟨#[93]⟩:ByteArray)=z at hX⊢;refine (WB.wr z hX htl hB).mono ?_;rintro e w3 ⟨rfl,hX⟩;go_wp2
       go_meet
       case rel=>exact hX
     case rest=>
      clear hX hl0;have hX:=hcut;clear hcut;have h9:=H9.out _ hX.o;go_wp2;clear h9
      go_loopg [65] cs.length (fun g iv X=>∃i,i+g=cs.length∧iv=.int .i64 (i:Int)∧WB Bb b w0 W tot (sepT i (cs.drop i)++(if cs.length=0 then [] else [41])) X)
      case atStart=>exact⟨0,by omega,rfl,hX⟩
      case round=>
       clear hX;obtain⟨i,hi,rfl,hX⟩:=hrel;by_cases hlt:i<cs.length
       ·have hrt:i<(I (roots o cs)).length:=by rw[I_length,roots_length];exact hlt
        obtain⟨b3,off3,rfl,hb3,hcc⟩:=(HR9.out.below hX.o).at_ hrt;have hcell:=hcc i hrt;rw[I_get] at hcell;have hih:=HIH.out i hlt;have hq:=zH (HQ.out i hlt);rw[sepT_drop hlt] at hX hq;generalize (roots o cs).getD i 0=rt at*;generalize cs.getD i []=c at*;clear hcc hb3 hrt;obtain⟨xi,ei⟩:=zF ((i:Int)==0)
        go_upto_if 71 with fail
        go_cut [] from 70 to 75 (fun X=>WB Bb b w0 W tot (textE c++(sepT (i+1) (cs.drop (i+1))++(if cs.length=0 then [] else [41]))) X)
        case first=>
         cases xi
         ·rw[show sepW i=[44,32] by unfold sepW;rw[if_neg (by simpa using ei)]] at hX;clear hq hih;go_wp2_with fail;refine (WB.wr ⟨#[44,32]⟩ hX htl hB).mono ?_;rintro e w3 ⟨rfl,hX⟩;go_wp2
          go_meet
          case rel=>exact hX
         ·rw[show sepW i=[40] by unfold sepW;rw[if_pos (by simpa using ei)]] at hX;clear hq hih;go_wp2_with fail;refine (WB.wr ⟨#[40]⟩ hX htl hB).mono ?_;rintro e w3 ⟨rfl,hX⟩;go_wp2
          go_meet
          case rel=>exact hX
        case rest=>
         clear hX hcell ei;have hX:=hcut;clear hcut;go_wp2_with fail;obtain⟨t0,h1,h2⟩:=hX.t;have hsw:(sepW i).length≤2:=by unfold sepW;split<;>simp
         refine (hih t0 _ hX.o hX.hB (.inr h1) (by have h3:=congrArg List.length h2;have h4:=hq.out;rw[List.length_append,lc_len] at h3;rw[List.length_append] at h4;omega)).mono ?_;rintro e w4 ⟨rfl,h5,h6,h7⟩;replace hX:WB Bb b w0 W tot (sepT (i+1) (cs.drop (i+1))++(if cs.length=0 then [] else [41])) w4:=⟨⟨_,h5,by rw[←h2,lc_app (textE c),List.append_assoc]⟩,hX.o.trans (h6.mono hB),hX.l.trans h6,hX.f.trans h7,Nat.le_trans hX.hB h6.size⟩
         clear h1 h2 h5 h6 h7 hih hq hsw;go_wp2
         go_roundg (cs.length-(i+1))
         case measure=>omega
         case rel=>exact⟨i+1,by omega,by go_num,hX⟩
       ·obtain rfl:i=cs.length:=by omega
        rw[List.drop_length] at hX;have hl0:=hc _ hX.f;have hx1:decide ((cs.length:Int)<cs.length)=false:=decide_eq_false (by omega);by_cases ho:cs.length=0
        ·rw[if_pos ho] at hX;go_wp2;go_end0;obtain⟨t0,h1,h2⟩:=hX.t;exact⟨rfl,by rw[HTT.out,←h2];simpa [sepT,lc] using h1,(hba.mono hBw).trans hX.l,(BF.of_below hba).trans hX.f⟩
        ·have hop:0<cs.length:=by omega
         rw[if_neg ho] at hX;go_wp2_with fail;refine (WB.wr ⟨#[41]⟩ hX htl hB).mono ?_;rintro e wz ⟨rfl,hX⟩;go_wp2;go_end0;obtain⟨t0,h1,h2⟩:=hX.t;exact⟨rfl,by rw[HTT.out,←h2];simpa [sepT,lc] using h1,(hba.mono hBw).trans hX.l,(BF.of_below hba).trans hX.f⟩
theorem ex_pos {k:Nat} {e:List Nd} (h:Ex k e):0<e.length:=by
 cases k with
 |zero=>exact h.elim
 |succ k=>
  obtain⟨cs,n,rfl,_⟩:=h;simp
theorem write_all (es:List Nd) (A1 A2:Option Addr) (l1 c1 l2 c2 B:Nat) (w2 W3:World) (hL:LaidE w2) (h1:Es w2 es A1 l1 c1) (hf:∀n∈es,Fine n) (h2:ArgsAt w2 (argsE es) A2 l2 c2) (hz:checkE es=0)
  (hB:w2.heap.size=B) (hb:Below w2.heap.size w2 W3) (hs:B≤W3.heap.size) (hib:Lib.IsBuilder 69 5 B B [] W3) (i:Int) (hi:i=(l1:Int)-1):
  Calls Tryz.prog 101 #[.pointer (some ⟨B,0,none⟩),.slice A1 l1 c1,.slice A2 l2 c2,.int .i64 i] W3 fun e w'=>e=.returned (.tuple #[])∧
    (Lib.BuilderAt 69 5 B B (.pointer (some ⟨B,0,none⟩)) (lc (textE es)) w'∧Below B W3 w'):=by
 have hk:=((checkE_iff es).1 hz).1;have hl:=h1.len;have hEx:=checkE_ex hz;have hpos:=ex_pos hEx;have h60:l1≤60:=by omega
 have hlen:([]:List Value).length+7000002*es.length≤1000000000000:=by rw[List.length_nil];omega
 have hle:w2.heap.size≤B:=Nat.le_of_eq hB;have h:=write_any es (argsE es) A1 A2 l1 c1 l2 c2 B B w2 hL h1 hf h2 hle h60 (runA_length _ _ _) 61 es hEx 0 Sub.whole [] W3 hb hs hib hlen;have hi2:((0+es.length-1:Nat):Int)=i:=by omega
 rw[hi2,List.nil_append] at h;exact h.mono (fun e w' h=>⟨h.1,h.2.1,h.2.2.1⟩)
theorem eText_any (es:List Nd) (A1:Option Addr) (l1 c1:Nat) (w:World) (hL:LaidE w) (h1:Es w es A1 l1 c1) (hf1:∀n∈es,Fine n):
  Calls Tryz.prog 54 #[.slice A1 l1 c1] w (RetText es w):=by
 obtain rfl:=h1.len;have HC:=zH (check_any es A1 es.length c1 w hL h1.len h1.cap h1.max h1.rd hf1);have H1:=zH h1;have HL:=zH hL;have HF:=zH hf1;by_cases hz:checkE es=0
 ·have hk:=((checkE_iff es).1 hz).1;have HZ:=zH hz
  have HA:Hid (∀W,LaidE W→Es W es A1 es.length c1→Calls Tryz.prog 100 #[.slice A1 es.length c1] W (RetArgs true (argsE es) W)):=fun W hL h=>by
   have:=eArgs_any es A1 es.length c1 W hL h hf1;rw[hz] at this;exact this
  have HRT:Hid (∀w',Below w.heap.size w w'→RetText es w (.returned (.tuple #[.string ⟨(textE es).toArray⟩,.int .i64 0])) w'):=fun w' hb=>⟨by rw[if_pos hz,hz],hb⟩
  rw[hz] at HC;clear hz h1 hf1 hL;go_enter Tryz.func54,Tryz.ntmps54;go_wp2_with fail;refine HC.out.mono ?_;rintro e w1 ⟨rfl,hb1⟩;go_wp2_with fail;refine (HA.out _ (HL.out.below hb1) (H1.out.below hb1)).mono ?_;rintro e w2 ⟨A2,l2,c2,rfl,hag,hb2⟩;have hB2:=bstep hb1 hb2;have hib:=Lib.fresh_isBuilder 69 5 w2;have hwr:=write_all es A1 A2 es.length c1 l2 c2 w2.heap.size w2 _ (HL.out.below hB2) (H1.out.below hB2) HF.out hag HZ.out rfl ((Below.refl _ _).alloc (Nat.le_refl _) (.cells #[.pointer none,.slice none 0 0] 69)) (by rw[World.size_alloc];omega) hib ((es.length:Int)-1) rfl;have HWR:=zH hwr;have HB2:=zH hB2;clear hag hib hwr hb1 hb2 hB2;go_wp2_with fail;refine HWR.out.mono ?_;rintro e w3 ⟨rfl,hx,hb3⟩;have hs3:w2.heap.size≤w3.heap.size:=by have:=hb3.size;rw[World.size_alloc] at this;omega
  have HST:=zH (Tryz.Builder_String_any w2.heap.size w2.heap.size (textE es) w3 (.inr hx) hs3);have HB3:Hid (Below w.heap.size w w3):=HB2.out.trans (((zB _ _).trans hb3).mono HB2.out.size);clear hx hb3 HWR;go_wp2_with fail;refine HST.out.mono ?_;rintro e w4 ⟨rfl,hb4⟩;go_wp2;go_ret2;exact HRT.out _ (HB3.out.trans (hb4.mono HB2.out.size))
 ·obtain⟨zz,hzz⟩:=zF (checkE es);have HRT:Hid (∀w',Below w.heap.size w w'→RetText es w (.returned (.tuple #[.string ⟨#[]⟩,.int .i64 zz])) w'):=fun w' hb=>⟨by rw[if_neg hz,hzz],hb⟩
  rw[hzz] at hz HC;have e1:(zz !=0)=true:=by simp[hz]
  clear hz h1 hf1 hzz hL;go_enter Tryz.func54,Tryz.ntmps54;go_wp2_with fail;refine HC.out.mono ?_;rintro e w1 ⟨rfl,hb1⟩;go_wp2;go_ret2;exact HRT.out _ hb1
theorem ext_span (cs s:List UInt8):(⟨s.toArray⟩:ByteArray).extract 0 ((⟨s.toArray⟩:ByteArray).size-(restS ⟨s.toArray⟩ ⟨cs.toArray⟩).size)=⟨(spanW cs s).toArray⟩:=by
 have h:restS ⟨s.toArray⟩ ⟨cs.toArray⟩=⟨(spanR cs s).toArray⟩:=rfl;rw[h,Lib.extract_eq];congr 2;show (s.drop 0).take (s.toArray.size-(spanR cs s).toArray.size-0)=spanW cs s;rw[List.drop_zero,Nat.sub_zero,List.size_toArray,List.size_toArray];have h2:=span_eq cs s;have h3:=congrArg List.length h2;rw[List.length_append] at h3;rw[show s.length-(spanR cs s).length=(spanW cs s).length from by omega]
 conv=>lhs;arg 2;rw[←h2]
 rw[List.take_left]
theorem spanL_at (s cs:List UInt8) (R:Nat) (t:TypeId) (l:List Value) (w:World) (hR:Blk w R t (.string ⟨s.toArray⟩::l)) (h63:s.length≤1048576)
  (hcs:cs.length<4294967281) (ha:cs.all (fun b=>decide (b.toNat<128))=true):
  Calls Tryz.prog 161 #[.pointer (some ⟨R,0,none⟩),.string ⟨cs.toArray⟩] w fun e w'=>e=.returned (.string ⟨(spanW cs s).toArray⟩)∧Blk w' R t (.string ⟨(spanR cs s).toArray⟩::l)∧Onl R w w':=by
 have h:=span_at ⟨s.toArray⟩ ⟨cs.toArray⟩ R t l w hR (by show s.length≤_;omega) hcs (ascii_of_all ha);rw[ext_span] at h;exact h
theorem num_yes (s:List UInt8) (R:Nat) (t:TypeId) (l:List Value) (w:World) (hR:Blk w R t (.string ⟨s.toArray⟩::l)) (hU:Under R w) (hs:s.length≤1048576) (a:Ra) (r:List UInt8) (h:numA s=some (a,r)):
  Calls Tryz.prog 166 #[.pointer (some ⟨R,0,none⟩)] w fun e w'=>e=.returned a.v∧Blk w' R t (.string ⟨r.toArray⟩::l)∧Onl R w w':=by
 unfold numA at h;split at h
 ·next hp=>
  have h1:=number_at ⟨s.toArray⟩ R t l w hR hU hs ⟨(spanW numL s).toArray⟩ (ext_span numL s);injection h with h;injection h with h2 h3;subst h3;refine h1.mono (fun e w' h=>?_);rw[if_pos hp,h2] at h;exact h
 ·cases h
theorem num_no (s:List UInt8) (R:Nat) (t:TypeId) (l:List Value) (w:World) (hR:Blk w R t (.string ⟨s.toArray⟩::l)) (hU:Under R w) (hs:s.length≤1048576) (h:numA s=none):
  Calls Tryz.prog 166 #[.pointer (some ⟨R,0,none⟩)] w fun e w'=>e=.panicked noText∧Onl R w w':=by
 unfold numA at h;split at h
 ·cases h
 ·next hp=>
  have h1:=number_at ⟨s.toArray⟩ R t l w hR hU hs ⟨(spanW numL s).toArray⟩ (ext_span numL s);refine h1.mono (fun e w' h=>?_);rw[if_neg hp] at h;exact⟨h.1,h.2.2⟩
theorem wantL_yes (s p:List UInt8) (R:Nat) (t:TypeId) (l:List Value) (w:World) (hR:Blk w R t (.string ⟨s.toArray⟩::l)) (h:Lib.hasPrefix s p=true):
  Calls Tryz.prog 163 #[.pointer (some ⟨R,0,none⟩),.string ⟨p.toArray⟩] w fun e w'=>e=.returned (.tuple #[])∧Blk w' R t (.string ⟨(s.drop p.length).toArray⟩::l)∧Onl R w w':=by
 have h1:=want_yes ⟨s.toArray⟩ ⟨p.toArray⟩ R t l w hR h;have h2:Lib.trimPrefix s p=s.drop p.length:=by unfold Lib.trimPrefix;rw[if_pos h]
 refine h1.mono ?_;rintro e w' ⟨rfl,rfl⟩;refine⟨rfl,?_,(Onl.refl R w).set 0 _⟩;have h3:=hR.set 0 (.string ⟨(Lib.trimPrefix s p).toArray⟩);rw[h2] at h3;show Blk (w.setCell _ (.string ⟨(Lib.trimPrefix s p).toArray⟩)) _ _ _;rw[h2];exact h3
theorem numA_len {s:List UInt8} {a:Ra} {r:List UInt8} (h:numA s=some (a,r)):r.length≤s.length:=by
 unfold numA at h;split at h
 ·injection h with h;injection h with h1 h2;subst h2;exact (List.dropWhile_sublist _).length_le
 ·cases h
theorem trim_one (c:UInt8) (cs:List UInt8):Lib.trimS [c] cs=if cs.contains c then [] else [c]:=by
 unfold Lib.trimS Lib.trimLeftS Lib.trimRightS;cases h:cs.contains c
 ·simp at h;simp[h]
 ·simp at h;simp[h]
def LitPost (r:Option (Option (Nd × List UInt8))) (s:List UInt8) (R:Nat) (t:TypeId) (l:List Value) (w:World) (e:Ending) (w':World):Prop:=
 (match r with
 |none=>e=.panicked noText
 |some none=>e=.returned (.tuple #[(nd 0 zR []).v,.bool false])∧Blk w' R t (.string ⟨s.toArray⟩::l)
 |some (some q)=>e=.returned (.tuple #[q.1.v,.bool true])∧Blk w' R t (.string ⟨q.2.toArray⟩::l))∧Onl R w w'
theorem cutp_at (s p:List UInt8) (w:World):Calls Tryz.prog 157 #[.string ⟨s.toArray⟩,.string ⟨p.toArray⟩] w fun e w'=>e=.returned (.tuple #[.string ⟨(Lib.trimPrefix s p).toArray⟩,.bool (Lib.hasPrefix s p)])∧w'=w:=Tryz.strings_CutPrefix ⟨s.toArray⟩ ⟨p.toArray⟩ w
theorem trim_at (s cs:List UInt8) (w:World) (hs:s.length≤1048576) (hcs:cs.length<4294967281) (ha:cs.all (fun b=>decide (b.toNat<128))=true):
  Calls Tryz.prog 149 #[.string ⟨s.toArray⟩,.string ⟨cs.toArray⟩] w fun e w'=>e=.returned (.string ⟨(Lib.trimS s cs).toArray⟩)∧Below w.heap.size w w':=
 Any.strings_Trim_laid Tryz.lays160 (by kernel_rfl) ⟨s.toArray⟩ ⟨cs.toArray⟩ w (by show s.length≤_;omega) hcs (ascii_of_all ha)
theorem lit_cash (s:List UInt8) (R:Nat) (t:TypeId) (l:List Value) (w:World) (hR:Blk w R t (.string ⟨s.toArray⟩::l)) (hU:Under R w) (hs:s.length≤1048576) (h:Lib.hasPrefix s [36]=true):
  Calls Tryz.prog 160 #[.pointer (some ⟨R,0,none⟩)] w (LitPost ((numA (s.drop 1)).map fun q=>some (nd 1 q.1 [],q.2)) s R t l w):=by
 have HCP:=zH (fun W=>cutp_at s [36] W);have htp:Lib.trimPrefix s [36]=s.drop 1:=by unfold Lib.trimPrefix;rw[if_pos h];rfl
 rw[htp,h] at HCP;obtain⟨s1,hs1⟩:=zF (s.drop 1);have hs1l:s1.length≤1048576:=by rw[←hs1,List.length_drop];omega
 rw[hs1] at HCP⊢;clear htp hs1 h;obtain⟨W,hW⟩:=zE (w.alloc (.cells #[.int .i64 0,.bool false,.string ⟨#[]⟩,.string ⟨#[]⟩,.string ⟨#[]⟩] 87));have hba:Below w.heap.size w W:=by rw[hW];exact zB _ _
 have hk0:Blk W w.heap.size 87 [.int .i64 0,.bool false,.string ⟨#[]⟩,.string ⟨#[]⟩,.string ⟨#[]⟩]:=by rw[hW];exact Blk.new w _ _
 have hsz:W.heap.size=w.heap.size+1:=by rw[hW];exact Array.size_push _
 obtain⟨B,hB⟩:=zE w.heap.size;have HB:=zH hB;rw[←hB] at hba hsz hk0;have hRB:R<B:=by rw[HB.out];exact hR.lt
 have hRW:=hR.below hba hRB;have HUW:Hid (Under R W):=hU.onl (Onl.of_below (by rw[←HB.out];exact hba));have HOW:Hid (Onl R w W):=Onl.of_below (by rw[←HB.out];exact hba);have HRW:=zH hRW;have HK0:=zH hk0;have hc:=hRW.cells;have hf:=hRW.froz;rw[hW] at hc hf;clear hR hU hba hRW hk0;cases hn:numA s1 with
 |none=>
  have HP:Hid (∀w',Onl R w w'→LitPost ((none:Option (Ra × List UInt8)).map fun q=>some (nd 1 q.1 [],q.2)) s R t l w (.panicked noText) w'):=fun w' h=>⟨rfl,h⟩
  have HN:=zH (fun W h1 h2=>num_no s1 R t l W h1 h2 hs1l hn);go_enter Tryz.func160,Tryz.ntmps160;go_wp2_with fail;simp only[←hW,←hB]
  clear hW hB;clear hc hf;have hc:=HRW.out.cells;have hf:=HRW.out.froz;refine (HCP.out _).mono ?_;rintro e w1 ⟨rfl,rfl⟩;go_wp2_with fail;refine (HN.out _ (HRW.out.set 0 _) (HUW.out.onl ((Onl.refl R _).set 0 _))).mono ?_;rintro e w2 ⟨rfl,ho2⟩;have HO2:Hid (Onl R w w2):=(HOW.out.trans ((Onl.refl R _).set 0 _)).trans ho2;clear ho2 hc hf;go_wp2;exact⟨rfl,HP.out _ HO2.out⟩
 |some ar=>
  obtain⟨a,r⟩:=ar;have HP:Hid (∀w',Onl R w w'→Blk w' R t (.string ⟨r.toArray⟩::l)→LitPost ((some (a,r)).map fun q=>some (nd 1 q.1 [],q.2)) s R t l w (.returned (.tuple #[(nd 1 a []).v,.bool true])) w'):=fun w' h h2=>⟨⟨rfl,h2⟩,h⟩
  have HN:=zH (fun W h1 h2=>num_yes s1 R t l W h1 h2 hs1l a r hn);obtain⟨neg,num,den⟩:=a;unfold Ra.v at HN;simp only at HN;clear hn;go_enter Tryz.func160,Tryz.ntmps160;go_wp2_with fail;simp only[←hW,←hB]
  clear hW hB;clear hc hf;have hc:=HRW.out.cells;have hf:=HRW.out.froz;refine (HCP.out _).mono ?_;rintro e w1 ⟨rfl,rfl⟩;go_wp2_with fail;refine (HN.out _ (HRW.out.set 0 _) (HUW.out.onl ((Onl.refl R _).set 0 _))).mono ?_;rintro e w2 ⟨rfl,hk2,ho2⟩;have hk0:=ho2.blk (HK0.out.other (p:=⟨R,0,none⟩) (by show B≠R;omega) (.string ⟨s1.toArray⟩)) (by omega);have HO2:Hid (Onl R w w2):=(HOW.out.trans ((Onl.refl R _).set 0 _)).trans ho2;have HK2:=zH hk2;clear hc hf;have hc:=hk0.cells;have hf:=hk0.froz;clear hk2 ho2 hk0 HK0;go_wp2;refine bodyPost_ret (v:=.tuple #[(nd 1 ⟨neg,num,den⟩ []).v,.bool true]) (by simp[results,Tryz.results160,go_sem,hc,nd,Nd.v]) rfl (HP.out _ ?_ ?_)
  ·have h:=HB.out;exact ((((HO2.out.fresh (by omega) 0 _).fresh (by omega) 1 _).fresh (by omega) 2 _).fresh (by omega) 3 _).fresh (by omega) 4 _
  ·exact ((((HK2.out.other (p:=⟨B,0,none⟩) (by show R≠B;omega) _).other (p:=⟨B,1,none⟩) (by show R≠B;omega) _).other (p:=⟨B,2,none⟩) (by show R≠B;omega) _).other (p:=⟨B,3,none⟩) (by show R≠B;omega) _).other (p:=⟨B,4,none⟩) (by show R≠B;omega) _
theorem lit_miss (s:List UInt8) (R:Nat) (t:TypeId) (l:List Value) (w:World) (hR:Blk w R t (.string ⟨s.toArray⟩::l)) (hU:Under R w) (hs:s.length≤1048576) (h:Lib.hasPrefix s [36]=false) (h2:s.isEmpty|| !(litL.contains (s.headD 0))=true):
  Calls Tryz.prog 160 #[.pointer (some ⟨R,0,none⟩)] w (LitPost (some none) s R t l w):=by
 have HCP:=zH (fun W=>cutp_at s [36] W);have htp:Lib.trimPrefix s [36]=s:=by unfold Lib.trimPrefix;rw[if_neg (by rw[h];simp)]
 rw[htp,h] at HCP;have HP:Hid (∀w',Onl R w w'→Blk w' R t (.string ⟨s.toArray⟩::l)→LitPost (some none) s R t l w (.returned (.tuple #[(nd 0 zR []).v,.bool false])) w'):=fun w' h h2=>⟨⟨rfl,h2⟩,h⟩
 clear htp h;obtain⟨W,hW⟩:=zE (w.alloc (.cells #[.int .i64 0,.bool false,.string ⟨#[]⟩,.string ⟨#[]⟩,.string ⟨#[]⟩] 87));have hba:Below w.heap.size w W:=by rw[hW];exact zB _ _
 have hk0:Blk W w.heap.size 87 [.int .i64 0,.bool false,.string ⟨#[]⟩,.string ⟨#[]⟩,.string ⟨#[]⟩]:=by rw[hW];exact Blk.new w _ _
 have hsz:W.heap.size=w.heap.size+1:=by rw[hW];exact Array.size_push _
 obtain⟨B,hB⟩:=zE w.heap.size;have HB:=zH hB;rw[←hB] at hba hsz hk0;have hRB:R<B:=by rw[HB.out];exact hR.lt
 have hRW:=hR.below hba hRB;have HUW:Hid (Under R W):=hU.onl (Onl.of_below (by rw[←HB.out];exact hba));have HOW:Hid (Onl R w W):=Onl.of_below (by rw[←HB.out];exact hba);have HRW:=zH hRW;have HK0:=zH hk0;have hc:=hRW.cells;have hf:=hRW.froz;rw[hW] at hc hf;clear hR hU hba hRW hk0;cases s with
 |nil=>
  go_enter Tryz.func160,Tryz.ntmps160;go_wp2_with fail;simp only[←hW,←hB]
  clear hW hB;clear hc hf;have hc:=HRW.out.cells;have hf:=HRW.out.froz;refine (HCP.out _).mono ?_;rintro e w1 ⟨rfl,rfl⟩;have hc2:=HK0.out.cells;have hf2:=HK0.out.froz;go_wp2;refine bodyPost_ret (v:=.tuple #[(nd 0 zR []).v,.bool false]) (by simp[results,Tryz.results160,go_sem,hc2,nd,Nd.v,zR]) rfl (HP.out _ ?_ ?_)
  ·have h:=HB.out;exact ((((HOW.out.fresh (by omega) 0 _).fresh (by omega) 1 _).fresh (by omega) 2 _).fresh (by omega) 3 _).fresh (by omega) 4 _
  ·exact ((((HRW.out.other (p:=⟨B,0,none⟩) (by show R≠B;omega) _).other (p:=⟨B,1,none⟩) (by show R≠B;omega) _).other (p:=⟨B,2,none⟩) (by show R≠B;omega) _).other (p:=⟨B,3,none⟩) (by show R≠B;omega) _).other (p:=⟨B,4,none⟩) (by show R≠B;omega) _
 |cons c m=>
  have hlc:litL.contains c=false:=by simpa using h2
  have HT:=zH (fun W=>trim_at [c] litL W (by simp) (by decide) (by decide));rw[trim_one,hlc,if_neg (by simp)] at HT;have hx:(⟨(c::m).toArray⟩:ByteArray).extract 0 1=⟨[c].toArray⟩:=by rw[Lib.extract_eq];rfl
  rw[←hx] at HT;have hs1:1≤(⟨(c::m).toArray⟩:ByteArray).size:=by show 1≤(c::m).length;simp
  have e0:((⟨(c::m).toArray⟩:ByteArray).toList==[])=false:=by rw[ByteArray.toList_eq];rfl
  have e1:(⟨(c::m).toArray⟩:ByteArray).toList.isEmpty=false:=by rw[ByteArray.toList_eq];rfl
  have e2:(((⟨(c::m).toArray⟩:ByteArray).extract 0 1).toList !=[])=true:=by rw[hx,ByteArray.toList_eq];rfl
  have e3:((⟨(c::m).toArray⟩:ByteArray).extract 0 1).toList.isEmpty=false:=by rw[hx,ByteArray.toList_eq];rfl
  clear hx h2 hs;generalize (⟨(c::m).toArray⟩:ByteArray)=S at*;unfold litL at HT;go_enter Tryz.func160,Tryz.ntmps160;go_wp2_with fail;simp only[←hW,←hB]
  clear hW hB;clear hc hf;have hc:=HRW.out.cells;have hf:=HRW.out.froz;refine (HCP.out _).mono ?_;rintro e w1 ⟨rfl,rfl⟩;go_wp2_with fail;refine (HT.out _).mono ?_;rintro e w2 ⟨rfl,hb2⟩;have HK2:=zH (HK0.out.below hb2 HK0.out.lt);have HR2:=zH (HRW.out.below hb2 HRW.out.lt);have HO2:Hid (Onl R w w2):=HOW.out.trans (Onl.of_below hb2);clear hc hf hb2;have hc2:=HK2.out.cells;have hf2:=HK2.out.froz;go_wp2;refine bodyPost_ret (v:=.tuple #[(nd 0 zR []).v,.bool false]) (by simp[results,Tryz.results160,go_sem,hc2,nd,Nd.v,zR]) rfl (HP.out _ ?_ ?_)
  ·have h:=HB.out;exact ((((HO2.out.fresh (by omega) 0 _).fresh (by omega) 1 _).fresh (by omega) 2 _).fresh (by omega) 3 _).fresh (by omega) 4 _
  ·exact ((((HR2.out.other (p:=⟨B,0,none⟩) (by show R≠B;omega) _).other (p:=⟨B,1,none⟩) (by show R≠B;omega) _).other (p:=⟨B,2,none⟩) (by show R≠B;omega) _).other (p:=⟨B,3,none⟩) (by show R≠B;omega) _).other (p:=⟨B,4,none⟩) (by show R≠B;omega) _
theorem lit_num (c:UInt8) (m:List UInt8) (R:Nat) (t:TypeId) (l:List Value) (w:World) (hR:Blk w R t (.string ⟨(c::m).toArray⟩::l)) (hU:Under R w) (hs:(c::m).length≤1048576) (h:Lib.hasPrefix (c::m) [36]=false) (hlc:litL.contains c=true):
  Calls Tryz.prog 160 #[.pointer (some ⟨R,0,none⟩)] w (LitPost ((numA (c::m)).map fun q=>if Lib.hasPrefix q.2 [100] then some (nd 2 q.1 [],q.2.drop 1) else some (nd 3 q.1 [],q.2)) (c::m) R t l w):=by
 have HCP:=zH (fun W=>cutp_at (c::m) [36] W);have htp:Lib.trimPrefix (c::m) [36]=c::m:=by unfold Lib.trimPrefix;rw[if_neg (by rw[h];simp)]
 rw[htp,h] at HCP;clear htp h;obtain⟨W,hW⟩:=zE (w.alloc (.cells #[.int .i64 0,.bool false,.string ⟨#[]⟩,.string ⟨#[]⟩,.string ⟨#[]⟩] 87));have hba:Below w.heap.size w W:=by rw[hW];exact zB _ _
 have hk0:Blk W w.heap.size 87 [.int .i64 0,.bool false,.string ⟨#[]⟩,.string ⟨#[]⟩,.string ⟨#[]⟩]:=by rw[hW];exact Blk.new w _ _
 have hsz:W.heap.size=w.heap.size+1:=by rw[hW];exact Array.size_push _
 obtain⟨B,hB⟩:=zE w.heap.size;have HB:=zH hB;rw[←hB] at hba hsz hk0;have hRB:R<B:=by rw[HB.out];exact hR.lt
 have hRW:=hR.below hba hRB;have HUW:Hid (Under R W):=hU.onl (Onl.of_below (by rw[←HB.out];exact hba));have HOW:Hid (Onl R w W):=Onl.of_below (by rw[←HB.out];exact hba);have HRW:=zH hRW;have HK0:=zH hk0;have hc:=hRW.cells;have hf:=hRW.froz;rw[hW] at hc hf;clear hR hU hba hRW hk0;have HT:=zH (fun W=>trim_at [c] litL W (by simp) (by decide) (by decide));rw[trim_one,hlc,if_pos rfl] at HT;have hx:(⟨(c::m).toArray⟩:ByteArray).extract 0 1=⟨[c].toArray⟩:=by rw[Lib.extract_eq];rfl
 rw[←hx] at HT;have hs1:1≤(⟨(c::m).toArray⟩:ByteArray).size:=by show 1≤(c::m).length;simp
 have e0:((⟨(c::m).toArray⟩:ByteArray).toList==[])=false:=by rw[ByteArray.toList_eq];rfl
 have e1:(⟨(c::m).toArray⟩:ByteArray).toList.isEmpty=false:=by rw[ByteArray.toList_eq];rfl
 clear hx hlc;unfold litL at HT;cases hn:numA (c::m) with
 |none=>
  have HP:Hid (∀w',Onl R w w'→LitPost ((none:Option (Ra × List UInt8)).map fun q=>if Lib.hasPrefix q.2 [100] then some (nd 2 q.1 [],q.2.drop 1) else some (nd 3 q.1 [],q.2)) (c::m) R t l w (.panicked noText) w'):=fun w' h=>⟨rfl,h⟩
  have HN:=zH (fun W h1 h2=>num_no (c::m) R t l W h1 h2 hs hn);clear hn hs;generalize (⟨(c::m).toArray⟩:ByteArray)=S at*;go_enter Tryz.func160,Tryz.ntmps160;go_wp2_with fail;simp only[←hW,←hB]
  clear hW hB;clear hc hf;have hc:=HRW.out.cells;have hf:=HRW.out.froz;refine (HCP.out _).mono ?_;rintro e w1 ⟨rfl,rfl⟩;go_wp2_with fail;refine (HT.out _).mono ?_;rintro e w2 ⟨rfl,hb2⟩;have HR2:=zH (HRW.out.below hb2 HRW.out.lt);have HU2:Hid (Under R w2):=HUW.out.onl (Onl.of_below hb2);have HO2:Hid (Onl R w w2):=HOW.out.trans (Onl.of_below hb2);clear hc hf hb2;go_wp2_with fail;refine (HN.out _ HR2.out HU2.out).mono ?_;rintro e w3 ⟨rfl,ho3⟩;have HO3:=zH (HO2.out.trans ho3);clear ho3;go_wp2;exact⟨rfl,HP.out _ HO3.out⟩
 |some ar=>
  obtain⟨a,r⟩:=ar;have hrl:=numA_len hn;have hrl2:r.length≤1048576:=by omega
  have HN:=zH (fun W h1 h2=>num_yes (c::m) R t l W h1 h2 hs a r hn);have HC2:=zH (fun W=>cutp_at r [100] W);cases hd:Lib.hasPrefix r [100]
  ·have HP:Hid (∀w',Onl R w w'→Blk w' R t (.string ⟨r.toArray⟩::l)→LitPost ((some (a,r)).map fun q=>if Lib.hasPrefix q.2 [100] then some (nd 2 q.1 [],q.2.drop 1) else some (nd 3 q.1 [],q.2)) (c::m) R t l w (.returned (.tuple #[(nd 3 a []).v,.bool true])) w'):=fun w' h h2=>by
    simp only[Option.map_some,hd,if_neg Bool.false_ne_true]
    exact⟨⟨rfl,h2⟩,h⟩
   have htp:Lib.trimPrefix r [100]=r:=by unfold Lib.trimPrefix;rw[if_neg (by rw[hd];simp)]
   rw[htp,hd] at HC2;obtain⟨neg,num,den⟩:=a;unfold Ra.v at HN;simp only at HN;clear hn hs hd htp hrl hrl2;generalize (⟨(c::m).toArray⟩:ByteArray)=S at*;generalize (⟨r.toArray⟩:ByteArray)=S2 at*;go_enter Tryz.func160,Tryz.ntmps160;go_wp2_with fail;simp only[←hW,←hB]
   clear hW hB;clear hc hf;have hc:=HRW.out.cells;have hf:=HRW.out.froz;refine (HCP.out _).mono ?_;rintro e w1 ⟨rfl,rfl⟩;go_wp2_with fail;refine (HT.out _).mono ?_;rintro e w2 ⟨rfl,hb2⟩;have HR2:=zH (HRW.out.below hb2 HRW.out.lt);have HK2:=zH (HK0.out.below hb2 HK0.out.lt);have HU2:Hid (Under R w2):=HUW.out.onl (Onl.of_below hb2);have HO2:Hid (Onl R w w2):=HOW.out.trans (Onl.of_below hb2);clear hc hf hb2;go_wp2_with fail;refine (HN.out _ HR2.out HU2.out).mono ?_;rintro e w3 ⟨rfl,hk3,ho3⟩;have hkB:=(ho3.blk HK2.out (by omega)).alloc (.cells #[.int .i64 3,.bool neg,.string num,.string den,.string ⟨#[]⟩] 87);have hk3':=hk3.alloc (.cells #[.int .i64 3,.bool neg,.string num,.string den,.string ⟨#[]⟩] 87);have HO3:Hid (Onl R w (w3.alloc (.cells #[.int .i64 3,.bool neg,.string num,.string den,.string ⟨#[]⟩] 87))):=(HO2.out.trans ho3).trans (Onl.of_below (zB _ _));have HKB:=zH hkB;have HK3:=zH hk3';have hc:=hk3'.cells;have hf:=hk3'.froz;have hc2:=hkB.cells;have hf2:=hkB.froz;clear hk3 ho3 hkB hk3';go_wp2_with fail;refine (HC2.out _).mono ?_;rintro e w4 ⟨rfl,rfl⟩;go_wp2;refine bodyPost_ret (v:=.tuple #[(nd 3 ⟨neg,num,den⟩ []).v,.bool true]) (by simp[results,Tryz.results160,go_sem,hc2,nd,Nd.v]) rfl (HP.out _ ?_ ?_)
   ·have h:=HB.out;exact ((((HO3.out.fresh (by omega) 0 _).fresh (by omega) 1 _).fresh (by omega) 2 _).fresh (by omega) 3 _).fresh (by omega) 4 _
   ·exact ((((HK3.out.other (p:=⟨B,0,none⟩) (by show R≠B;omega) _).other (p:=⟨B,1,none⟩) (by show R≠B;omega) _).other (p:=⟨B,2,none⟩) (by show R≠B;omega) _).other (p:=⟨B,3,none⟩) (by show R≠B;omega) _).other (p:=⟨B,4,none⟩) (by show R≠B;omega) _
  ·have HP:Hid (∀w',Onl R w w'→Blk w' R t (.string ⟨(r.drop 1).toArray⟩::l)→LitPost ((some (a,r)).map fun q=>if Lib.hasPrefix q.2 [100] then some (nd 2 q.1 [],q.2.drop 1) else some (nd 3 q.1 [],q.2)) (c::m) R t l w (.returned (.tuple #[(nd 2 a []).v,.bool true])) w'):=fun w' h h2=>by
    simp only[Option.map_some,hd,if_true]
    exact⟨⟨rfl,h2⟩,h⟩
   have htp:Lib.trimPrefix r [100]=r.drop 1:=by unfold Lib.trimPrefix;rw[if_pos hd];rfl
   rw[htp,hd] at HC2;obtain⟨neg,num,den⟩:=a;unfold Ra.v at HN;simp only at HN;clear hn hs hd htp hrl hrl2;generalize (⟨(c::m).toArray⟩:ByteArray)=S at*;generalize (⟨r.toArray⟩:ByteArray)=S2 at*;generalize (⟨(r.drop 1).toArray⟩:ByteArray)=S3 at*;go_enter Tryz.func160,Tryz.ntmps160;go_wp2_with fail;simp only[←hW,←hB]
   clear hW hB;clear hc hf;have hc:=HRW.out.cells;have hf:=HRW.out.froz;refine (HCP.out _).mono ?_;rintro e w1 ⟨rfl,rfl⟩;go_wp2_with fail;refine (HT.out _).mono ?_;rintro e w2 ⟨rfl,hb2⟩;have HR2:=zH (HRW.out.below hb2 HRW.out.lt);have HK2:=zH (HK0.out.below hb2 HK0.out.lt);have HU2:Hid (Under R w2):=HUW.out.onl (Onl.of_below hb2);have HO2:Hid (Onl R w w2):=HOW.out.trans (Onl.of_below hb2);clear hc hf hb2;go_wp2_with fail;refine (HN.out _ HR2.out HU2.out).mono ?_;rintro e w3 ⟨rfl,hk3,ho3⟩;have hk3b:=ho3.blk HK2.out (by omega);have hkB:=hk3b.alloc (.cells #[.int .i64 3,.bool neg,.string num,.string den,.string ⟨#[]⟩] 87);have hk3':=hk3.alloc (.cells #[.int .i64 3,.bool neg,.string num,.string den,.string ⟨#[]⟩] 87);have hk6:=Blk.new w3 87 #[.int .i64 3,.bool neg,.string num,.string den,.string ⟨#[]⟩];have HO3:Hid (Onl R w (w3.alloc (.cells #[.int .i64 3,.bool neg,.string num,.string den,.string ⟨#[]⟩] 87))):=(HO2.out.trans ho3).trans (Onl.of_below (zB _ _));have hR6:R<w3.heap.size:=hk3.lt;have hB6:B<w3.heap.size:=hk3b.lt;have HLT:Hid (R<w3.heap.size∧B<w3.heap.size∧w.heap.size≤w3.heap.size):=⟨hR6,hB6,by have:=hB6;have:=HB.out;omega⟩
   have HKB:=zH hkB;have HK3:=zH hk3';have HK6:=zH hk6;have hc:=hk3'.cells;have hf:=hk3'.froz;clear hk3 ho3 hkB hk3' hk6 hk3b hR6 hB6;go_wp2_with fail;refine (HC2.out _).mono ?_;rintro e w4 ⟨rfl,rfl⟩;generalize hN:w3.heap.size=N6 at*;have hRN:R<N6:=HLT.out.1;have hBN:B<N6:=HLT.out.2.1;have hq1:¬R=N6:=by omega
   have hq2:¬N6=R:=by omega
   have hq3:¬B=N6:=by omega
   have hq4:¬N6=B:=by omega
   have hq5:¬R=B:=by omega
   have hq6:¬B=R:=by omega
   generalize w3.alloc (.cells #[.int .i64 3,.bool neg,.string num,.string den,.string ⟨#[]⟩] 87)=W4 at*;clear hN;have hc2:=HKB.out.cells;have hf2:=HKB.out.froz;have hc6:=HK6.out.cells;have hf6:=HK6.out.froz;go_wp2;refine bodyPost_ret (v:=.tuple #[(nd 2 ⟨neg,num,den⟩ []).v,.bool true]) (by simp[results,Tryz.results160,go_sem,hc2,hc6,hq1,hq2,hq3,hq4,nd,Nd.v]) rfl (HP.out _ ?_ ?_)
   ·have h:=HB.out;have h2:=HLT.out.2.2;exact ((((((HO3.out.set 0 _).fresh (by omega) 0 _).fresh (by omega) 0 _).fresh (by omega) 1 _).fresh (by omega) 2 _).fresh (by omega) 3 _).fresh (by omega) 4 _
   ·exact (((((((HK3.out.set 0 (.string S3))).other (p:=⟨N6,0,none⟩) (by show R≠N6;omega) _).other (p:=⟨B,0,none⟩) (by show R≠B;omega) _).other (p:=⟨B,1,none⟩) (by show R≠B;omega) _).other (p:=⟨B,2,none⟩) (by show R≠B;omega) _).other (p:=⟨B,3,none⟩) (by show R≠B;omega) _).other (p:=⟨B,4,none⟩) (by show R≠B;omega) _
end Go.Proofs.YtmmbjngbeiokeaaGreatDoor
