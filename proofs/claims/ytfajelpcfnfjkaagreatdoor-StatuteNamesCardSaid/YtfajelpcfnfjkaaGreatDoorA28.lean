/- A part of the proof: Ek El. -/
import Derived.Test.YtfajelpcfnfjkaaGreatDoorA27
set_option linter.unusedVariables false
set_option linter.unusedSimpArgs false
namespace Go.Proofs.YtfajelpcfnfjkaaGreatDoor
open Go.RowKit
theorem bld_below {T e:TypeId} {B b:Nat} {p:Value} {bs:List Value} {w w':World} (h:Lib.BuilderAt T e B b p bs w) (hb:Below w.heap.size w w'):Lib.BuilderAt T e B b p bs w':=by
 obtain⟨h1,v,h2,h3,h4⟩:=h;exact⟨h1,v,(hb.block b (lt_of_some h2)).trans h2,own_below h3 hb,h4⟩
theorem isb_below {T e:TypeId} {B b:Nat} {bs:List Value} {w w':World} (h:Lib.IsBuilder T e B b bs w) (hb:Below w.heap.size w w'):Lib.IsBuilder T e B b bs w':=h.imp (fun h=>bld_below h hb) (fun h=>bld_below h hb)
theorem isb_lt {T e:TypeId} {B b:Nat} {bs:List Value} {w:World} (h:Lib.IsBuilder T e B b bs w):b<w.heap.size:=by
 rcases h with h|h<;>exact h.lt
theorem yesno_map (W:World) (r:Nat) (hr:r=W.heap.size):∃W2 W3:World,
  (Instr.mapUpdate 188 (.map (some r)) (.bool true) (.string ⟨#[121,101,115]⟩)).run Tryz.prog (W.alloc (.map #[] 0))=.ok () W2∧
  (Instr.mapUpdate 188 (.map (some r)) (.bool false) (.string ⟨#[110,111]⟩)).run Tryz.prog W2=.ok () W3∧
  (Instr.lookup 188 (.map (some r)) (.bool true) false).run Tryz.prog W3=.ok (.string ⟨#[121,101,115]⟩) W3∧
  (Instr.lookup 188 (.map (some r)) (.bool false) false).run Tryz.prog W3=.ok (.string ⟨#[110,111]⟩) W3∧Below W.heap.size W W3:=by
 subst hr;have hm:=Tryz.underlying188;have hk:=Tryz.underlying4;have hc:∀(x b:Bool) (w:World),(Instr.checkKey b 10000 4 (.bool x)).run Tryz.prog w=.ok () w:=fun x b w=>MapKept.run_checkKey (k:=.bool x) hk (by simp[MapKept.IsKey]) b 9999
 obtain⟨W1,hW1⟩:∃W1,W1=W.alloc (.map #[] 0):=⟨_,rfl⟩
 have hb1:W1.heap[W.heap.size]?=some (.map #[] 0):=by rw[hW1];unfold World.alloc;simp
 have h1:(Instr.mapUpdate 188 (.map (some W.heap.size)) (.bool true) (.string ⟨#[121,101,115]⟩)).run Tryz.prog W1=.ok () {W1 with heap:=W1.heap.setIfInBounds W.heap.size (.map #[{key:=.bool true,val:=.string ⟨#[121,101,115]⟩,born:=0}] 1)}:=by
  have hf:Instr.findNow .bool (.bool true) ([]:List MapEntry) 0=some none:=rfl;simp[Instr.mapUpdate,run_underlying hm,MapKept.run_getObj_map hb1,hc,MapKept.run_findKey hk hf,MapKept.run_setObj_map _ hb1,Result.andThen]
 obtain⟨W2,hW2⟩:∃W2,W2=({W1 with heap:=W1.heap.setIfInBounds W.heap.size (.map #[{key:=.bool true,val:=.string ⟨#[121,101,115]⟩,born:=0}] 1)}:World):=⟨_,rfl⟩
 have hb2:W2.heap[W.heap.size]?=some (.map #[{key:=.bool true,val:=.string ⟨#[121,101,115]⟩,born:=0}] 1):=by rw[hW2];show (W1.heap.setIfInBounds _ _)[_]?=_;rw[Array.getElem?_setIfInBounds,if_pos rfl,if_pos (lt_of_some hb1)]
 rw[←hW2] at h1
 have h2:(Instr.mapUpdate 188 (.map (some W.heap.size)) (.bool false) (.string ⟨#[110,111]⟩)).run Tryz.prog W2=.ok () {W2 with heap:=W2.heap.setIfInBounds W.heap.size (.map #[{key:=.bool true,val:=.string ⟨#[121,101,115]⟩,born:=0},{key:=.bool false,val:=.string ⟨#[110,111]⟩,born:=1}] 2)}:=by
  have hf:Instr.findNow .bool (.bool false) ([{key:=.bool true,val:=.string ⟨#[121,101,115]⟩,born:=0}]:List MapEntry) 0=some none:=rfl;simp[Instr.mapUpdate,run_underlying hm,MapKept.run_getObj_map hb2,hc,MapKept.run_findKey hk hf,MapKept.run_setObj_map _ hb2,Result.andThen]
 obtain⟨W3,hW3⟩:∃W3,W3=({W2 with heap:=W2.heap.setIfInBounds W.heap.size (.map #[{key:=.bool true,val:=.string ⟨#[121,101,115]⟩,born:=0},{key:=.bool false,val:=.string ⟨#[110,111]⟩,born:=1}] 2)}:World):=⟨_,rfl⟩
 have hb3:W3.heap[W.heap.size]?=some (.map #[{key:=.bool true,val:=.string ⟨#[121,101,115]⟩,born:=0},{key:=.bool false,val:=.string ⟨#[110,111]⟩,born:=1}] 2):=by rw[hW3];show (W2.heap.setIfInBounds _ _)[_]?=_;rw[Array.getElem?_setIfInBounds,if_pos rfl,if_pos (lt_of_some hb2)]
 rw[←hW3] at h2;refine⟨W2,W3,by rw[←hW1];exact h1,h2,?_,?_,?_⟩
 ·have hf:Instr.findNow .bool (.bool true) ([{key:=.bool true,val:=.string ⟨#[121,101,115]⟩,born:=0},{key:=.bool false,val:=.string ⟨#[110,111]⟩,born:=1}]:List MapEntry) 0=some (some (0,.string ⟨#[121,101,115]⟩)):=rfl;simp[Instr.lookup,run_underlying hm,MapKept.run_getObj_map hb3,hc,MapKept.run_findKey hk hf,Result.andThen]
 ·have hf:Instr.findNow .bool (.bool false) ([{key:=.bool true,val:=.string ⟨#[121,101,115]⟩,born:=0},{key:=.bool false,val:=.string ⟨#[110,111]⟩,born:=1}]:List MapEntry) 0=some (some (1,.string ⟨#[110,111]⟩)):=rfl;simp[Instr.lookup,run_underlying hm,MapKept.run_getObj_map hb3,hc,MapKept.run_findKey hk hf,Result.andThen]
 ·have ha:Below W.heap.size W W1:=by rw[hW1];exact (Below.refl _ _).alloc (Nat.le_refl _) _
  refine⟨by rw[hW3,hW2];exact ha.os,by rw[hW3,hW2];exact ha.tape,by rw[hW3,hW2];exact ha.output,by rw[hW3,hW2];simpa using ha.size,fun k hk=>?_⟩;rw[hW3,hW2];simp only[Array.getElem?_setIfInBounds]
  rw[if_neg (by omega),if_neg (by omega)];exact ha.block k hk
def hdT (n:Nd):List UInt8:=
 (shp n.op).word++n.name.data.toList++(if (shp n.op).lit then (textR n.num).data.toList else [])++(if n.op=2 then [100] else [])++(if (shp n.op).stp then [91]++(textR n.num).data.toList++[93] else [])
theorem txt_sep {n:Nd} (h4:n.op≠4) {cs:List (List Nd)} (hl:cs.length=(shp n.op).ops):txt n (cs.map textE)=hdT n++(sepT 0 cs++(if (shp n.op).ops=0 then [] else [41])):=by
 unfold txt hdT;rw[if_neg h4];congr 1;split
 ·next h0=>
  have:cs=[]:=List.eq_nil_of_length_eq_zero (by omega);subst this;rfl
 ·next h0=>rw[sepT_zero cs (by intro h;rw[h] at hl;exact h0 hl.symm)]
theorem sepT_take (cs:List (List Nd)) (i:Nat) (h:i<cs.length):sepT 0 (cs.take (i+1))=sepT 0 (cs.take i)++(sepW i++textE (cs.getD i [])):=by
 rw[List.take_succ_eq_append_getElem h,sepT_snoc,List.length_take,Nat.min_eq_left (by omega),Nat.zero_add,List.getD_eq_getElem?_getD,List.getElem?_eq_getElem h];rfl
theorem sepT_len (k:Nat) (cs:List (List Nd)) (ha:∀a∈cs,Ex k a) (hf:∀n∈cs.flatten,Fine n) (j:Nat):(sepT j cs).length≤7000002*cs.flatten.length:=by
 induction cs generalizing j with
 |nil=>simp[sepT]
 |cons a cs ih=>
  have h1:=textE_len k a (ha a (by simp)) (fun n hn=>hf n (by simp[hn]));have h2:=ih (fun a h=>ha a (by simp[h])) (fun n hn=>hf n (by simp only[List.flatten_cons,List.mem_append];exact .inr hn)) (j+1);have h3:(sepW j).length≤2:=by unfold sepW;split<;>simp
  rw[sepT,List.flatten_cons];simp only[List.length_append]
  omega
theorem flat_take (cs:List (List Nd)) (i:Nat) (h:i<cs.length):(cs.take i).flatten.length+(cs.getD i []).length≤cs.flatten.length:=by
 have h1:cs=cs.take i++(cs.getD i []::cs.drop (i+1)):=by
  conv=>lhs;rw[←List.take_append_drop i cs,List.drop_eq_getElem_cons h]
  rw[List.getD_eq_getElem?_getD,List.getElem?_eq_getElem h];rfl
 conv=>rhs;rw[h1]
 simp only[List.flatten_append,List.flatten_cons,List.length_append];omega
set_option maxRecDepth 100000 in
set_option maxHeartbeats 6400000 in
theorem write_any (es:List Nd) (args:List (List Nat)) (A1 A2:Option Addr) (l1 c1 l2 c2 Bb b:Nat) (w0:World) (hL:LaidE w0) (h1:Es w0 es A1 l1 c1) (hf1:∀n∈es,Fine n) (h2:ArgsAt w0 args A2 l2 c2)
  (hB:w0.heap.size≤Bb) (h60:l1≤60) (hag:args.length=es.length)
  (k:Nat):∀(a:List Nd),Ex k a→∀(o:Nat),Sub es args o a→∀(bs:List Value) (w:World),Below w0.heap.size w0 w→Bb≤w.heap.size→Lib.IsBuilder 66 5 Bb b bs w→bs.length+7000002*a.length≤1000000000000→
    Calls Tryz.prog 83 #[.pointer (some ⟨b,0,none⟩),.slice A1 l1 c1,.slice A2 l2 c2,.int .i64 ((o+a.length-1:Nat):Int)] w fun e w'=>e=.returned (.tuple #[])∧
     (Lib.BuilderAt 66 5 Bb b (.pointer (some ⟨b,0,none⟩)) (bs++lc (textE a)) w'∧Below Bb w w'∧BF b w w'):=by
 have H1:=Lib.hid h1;have H2:=Lib.hid h2;have HL:=Lib.hid hL;have HF:=Lib.hid hf1;have hl1:=h1.len;have hl2:=h2.len;rw[hag] at hl2;clear h1 h2 hL hf1;subst hl1 hl2
 induction k with
 |zero=>intro a h;exact h.elim
 |succ k ih=>
  rintro a ⟨cs,n,rfl,hn,hl,ha⟩ o hsub bs w hbw hBw hib hlen;obtain⟨hr1,hr2⟩:=hsub.root hl ha;rw[List.length_append,List.length_singleton] at hlen⊢;obtain⟨p,hp⟩:∃p,o+cs.flatten.length=p:=⟨_,rfl⟩
  rw[show o+(cs.flatten.length+1)-1=p from by omega];rw[hp] at hr1 hr2;have hpe:p<es.length:=(List.getElem?_eq_some_iff.1 hr1).1;have hfn:Fine n:=HF.out n (List.mem_of_getElem? hr1)
  have hfc:∀m∈cs.flatten,Fine m:=fun m hm=>by
   obtain⟨i,hi,he⟩:=List.getElem_of_mem hm;have:=hsub.node i (by rw[List.length_append];omega);rw[List.getElem?_append_left hi,List.getElem?_eq_getElem hi,he] at this;exact HF.out m (List.mem_of_getElem? this)
  have HIH:Hid (∀i,i<cs.length→∀(bs':List Value) (w':World),Below w0.heap.size w0 w'→Bb≤w'.heap.size→Lib.IsBuilder 66 5 Bb b bs' w'→bs'.length+7000002*(cs.getD i []).length≤1000000000000→
    Calls Tryz.prog 83 #[.pointer (some ⟨b,0,none⟩),.slice A1 es.length c1,.slice A2 es.length c2,.int .i64 (((roots o cs).getD i 0:Nat):Int)] w' fun e w''=>e=.returned (.tuple #[])∧
     (Lib.BuilderAt 66 5 Bb b (.pointer (some ⟨b,0,none⟩)) (bs'++lc (textE (cs.getD i []))) w''∧Below Bb w' w''∧BF b w' w'')):=by
   intro i hi bs' w' hbw' hBw' hib' hlen';have e1:cs.getD i []=cs[i]:=by rw[List.getD_eq_getElem?_getD,List.getElem?_eq_getElem hi];rfl
   have hcs:cs=cs.take i++cs[i]::cs.drop (i+1):=by rw[←List.drop_eq_getElem_cons hi,List.take_append_drop]
   have hli:(cs.take i).length=i:=by rw[List.length_take];omega
   have e2:(roots o cs).getD i 0=o+(cs.take i).flatten.length+(cs[i]).length-1:=by
    have:=roots_get o (cs.take i) (cs.drop (i+1)) cs[i];rw[←hcs,hli] at this;rw[List.getD_eq_getElem?_getD,this];rfl
   rw[e1] at hlen'⊢;rw[e2];refine ih cs[i] (ha _ (List.getElem_mem hi)) (o+(cs.take i).flatten.length) ?_ bs' w' hbw' hBw' hib' hlen';refine Sub.child (k:=k) (cs:=cs.take i) (ds:=cs.drop (i+1)) (n:=n) ?_ ?_ ?_
   ·rw[←hcs];exact hsub
   ·rw[←hcs];exact hl
   ·rw[←hcs];exact ha
  clear ih;have hTX:Hid (textE (cs.flatten++[n])=txt n (cs.map textE)):=textE_node hl ha
  have hSL:∀i,(sepT 0 (cs.take i)).length≤7000002*(cs.take i).flatten.length:=fun i=>
   sepT_len k (cs.take i) (fun a h=>ha a (List.mem_of_mem_take h)) (fun m hm=>hfc m (by
    rw[←List.take_append_drop i cs,List.flatten_append];exact List.mem_append_left _ hm)) 0
  have HSL:=Lib.hid hSL;have HFT:=Lib.hid (fun i h=>flat_take cs i h);have HST:=Lib.hid (fun i h=>sepT_take cs i h);clear hsub hfc hSL;obtain⟨rows,hrd2,hll⟩:=H2.out.rows;obtain⟨v9,hv9,A9,c9,rfl,h91,h92,h93,_⟩:=hll.row p _ hr2;have HR9:=Lib.hid h93;have hpl2:p<args.length:=by rw[hag];exact hpe
  rw[roots_length] at hv9 h91;have hpr:p<rows.length:=(List.getElem?_eq_some_iff.1 hv9).1;obtain⟨b2,off2,rfl,hb2,hc2⟩:=hrd2.at_ hpr;have h9:=hc2 p hpr;rw[(List.getElem?_eq_some_iff.1 hv9).2] at h9;have H9:Hid (∀w',Below w0.heap.size w0 w'→w'.cell? ⟨b2,off2+p,none⟩=some (.slice A9 cs.length c9)):=fun w' hb=>(hb.cell hb2).trans h9
  clear hc2 h9 hv9 hll hrd2 hb2 hr2 h93;obtain⟨b1,off1,hA1,hb1,hnd⟩:=(H1.out.rd.below hbw).nd hpe;subst hA1;rw[(List.getElem?_eq_some_iff.1 hr1).2] at hnd;obtain⟨hc0,hc1,hc2,hc3,hc4⟩:=hnd;obtain⟨w1',w24,hnm0,hnumok,_⟩:=wrongN_parts hn;have hways:=shp_lit n.op;have hways2:=shp_stp n.op;have hops2:=shp_ops n.op;have hol:=shp_ops_le n.op;have hnl:=name_len hn;have hwl:=shp_word_len n.op;have hts:=textR_size n.num hfn.1 hfn.2;have HTX:=Lib.hid (fun W hL=>qText_any n.num W hL hfn.1 hfn.2);have HHD:Hid (n.op≠4→textE (cs.flatten++[n])=hdT n++(sepT 0 cs++(if (shp n.op).ops=0 then [] else [41]))):=fun h4=>by rw[hTX.out,txt_sep h4 hl]
  have HD:Hid (hdT n=(shp n.op).word++n.name.data.toList++(if (shp n.op).lit then (textR n.num).data.toList else [])++(if n.op=2 then [100] else [])++(if (shp n.op).stp then [91]++(textR n.num).data.toList++[93] else [])):=rfl
  have HTR:Hid (n.op=4→(n.num=ofI 0∧textE (cs.flatten++[n])=noL)∨(n.num=ofI 1∧textE (cs.flatten++[n])=yesL)):=by
   intro h4;rw[hTX.out];unfold numOk at hnumok;rw[if_pos h4,Bool.or_eq_true,decide_eq_true_eq,decide_eq_true_eq] at hnumok;unfold txt;rcases hnumok with hz|hz
   ·exact .inl ⟨hz,by rw[if_pos h4,hz,if_pos (show (ofI 0).num=⟨#[]⟩ from rfl)];rfl⟩
   ·exact .inr ⟨hz,by rw[if_pos h4,hz,if_neg (show ¬(ofI 1).num=⟨#[]⟩ from by decide)];rfl⟩
  generalize textE (cs.flatten++[n])=TT at*;have hll0:=HL.out.below hbw;clear hTX hnumok hnm0 hn;generalize hdT n=HDT at*;generalize textR n.num=tx at*;obtain⟨op,⟨neg,num,den⟩,nm⟩:=n;simp only at hc0 hc1 hc2 hc3 hc4 w1' w24 hways hways2 hops2 hnl hwl HTX HHD HD HTR hl hol;obtain⟨q,rfl⟩:∃q:Nat,op=q:=⟨op.toNat,by omega⟩
  have hla:=hll0.alloc (.cells #[.int .i64 (q:Int),.bool neg,.string num,.string den,.string nm] 56);have ht0:=hla.cell q 0 (by omega) (by omega);have ht1:=hla.cell q 1 (by omega) (by omega);have ht2:=hla.cell q 2 (by omega) (by omega);have ht3:=hla.cell q 3 (by omega) (by omega);have ht4:=hla.cell q 4 (by omega) (by omega);generalize shp (q:Int)=s at*;obtain⟨wdl,oo,lit,nam,stp⟩:=s;simp only[Sh.cells,List.getElem?_cons_zero,List.getElem?_cons_succ,Nat.add_zero] at ht0 ht1 ht2 ht3 ht4;simp only at hways hways2 hops2 hwl hl HHD HD hol;obtain⟨wd,hwd⟩:∃wd:ByteArray,⟨wdl.toArray⟩=wd:=⟨_,rfl⟩
  have hwdl:wd.data.toList=wdl:=by rw[←hwd]
  rw[hwd] at ht0;rw[←hwdl] at HD hwl;have hwd7:wd.size≤7:=by rw[ba_size];exact hwl
  have hsz3:(tx.size:Nat)≤6291460:=hts;have hne0:b<w.heap.size:=isb_lt hib;clear hla hwd hwdl;subst hl;have HSLW:Hid ((sepT 0 cs).length≤7000002*cs.flatten.length):=by have:=HSL.out cs.length;rwa[List.take_length] at this
  have HLEN:=Lib.hid hlen;have hlenb:bs.length≤999993000000:=by omega
  have hsm1:¬(9223372036854775807<wd.size+nm.size):=by omega
  have hsm2:¬(9223372036854775807<1+tx.size):=by omega
  have hsm3:¬(9223372036854775807<(⟨#[91]⟩++tx:ByteArray).size+1):=by rw[ByteArray.size_append];show ¬(_<1+tx.size+1);omega
  have hsm4:¬(9223372036854775807<1+tx.size+1):=by omega
  clear hlen;by_cases h4:(q:Int)=4
  ·have e4:((q:Int)==4)=true:=by rw[h4];rfl
   have HT2:∃bx:Bool,(num.toList !=(⟨#[]⟩:ByteArray).toList)=bx∧TT=(if bx then yesL else noL):=by
    rcases HTR.out h4 with⟨hz,ht⟩|⟨hz,ht⟩
    ·injection hz with z1 z2 z3;subst z2;exact⟨false,by decide+kernel,ht⟩
    ·injection hz with z1 z2 z3;subst z2;exact⟨true,by decide+kernel,ht⟩
   obtain⟨bx,e5,ht⟩:=HT2;have e6:=e5;rw[show (⟨#[]⟩:ByteArray).toList=[] by rw[ByteArray.toList_eq]] at e6;have e7:num.toList.isEmpty= !bx:=by rw[←e6];cases num.toList<;>rfl
   have HT:=Lib.hid ht;have hmk:=@run_makeMap Tryz.prog
   have hba:Below w.heap.size w ((w.alloc (.cells #[.int .i64 (q:Int),.bool neg,.string num,.string den,.string nm] 56)).alloc (.cells #[.string wd,.int .i64 (cs.length:Int),.bool lit,.bool nam,.bool stp] 86)):=
    ((Below.refl _ _).alloc (Nat.le_refl _) _).alloc (by rw[World.size_alloc];omega) _
   obtain⟨W2,W3,hi1,hi2,hi3,hi4,hb3⟩:=yesno_map _ (w.heap.size+1+1) (show w.heap.size+1+1=((w.alloc (.cells #[.int .i64 (q:Int),.bool neg,.string num,.string den,.string nm] 56)).alloc (.cells #[.string wd,.int .i64 (cs.length:Int),.bool lit,.bool nam,.bool stp] 86)).heap.size by rw[World.size_alloc,World.size_alloc]);have hbw3:=bstep hba hb3;have hi:=isb_below hib hbw3;have HI:=Lib.hid hi;have HBW:Hid (Below Bb w W3):=hbw3.mono hBw;have HFW:Hid (BF b w W3):=BF.of_below hbw3;have hBW:Bb≤W3.heap.size:=Nat.le_trans hBw hbw3.size;have hkn:Blk ((w.alloc (.cells #[.int .i64 (q:Int),.bool neg,.string num,.string den,.string nm] 56)).alloc (.cells #[.string wd,.int .i64 (cs.length:Int),.bool lit,.bool nam,.bool stp] 86)) w.heap.size 56 [.int .i64 (q:Int),.bool neg,.string num,.string den,.string nm]:=(Blk.new w _ _).alloc _;have hcn:=(hkn.below hb3 hkn.lt).cells;clear hb3 hbw3 hi hib hba hkn;clear hways hways2 hops2 HTR HHD HD hfn hr1 h4 ht;go_enter Tryz.func83,Tryz.ntmps83;cases bx
   ·go_wp2_with fail;refine (wrs_bf Bb b bs ⟨#[110,111]⟩ _ HI.out (by show bs.length+2≤_;omega) hBW).mono ?_;rintro e w1 ⟨rfl,hx1,hb1,hf1⟩;go_wp2
    first|go_end0|refine bodyPost_ret (results_none rfl _ _ _) rfl ?_
    exact⟨rfl,by rw[HT.out];exact hx1,HBW.out.trans hb1,HFW.out.trans hf1⟩
   ·go_wp2_with fail;refine (wrs_bf Bb b bs ⟨#[121,101,115]⟩ _ HI.out (by show bs.length+3≤_;omega) hBW).mono ?_;rintro e w1 ⟨rfl,hx1,hb1,hf1⟩;go_wp2
    first|go_end0|refine bodyPost_ret (results_none rfl _ _ _) rfl ?_
    exact⟨rfl,by rw[HT.out];exact hx1,HBW.out.trans hb1,HFW.out.trans hf1⟩
  ·have e4:((q:Int)==4)=false:=by rw[beq_eq_false_iff_ne];exact h4
   have HT:=Lib.hid (HHD.out h4);by_cases h2:(q:Int)=2
   ·obtain rfl:lit=true:=by rw[hways];exact decide_eq_true (by omega)
    obtain rfl:stp=false:=by rw[hways2];exact decide_eq_false (by omega)
    have e2:((q:Int)==2)=true:=by rw[h2];rfl
    have HD2:Hid (HDT=(wd.data.toList++nm.data.toList)++tx.data.toList++[100]):=by show _=_;rw[HD.out];simp[h2]
    have HDL:Hid (((wd.data.toList++nm.data.toList)++tx.data.toList++[100]).length≤7000000):=by
     show _≤_;have:=ba_size tx;have:=ba_size nm;simp only[List.length_append,List.length_cons,List.length_nil]
     omega
    clear hways hways2 hops2 HTR HHD HD h2 hfn hr1;obtain⟨W,hW⟩:∃W,W=(w.alloc (.cells #[.int .i64 (q:Int),.bool neg,.string num,.string den,.string nm] 56)).alloc (.cells #[.string wd,.int .i64 (cs.length:Int),.bool true,.bool nam,.bool false] 86):=⟨_,rfl⟩
    have htwo:=Two.new w 56 86 #[.int .i64 (q:Int),.bool neg,.string num,.string den,.string nm] #[.string wd,.int .i64 (cs.length:Int),.bool true,.bool nam,.bool false];rw[←hW] at htwo;obtain⟨hk0,hk1,hba,hsz⟩:=htwo;obtain⟨B,hB⟩:∃B,B=w.heap.size:=⟨_,rfl⟩
    have HB:=Lib.hid hB;rw[←hB] at hba hsz hk0 hk1;have hbaw:Below w.heap.size w W:=by rw[←HB.out];exact hba
    have hbW:Below w0.heap.size w0 W:=bstep hbw hbaw;have hibW:=isb_below hib hbaw;have HBW:Hid (Below Bb w W):=hbaw.mono hBw;have HFW:Hid (BF b w W):=BF.of_below hbaw;have hBW:Bb≤W.heap.size:=Nat.le_trans hBw hbaw.size;have hnb0:B≠b:=by rw[HB.out];omega
    have hnb1:B+1≠b:=by rw[HB.out];omega
    have HN0:=Lib.hid hk0;have HS0:=Lib.hid hk1;have HIB:=Lib.hid hibW;have HB0:=Lib.hid hbW;clear hba hbaw hk0 hk1 hib hbw hibW hbW;go_enter Tryz.func83,Tryz.ntmps83;go_wp2_with fail;simp only[←hW,←hB]
    clear hW hB;refine (wrs_bf Bb b bs _ _ (HIB.out) (by rw[ByteArray.size_append];omega) hBW).mono ?_;rintro e w1 ⟨rfl,hx1,hb1,hf1⟩;have hBb1:Bb≤w1.heap.size:=Nat.le_trans hBW hb1.size;have hn1:=hf1.blk HN0.out (by decide) hnb0;have hs1:=hf1.blk HS0.out (by decide) hnb1;have hcn:=hn1.cells;have hcs:=hs1.cells;have HB1':Hid (Below Bb w w1):=HBW.out.trans hb1;have HB1:Hid (Below w0.heap.size w0 w1):=HB0.out.trans (hb1.mono hB);have HF1:Hid (BF b w w1):=HFW.out.trans hf1;have HN1:=Lib.hid hn1;have HS1:=Lib.hid hs1;have HX1:Hid (Lib.BuilderAt 66 5 Bb b (.pointer (some ⟨b,0,none⟩)) (bs++lc (wd.data.toList++nm.data.toList)) w1):=by show Lib.BuilderAt _ _ _ _ _ _ _;rw[←ba_app];exact hx1
    clear hx1 hb1 hf1 hn1 hs1;clear hc0 hc1 hc2 hc3 hc4 ht0 ht1 ht2 ht3 ht4 hll0;go_wp2_with fail;refine (HTX.out _ (HL.out.below HB1.out).base).mono ?_;rintro e w2 ⟨rfl,hb2⟩;have hBb2:Bb≤w2.heap.size:=Nat.le_trans hBb1 hb2.size;have hn2:=HN1.out.below hb2 HN1.out.lt;have hs2:=HS1.out.below hb2 HS1.out.lt;have HB2':Hid (Below Bb w w2):=HB1'.out.trans (hb2.mono hBb1);have HB2:Hid (Below w0.heap.size w0 w2):=bstep HB1.out hb2;have HF2:Hid (BF b w w2):=HF1.out.trans (BF.of_below hb2);have HX2:Hid (Lib.BuilderAt 66 5 Bb b (.pointer (some ⟨b,0,none⟩)) (bs++lc (wd.data.toList++nm.data.toList)) w2):=bld_below HX1.out hb2;have HN2:=Lib.hid hn2;have HS2:=Lib.hid hs2;clear hcn hcs hn2 hs2 hb2 HB1 HB1' HF1 HX1 HN1 HS1;go_wp2_with fail;refine (wrs_bf Bb b (bs++lc (wd.data.toList++nm.data.toList)) _ _ (.inr HX2.out) (by rw[List.length_append,lc_len];simp only[List.length_append,ByteArray.size_append,←ba_size,ByteArray.size,List.size_toArray,Array.size_append,List.length_cons,List.length_nil] at*;omega) hBb2).mono ?_;rintro e w3 ⟨rfl,hx3,hb3,hf3⟩;have hBb3:Bb≤w3.heap.size:=Nat.le_trans hBb2 hb3.size;have hn3:=hf3.blk HN2.out (by decide) hnb0;have hs3:=hf3.blk HS2.out (by decide) hnb1;have hcn:=hn3.cells;have hcs:=hs3.cells;have HB3':Hid (Below Bb w w3):=HB2'.out.trans hb3;have HB3:Hid (Below w0.heap.size w0 w3):=HB2.out.trans (hb3.mono hB);have HF3:Hid (BF b w w3):=HF2.out.trans hf3;have HN3:=Lib.hid hn3;have HS3:=Lib.hid hs3;have HX3:Hid (Lib.BuilderAt 66 5 Bb b (.pointer (some ⟨b,0,none⟩)) (bs++lc ((wd.data.toList++nm.data.toList)++tx.data.toList)) w3):=by show Lib.BuilderAt _ _ _ _ _ _ _;rw[lc_app,←List.append_assoc];exact hx3
    clear hx3 hb3 hf3 hn3 hs3;go_wp2_with fail;refine (wrs_bf Bb b (bs++lc ((wd.data.toList++nm.data.toList)++tx.data.toList)) _ _ (.inr HX3.out) (by rw[List.length_append,lc_len];simp only[List.length_append,ByteArray.size_append,←ba_size,ByteArray.size,List.size_toArray,Array.size_append,List.length_cons,List.length_nil] at*;omega) hBb3).mono ?_;rintro e w4 ⟨rfl,hx4,hb4,hf4⟩;have hBb4:Bb≤w4.heap.size:=Nat.le_trans hBb3 hb4.size;have hn4:=hf4.blk HN3.out (by decide) hnb0;have hs4:=hf4.blk HS3.out (by decide) hnb1;have hcn:=hn4.cells;have hcs:=hs4.cells;have HB4':Hid (Below Bb w w4):=HB3'.out.trans hb4;have HB4:Hid (Below w0.heap.size w0 w4):=HB3.out.trans (hb4.mono hB);have HF4:Hid (BF b w w4):=HF3.out.trans hf4;have HN4:=Lib.hid hn4;have HS4:=Lib.hid hs4;have HX4:Hid (Lib.BuilderAt 66 5 Bb b (.pointer (some ⟨b,0,none⟩)) (bs++lc ((wd.data.toList++nm.data.toList)++tx.data.toList++[100])) w4):=by show Lib.BuilderAt _ _ _ _ _ _ _;rw[lc_app,←List.append_assoc];exact hx4
    clear hx4 hb4 hf4 hn4 hs4;have hr9:=H9.out _ HB4.out;go_wp2;clear hcn hcs
    go_loopg [65] cs.length (fun g iv wr=>∃i,i+g=cs.length∧iv=.int .i64 (i:Int)∧Hid (Lib.BuilderAt 66 5 Bb b (.pointer (some ⟨b,0,none⟩)) (bs++lc ((wd.data.toList++nm.data.toList)++tx.data.toList++[100]++sepT 0 (cs.take i))) wr)∧Hid (Below Bb w wr∧BF b w wr∧BF b w4 wr)∧Below w0.heap.size w0 wr)
    case atStart=>
     refine⟨0,by omega,rfl,?_,⟨HB4'.out,HF4.out,BF.refl _ _⟩,HB4.out⟩;show Lib.BuilderAt _ _ _ _ _ _ _;rw[List.take_zero,sepT,List.append_nil];exact HX4.out
    case round=>
     obtain⟨i,hi,rfl,hxr,hfr,hbr⟩:=hrel;clear hr9;have hBr:Bb≤wr.heap.size:=Nat.le_trans hBw hfr.out.1.size;have hnr:=hfr.out.2.2.blk HN4.out (by decide) hnb0;have hsr:=hfr.out.2.2.blk HS4.out (by decide) hnb1;by_cases hlt:i<cs.length
     ·have hrt:i<(I (roots o cs)).length:=by rw[I_length,roots_length];exact hlt
      obtain⟨b3,off3,rfl,hb3,hcc⟩:=(HR9.out.below hbr).at_ hrt;have hcell:=hcc i hrt;rw[I_get] at hcell;have hih:=Lib.hid (HIH.out i hlt);have HSTi:=Lib.hid (HST.out i hlt);generalize (roots o cs).getD i 0=rt at*;clear hcc hb3 hrt
      have HQ1:Hid ((bs++lc ((wd.data.toList++nm.data.toList)++tx.data.toList++[100]++sepT 0 (cs.take i))).length+2+7000002*(cs.getD i []).length≤1000000000000):=by
       show _≤_;rw[List.length_append,lc_len];have h1:=HDL.out;have h2:=HSL.out i;have h3:=HFT.out i hlt;have h4:=HLEN.out;simp only[List.length_append] at h1 h2⊢;omega
      have hq1:(bs++lc ((wd.data.toList++nm.data.toList)++tx.data.toList++[100]++sepT 0 (cs.take i))).length≤1000000000000:=by have:=HQ1.out;omega
      by_cases hi0:i=0
      ·have HC:=Lib.hid (fun (w':World) h1 h2 h3 h4=>hih.out (bs++lc (((wd.data.toList++nm.data.toList)++tx.data.toList++[100]++sepT 0 (cs.take i))++sepW i)) w' h1 h2 h3 h4);have hsw:sepW i=[40]:=by rw[hi0];rfl
       have HSW:=Lib.hid hsw;have ei:((i:Int)==0)=true:=by rw[hi0];rfl
       clear hih hq1 hsw hi0;go_wp2_with fail;refine (wrs_bf Bb b _ _ _ (.inr hxr.out) (by have h0:=HQ1.out;have:(⟨#[40]⟩:ByteArray).size=1:=rfl;omega) hBr).mono ?_;rintro e wa ⟨rfl,hxa,hba,hfa⟩;go_wp2_with fail;refine (HC.out _ (hbr.trans (hba.mono hB)) (Nat.le_trans hBr hba.size) (.inr (by rw[lc_app,HSW.out,←List.append_assoc];exact hxa)) (by rw[lc_app,←List.append_assoc,List.length_append,lc_len,HSW.out];have:=HQ1.out;simp only[List.length_cons,List.length_nil];omega)).mono ?_;rintro e wb ⟨rfl,hxb,hbb,hfb⟩
       have HXb:Hid (Lib.BuilderAt 66 5 Bb b (.pointer (some ⟨b,0,none⟩)) (bs++lc ((wd.data.toList++nm.data.toList)++tx.data.toList++[100]++sepT 0 (cs.take (i+1)))) wb):=by
        show Lib.BuilderAt _ _ _ _ _ _ _;rw[HSTi.out,←List.append_assoc,←List.append_assoc,lc_app,←List.append_assoc];exact hxb
       have HFb:Hid (Below Bb w wb∧BF b w wb∧BF b w4 wb):=⟨(hfr.out.1.trans hba).trans hbb,(hfr.out.2.1.trans hfa).trans hfb,(hfr.out.2.2.trans hfa).trans hfb⟩
       have HBb:Hid (Below w0.heap.size w0 wb):=(hbr.trans (hba.mono hB)).trans (hbb.mono hB);clear hxa hba hfa hxb hbb hfb hxr hfr hbr hnr hsr;go_wp2
       go_roundg (cs.length-(i+1))
       case measure=>omega
       case rel=>exact⟨i+1,by omega,by go_num,HXb,HFb,HBb.out⟩
      ·have HC:=Lib.hid (fun (w':World) h1 h2 h3 h4=>hih.out (bs++lc (((wd.data.toList++nm.data.toList)++tx.data.toList++[100]++sepT 0 (cs.take i))++sepW i)) w' h1 h2 h3 h4);have hsw:sepW i=[44,32]:=by unfold sepW;rw[if_neg hi0]
       have HSW:=Lib.hid hsw;have ei:((i:Int)==0)=false:=by rw[beq_eq_false_iff_ne];omega
       clear hih hq1 hsw hi0;go_wp2_with fail;refine (wrs_bf Bb b _ _ _ (.inr hxr.out) (by have h0:=HQ1.out;have:(⟨#[44,32]⟩:ByteArray).size=2:=rfl;omega) hBr).mono ?_;rintro e wa ⟨rfl,hxa,hba,hfa⟩;go_wp2_with fail;refine (HC.out _ (hbr.trans (hba.mono hB)) (Nat.le_trans hBr hba.size) (.inr (by rw[lc_app,HSW.out,←List.append_assoc];exact hxa)) (by rw[lc_app,←List.append_assoc,List.length_append,lc_len,HSW.out];have:=HQ1.out;simp only[List.length_cons,List.length_nil];omega)).mono ?_;rintro e wb ⟨rfl,hxb,hbb,hfb⟩
       have HXb:Hid (Lib.BuilderAt 66 5 Bb b (.pointer (some ⟨b,0,none⟩)) (bs++lc ((wd.data.toList++nm.data.toList)++tx.data.toList++[100]++sepT 0 (cs.take (i+1)))) wb):=by
        show Lib.BuilderAt _ _ _ _ _ _ _;rw[HSTi.out,←List.append_assoc,←List.append_assoc,lc_app,←List.append_assoc];exact hxb
       have HFb:Hid (Below Bb w wb∧BF b w wb∧BF b w4 wb):=⟨(hfr.out.1.trans hba).trans hbb,(hfr.out.2.1.trans hfa).trans hfb,(hfr.out.2.2.trans hfa).trans hfb⟩
       have HBb:Hid (Below w0.heap.size w0 wb):=(hbr.trans (hba.mono hB)).trans (hbb.mono hB);clear hxa hba hfa hxb hbb hfb hxr hfr hbr hnr hsr;go_wp2
       go_roundg (cs.length-(i+1))
       case measure=>omega
       case rel=>exact⟨i+1,by omega,by go_num,HXb,HFb,HBb.out⟩
     ·have hie:i=cs.length:=by omega
      subst hie;have hcs:=hsr.cells
      have HXE:Hid (Lib.BuilderAt 66 5 Bb b (.pointer (some ⟨b,0,none⟩)) (bs++lc ((wd.data.toList++nm.data.toList)++tx.data.toList++[100]++sepT 0 cs)) wr):=by
       have:=hxr.out;rw[List.take_length] at this;exact this
      have hx1:decide ((cs.length:Int)<cs.length)=false:=decide_eq_false (by omega);clear hnr hsr hxr HIH HSL HFT HST;by_cases ho:cs.length=0
      ·go_wp2;go_end0;refine⟨rfl,?_,hfr.out.1,hfr.out.2.1⟩;rw[HT.out,HD2.out,if_pos ho,List.append_nil];exact HXE.out
      ·have hop:0<cs.length:=by omega
       go_wp2_with fail
       refine (wrs_bf Bb b _ _ _ (.inr HXE.out) (by
        rw[List.length_append,lc_len];have h1:=HDL.out;have h2:=HSLW.out;have h3:=HLEN.out;simp only[List.length_append] at h1⊢;have:(⟨#[41]⟩:ByteArray).size=1:=rfl;omega) hBr).mono ?_
       rintro e wz ⟨rfl,hxz,hbz,hfz⟩;go_wp2;go_end0;refine⟨rfl,?_,hfr.out.1.trans hbz,hfr.out.2.1.trans hfz⟩;rw[HT.out,HD2.out,if_neg ho,←List.append_assoc,lc_app,←List.append_assoc];exact hxz
   ·by_cases h1:1≤(q:Int)∧(q:Int)≤4
    ·obtain rfl:lit=true:=by rw[hways];exact decide_eq_true h1
     obtain rfl:stp=false:=by rw[hways2];exact decide_eq_false (by omega)
     have e2:((q:Int)==2)=false:=by rw[beq_eq_false_iff_ne];exact h2
     have HD2:Hid (HDT=(wd.data.toList++nm.data.toList)++tx.data.toList):=by show _=_;rw[HD.out];simp[h2]
     have HDL:Hid (((wd.data.toList++nm.data.toList)++tx.data.toList).length≤7000000):=by
      show _≤_;have:=ba_size tx;have:=ba_size nm;simp only[List.length_append,List.length_cons,List.length_nil]
      omega
     clear hways hways2 hops2 HTR HHD HD h2 hfn hr1;obtain⟨W,hW⟩:∃W,W=(w.alloc (.cells #[.int .i64 (q:Int),.bool neg,.string num,.string den,.string nm] 56)).alloc (.cells #[.string wd,.int .i64 (cs.length:Int),.bool true,.bool nam,.bool false] 86):=⟨_,rfl⟩
     have htwo:=Two.new w 56 86 #[.int .i64 (q:Int),.bool neg,.string num,.string den,.string nm] #[.string wd,.int .i64 (cs.length:Int),.bool true,.bool nam,.bool false];rw[←hW] at htwo;obtain⟨hk0,hk1,hba,hsz⟩:=htwo;obtain⟨B,hB⟩:∃B,B=w.heap.size:=⟨_,rfl⟩
     have HB:=Lib.hid hB;rw[←hB] at hba hsz hk0 hk1;have hbaw:Below w.heap.size w W:=by rw[←HB.out];exact hba
     have hbW:Below w0.heap.size w0 W:=bstep hbw hbaw;have hibW:=isb_below hib hbaw;have HBW:Hid (Below Bb w W):=hbaw.mono hBw;have HFW:Hid (BF b w W):=BF.of_below hbaw;have hBW:Bb≤W.heap.size:=Nat.le_trans hBw hbaw.size;have hnb0:B≠b:=by rw[HB.out];omega
     have hnb1:B+1≠b:=by rw[HB.out];omega
     have HN0:=Lib.hid hk0;have HS0:=Lib.hid hk1;have HIB:=Lib.hid hibW;have HB0:=Lib.hid hbW;clear hba hbaw hk0 hk1 hib hbw hibW hbW;go_enter Tryz.func83,Tryz.ntmps83;go_wp2_with fail;simp only[←hW,←hB]
     clear hW hB;refine (wrs_bf Bb b bs _ _ (HIB.out) (by rw[ByteArray.size_append];omega) hBW).mono ?_;rintro e w1 ⟨rfl,hx1,hb1,hf1⟩;have hBb1:Bb≤w1.heap.size:=Nat.le_trans hBW hb1.size;have hn1:=hf1.blk HN0.out (by decide) hnb0;have hs1:=hf1.blk HS0.out (by decide) hnb1;have hcn:=hn1.cells;have hcs:=hs1.cells;have HB1':Hid (Below Bb w w1):=HBW.out.trans hb1;have HB1:Hid (Below w0.heap.size w0 w1):=HB0.out.trans (hb1.mono hB);have HF1:Hid (BF b w w1):=HFW.out.trans hf1;have HN1:=Lib.hid hn1;have HS1:=Lib.hid hs1;have HX1:Hid (Lib.BuilderAt 66 5 Bb b (.pointer (some ⟨b,0,none⟩)) (bs++lc (wd.data.toList++nm.data.toList)) w1):=by show Lib.BuilderAt _ _ _ _ _ _ _;rw[←ba_app];exact hx1
     clear hx1 hb1 hf1 hn1 hs1;clear hc0 hc1 hc2 hc3 hc4 ht0 ht1 ht2 ht3 ht4 hll0;go_wp2_with fail;refine (HTX.out _ (HL.out.below HB1.out).base).mono ?_;rintro e w2 ⟨rfl,hb2⟩;have hBb2:Bb≤w2.heap.size:=Nat.le_trans hBb1 hb2.size;have hn2:=HN1.out.below hb2 HN1.out.lt;have hs2:=HS1.out.below hb2 HS1.out.lt;have HB2':Hid (Below Bb w w2):=HB1'.out.trans (hb2.mono hBb1);have HB2:Hid (Below w0.heap.size w0 w2):=bstep HB1.out hb2;have HF2:Hid (BF b w w2):=HF1.out.trans (BF.of_below hb2);have HX2:Hid (Lib.BuilderAt 66 5 Bb b (.pointer (some ⟨b,0,none⟩)) (bs++lc (wd.data.toList++nm.data.toList)) w2):=bld_below HX1.out hb2;have HN2:=Lib.hid hn2;have HS2:=Lib.hid hs2;clear hcn hcs hn2 hs2 hb2 HB1 HB1' HF1 HX1 HN1 HS1;go_wp2_with fail;refine (wrs_bf Bb b (bs++lc (wd.data.toList++nm.data.toList)) _ _ (.inr HX2.out) (by rw[List.length_append,lc_len];simp only[List.length_append,ByteArray.size_append,←ba_size,ByteArray.size,List.size_toArray,Array.size_append,List.length_cons,List.length_nil] at*;omega) hBb2).mono ?_;rintro e w3 ⟨rfl,hx3,hb3,hf3⟩;have hBb3:Bb≤w3.heap.size:=Nat.le_trans hBb2 hb3.size;have hn3:=hf3.blk HN2.out (by decide) hnb0;have hs3:=hf3.blk HS2.out (by decide) hnb1;have hcn:=hn3.cells;have hcs:=hs3.cells;have HB3':Hid (Below Bb w w3):=HB2'.out.trans hb3;have HB3:Hid (Below w0.heap.size w0 w3):=HB2.out.trans (hb3.mono hB);have HF3:Hid (BF b w w3):=HF2.out.trans hf3;have HN3:=Lib.hid hn3;have HS3:=Lib.hid hs3;have HX3:Hid (Lib.BuilderAt 66 5 Bb b (.pointer (some ⟨b,0,none⟩)) (bs++lc ((wd.data.toList++nm.data.toList)++tx.data.toList)) w3):=by show Lib.BuilderAt _ _ _ _ _ _ _;rw[lc_app,←List.append_assoc];exact hx3
     clear hx3 hb3 hf3 hn3 hs3;have hr9:=H9.out _ HB3.out;go_wp2;clear hcn hcs
     go_loopg [65] cs.length (fun g iv wr=>∃i,i+g=cs.length∧iv=.int .i64 (i:Int)∧Hid (Lib.BuilderAt 66 5 Bb b (.pointer (some ⟨b,0,none⟩)) (bs++lc ((wd.data.toList++nm.data.toList)++tx.data.toList++sepT 0 (cs.take i))) wr)∧Hid (Below Bb w wr∧BF b w wr∧BF b w3 wr)∧Below w0.heap.size w0 wr)
     case atStart=>
      refine⟨0,by omega,rfl,?_,⟨HB3'.out,HF3.out,BF.refl _ _⟩,HB3.out⟩;show Lib.BuilderAt _ _ _ _ _ _ _;rw[List.take_zero,sepT,List.append_nil];exact HX3.out
     case round=>
      obtain⟨i,hi,rfl,hxr,hfr,hbr⟩:=hrel;clear hr9;have hBr:Bb≤wr.heap.size:=Nat.le_trans hBw hfr.out.1.size;have hnr:=hfr.out.2.2.blk HN3.out (by decide) hnb0;have hsr:=hfr.out.2.2.blk HS3.out (by decide) hnb1;by_cases hlt:i<cs.length
      ·have hrt:i<(I (roots o cs)).length:=by rw[I_length,roots_length];exact hlt
       obtain⟨b3,off3,rfl,hb3,hcc⟩:=(HR9.out.below hbr).at_ hrt;have hcell:=hcc i hrt;rw[I_get] at hcell;have hih:=Lib.hid (HIH.out i hlt);have HSTi:=Lib.hid (HST.out i hlt);generalize (roots o cs).getD i 0=rt at*;clear hcc hb3 hrt
       have HQ1:Hid ((bs++lc ((wd.data.toList++nm.data.toList)++tx.data.toList++sepT 0 (cs.take i))).length+2+7000002*(cs.getD i []).length≤1000000000000):=by
        show _≤_;rw[List.length_append,lc_len];have h1:=HDL.out;have h2:=HSL.out i;have h3:=HFT.out i hlt;have h4:=HLEN.out;simp only[List.length_append] at h1 h2⊢;omega
       have hq1:(bs++lc ((wd.data.toList++nm.data.toList)++tx.data.toList++sepT 0 (cs.take i))).length≤1000000000000:=by have:=HQ1.out;omega
       by_cases hi0:i=0
       ·have HC:=Lib.hid (fun (w':World) h1 h2 h3 h4=>hih.out (bs++lc (((wd.data.toList++nm.data.toList)++tx.data.toList++sepT 0 (cs.take i))++sepW i)) w' h1 h2 h3 h4);have hsw:sepW i=[40]:=by rw[hi0];rfl
        have HSW:=Lib.hid hsw;have ei:((i:Int)==0)=true:=by rw[hi0];rfl
        clear hih hq1 hsw hi0;go_wp2_with fail;refine (wrs_bf Bb b _ _ _ (.inr hxr.out) (by have h0:=HQ1.out;have:(⟨#[40]⟩:ByteArray).size=1:=rfl;omega) hBr).mono ?_;rintro e wa ⟨rfl,hxa,hba,hfa⟩;go_wp2_with fail;refine (HC.out _ (hbr.trans (hba.mono hB)) (Nat.le_trans hBr hba.size) (.inr (by rw[lc_app,HSW.out,←List.append_assoc];exact hxa)) (by rw[lc_app,←List.append_assoc,List.length_append,lc_len,HSW.out];have:=HQ1.out;simp only[List.length_cons,List.length_nil];omega)).mono ?_;rintro e wb ⟨rfl,hxb,hbb,hfb⟩
        have HXb:Hid (Lib.BuilderAt 66 5 Bb b (.pointer (some ⟨b,0,none⟩)) (bs++lc ((wd.data.toList++nm.data.toList)++tx.data.toList++sepT 0 (cs.take (i+1)))) wb):=by
         show Lib.BuilderAt _ _ _ _ _ _ _;rw[HSTi.out,←List.append_assoc,←List.append_assoc,lc_app,←List.append_assoc];exact hxb
        have HFb:Hid (Below Bb w wb∧BF b w wb∧BF b w3 wb):=⟨(hfr.out.1.trans hba).trans hbb,(hfr.out.2.1.trans hfa).trans hfb,(hfr.out.2.2.trans hfa).trans hfb⟩
        have HBb:Hid (Below w0.heap.size w0 wb):=(hbr.trans (hba.mono hB)).trans (hbb.mono hB);clear hxa hba hfa hxb hbb hfb hxr hfr hbr hnr hsr;go_wp2
        go_roundg (cs.length-(i+1))
        case measure=>omega
        case rel=>exact⟨i+1,by omega,by go_num,HXb,HFb,HBb.out⟩
       ·have HC:=Lib.hid (fun (w':World) h1 h2 h3 h4=>hih.out (bs++lc (((wd.data.toList++nm.data.toList)++tx.data.toList++sepT 0 (cs.take i))++sepW i)) w' h1 h2 h3 h4);have hsw:sepW i=[44,32]:=by unfold sepW;rw[if_neg hi0]
        have HSW:=Lib.hid hsw;have ei:((i:Int)==0)=false:=by rw[beq_eq_false_iff_ne];omega
        clear hih hq1 hsw hi0;go_wp2_with fail;refine (wrs_bf Bb b _ _ _ (.inr hxr.out) (by have h0:=HQ1.out;have:(⟨#[44,32]⟩:ByteArray).size=2:=rfl;omega) hBr).mono ?_;rintro e wa ⟨rfl,hxa,hba,hfa⟩;go_wp2_with fail;refine (HC.out _ (hbr.trans (hba.mono hB)) (Nat.le_trans hBr hba.size) (.inr (by rw[lc_app,HSW.out,←List.append_assoc];exact hxa)) (by rw[lc_app,←List.append_assoc,List.length_append,lc_len,HSW.out];have:=HQ1.out;simp only[List.length_cons,List.length_nil];omega)).mono ?_;rintro e wb ⟨rfl,hxb,hbb,hfb⟩
        have HXb:Hid (Lib.BuilderAt 66 5 Bb b (.pointer (some ⟨b,0,none⟩)) (bs++lc ((wd.data.toList++nm.data.toList)++tx.data.toList++sepT 0 (cs.take (i+1)))) wb):=by
         show Lib.BuilderAt _ _ _ _ _ _ _;rw[HSTi.out,←List.append_assoc,←List.append_assoc,lc_app,←List.append_assoc];exact hxb
        have HFb:Hid (Below Bb w wb∧BF b w wb∧BF b w3 wb):=⟨(hfr.out.1.trans hba).trans hbb,(hfr.out.2.1.trans hfa).trans hfb,(hfr.out.2.2.trans hfa).trans hfb⟩
        have HBb:Hid (Below w0.heap.size w0 wb):=(hbr.trans (hba.mono hB)).trans (hbb.mono hB);clear hxa hba hfa hxb hbb hfb hxr hfr hbr hnr hsr;go_wp2
        go_roundg (cs.length-(i+1))
        case measure=>omega
        case rel=>exact⟨i+1,by omega,by go_num,HXb,HFb,HBb.out⟩
      ·have hie:i=cs.length:=by omega
       subst hie;have hcs:=hsr.cells
       have HXE:Hid (Lib.BuilderAt 66 5 Bb b (.pointer (some ⟨b,0,none⟩)) (bs++lc ((wd.data.toList++nm.data.toList)++tx.data.toList++sepT 0 cs)) wr):=by
        have:=hxr.out;rw[List.take_length] at this;exact this
       have hx1:decide ((cs.length:Int)<cs.length)=false:=decide_eq_false (by omega);clear hnr hsr hxr HIH HSL HFT HST;by_cases ho:cs.length=0
       ·go_wp2;go_end0;refine⟨rfl,?_,hfr.out.1,hfr.out.2.1⟩;rw[HT.out,HD2.out,if_pos ho,List.append_nil];exact HXE.out
       ·have hop:0<cs.length:=by omega
        go_wp2_with fail
        refine (wrs_bf Bb b _ _ _ (.inr HXE.out) (by
         rw[List.length_append,lc_len];have h1:=HDL.out;have h2:=HSLW.out;have h3:=HLEN.out;simp only[List.length_append] at h1⊢;have:(⟨#[41]⟩:ByteArray).size=1:=rfl;omega) hBr).mono ?_
        rintro e wz ⟨rfl,hxz,hbz,hfz⟩;go_wp2;go_end0;refine⟨rfl,?_,hfr.out.1.trans hbz,hfr.out.2.1.trans hfz⟩;rw[HT.out,HD2.out,if_neg ho,←List.append_assoc,lc_app,←List.append_assoc];exact hxz
    ·by_cases h3:21≤(q:Int)∧(q:Int)≤23
     ·obtain rfl:lit=false:=by rw[hways];exact decide_eq_false h1
      obtain rfl:stp=true:=by rw[hways2];exact decide_eq_true h3
      have e2:((q:Int)==2)=false:=by rw[beq_eq_false_iff_ne];exact h2
      have HD2:Hid (HDT=(wd.data.toList++nm.data.toList)++([91]++tx.data.toList++[93])):=by show _=_;rw[HD.out];simp[h2]
      have HDL:Hid (((wd.data.toList++nm.data.toList)++([91]++tx.data.toList++[93])).length≤7000000):=by
       show _≤_;have:=ba_size tx;have:=ba_size nm;simp only[List.length_append,List.length_cons,List.length_nil]
       omega
      clear hways hways2 hops2 HTR HHD HD h2 hfn hr1;obtain⟨W,hW⟩:∃W,W=(w.alloc (.cells #[.int .i64 (q:Int),.bool neg,.string num,.string den,.string nm] 56)).alloc (.cells #[.string wd,.int .i64 (cs.length:Int),.bool false,.bool nam,.bool true] 86):=⟨_,rfl⟩
      have htwo:=Two.new w 56 86 #[.int .i64 (q:Int),.bool neg,.string num,.string den,.string nm] #[.string wd,.int .i64 (cs.length:Int),.bool false,.bool nam,.bool true];rw[←hW] at htwo;obtain⟨hk0,hk1,hba,hsz⟩:=htwo;obtain⟨B,hB⟩:∃B,B=w.heap.size:=⟨_,rfl⟩
      have HB:=Lib.hid hB;rw[←hB] at hba hsz hk0 hk1;have hbaw:Below w.heap.size w W:=by rw[←HB.out];exact hba
      have hbW:Below w0.heap.size w0 W:=bstep hbw hbaw;have hibW:=isb_below hib hbaw;have HBW:Hid (Below Bb w W):=hbaw.mono hBw;have HFW:Hid (BF b w W):=BF.of_below hbaw;have hBW:Bb≤W.heap.size:=Nat.le_trans hBw hbaw.size;have hnb0:B≠b:=by rw[HB.out];omega
      have hnb1:B+1≠b:=by rw[HB.out];omega
      have HN0:=Lib.hid hk0;have HS0:=Lib.hid hk1;have HIB:=Lib.hid hibW;have HB0:=Lib.hid hbW;clear hba hbaw hk0 hk1 hib hbw hibW hbW;go_enter Tryz.func83,Tryz.ntmps83;go_wp2_with fail;simp only[←hW,←hB]
      clear hW hB;refine (wrs_bf Bb b bs _ _ (HIB.out) (by rw[ByteArray.size_append];omega) hBW).mono ?_;rintro e w1 ⟨rfl,hx1,hb1,hf1⟩;have hBb1:Bb≤w1.heap.size:=Nat.le_trans hBW hb1.size;have hn1:=hf1.blk HN0.out (by decide) hnb0;have hs1:=hf1.blk HS0.out (by decide) hnb1;have hcn:=hn1.cells;have hcs:=hs1.cells;have HB1':Hid (Below Bb w w1):=HBW.out.trans hb1;have HB1:Hid (Below w0.heap.size w0 w1):=HB0.out.trans (hb1.mono hB);have HF1:Hid (BF b w w1):=HFW.out.trans hf1;have HN1:=Lib.hid hn1;have HS1:=Lib.hid hs1;have HX1:Hid (Lib.BuilderAt 66 5 Bb b (.pointer (some ⟨b,0,none⟩)) (bs++lc (wd.data.toList++nm.data.toList)) w1):=by show Lib.BuilderAt _ _ _ _ _ _ _;rw[←ba_app];exact hx1
      clear hx1 hb1 hf1 hn1 hs1;clear hc0 hc1 hc2 hc3 hc4 ht0 ht1 ht2 ht3 ht4 hll0;go_wp2_with fail;refine (HTX.out _ (HL.out.below HB1.out).base).mono ?_;rintro e w2 ⟨rfl,hb2⟩;have hBb2:Bb≤w2.heap.size:=Nat.le_trans hBb1 hb2.size;have hn2:=HN1.out.below hb2 HN1.out.lt;have hs2:=HS1.out.below hb2 HS1.out.lt;have HB2':Hid (Below Bb w w2):=HB1'.out.trans (hb2.mono hBb1);have HB2:Hid (Below w0.heap.size w0 w2):=bstep HB1.out hb2;have HF2:Hid (BF b w w2):=HF1.out.trans (BF.of_below hb2);have HX2:Hid (Lib.BuilderAt 66 5 Bb b (.pointer (some ⟨b,0,none⟩)) (bs++lc (wd.data.toList++nm.data.toList)) w2):=bld_below HX1.out hb2;have HN2:=Lib.hid hn2;have HS2:=Lib.hid hs2;clear hcn hcs hn2 hs2 hb2 HB1 HB1' HF1 HX1 HN1 HS1;go_wp2_with fail
      refine (wrs_bf Bb b (bs++lc (wd.data.toList++nm.data.toList)) _ _ (.inr HX2.out) (by
       have e1:(((⟨#[91]⟩:ByteArray)++tx)++(⟨#[93]⟩:ByteArray)).size=1+tx.size+1:=by rw[ByteArray.size_append,ByteArray.size_append];rfl
       rw[e1,List.length_append,lc_len,List.length_append];have:=ba_size wd;have:=ba_size nm;omega) hBb2).mono ?_
      rintro e w3 ⟨rfl,hx3,hb3,hf3⟩;have hBb3:Bb≤w3.heap.size:=Nat.le_trans hBb2 hb3.size;have hn3:=hf3.blk HN2.out (by decide) hnb0;have hs3:=hf3.blk HS2.out (by decide) hnb1;have hcn:=hn3.cells;have hcs:=hs3.cells;have HB3':Hid (Below Bb w w3):=HB2'.out.trans hb3;have HB3:Hid (Below w0.heap.size w0 w3):=HB2.out.trans (hb3.mono hB);have HF3:Hid (BF b w w3):=HF2.out.trans hf3;have HN3:=Lib.hid hn3;have HS3:=Lib.hid hs3;have HX3:Hid (Lib.BuilderAt 66 5 Bb b (.pointer (some ⟨b,0,none⟩)) (bs++lc ((wd.data.toList++nm.data.toList)++([91]++tx.data.toList++[93]))) w3):=by show Lib.BuilderAt _ _ _ _ _ _ _;rw[ba_app,ba_app] at hx3;rw[lc_app,←List.append_assoc];exact hx3
      clear hx3 hb3 hf3 hn3 hs3;have hr9:=H9.out _ HB3.out;go_wp2;clear hcn hcs
      go_loopg [65] cs.length (fun g iv wr=>∃i,i+g=cs.length∧iv=.int .i64 (i:Int)∧Hid (Lib.BuilderAt 66 5 Bb b (.pointer (some ⟨b,0,none⟩)) (bs++lc ((wd.data.toList++nm.data.toList)++([91]++tx.data.toList++[93])++sepT 0 (cs.take i))) wr)∧Hid (Below Bb w wr∧BF b w wr∧BF b w3 wr)∧Below w0.heap.size w0 wr)
      case atStart=>
       refine⟨0,by omega,rfl,?_,⟨HB3'.out,HF3.out,BF.refl _ _⟩,HB3.out⟩;show Lib.BuilderAt _ _ _ _ _ _ _;rw[List.take_zero,sepT,List.append_nil];exact HX3.out
      case round=>
       obtain⟨i,hi,rfl,hxr,hfr,hbr⟩:=hrel;clear hr9;have hBr:Bb≤wr.heap.size:=Nat.le_trans hBw hfr.out.1.size;have hnr:=hfr.out.2.2.blk HN3.out (by decide) hnb0;have hsr:=hfr.out.2.2.blk HS3.out (by decide) hnb1;by_cases hlt:i<cs.length
       ·have hrt:i<(I (roots o cs)).length:=by rw[I_length,roots_length];exact hlt
        obtain⟨b3,off3,rfl,hb3,hcc⟩:=(HR9.out.below hbr).at_ hrt;have hcell:=hcc i hrt;rw[I_get] at hcell;have hih:=Lib.hid (HIH.out i hlt);have HSTi:=Lib.hid (HST.out i hlt);generalize (roots o cs).getD i 0=rt at*;clear hcc hb3 hrt
        have HQ1:Hid ((bs++lc ((wd.data.toList++nm.data.toList)++([91]++tx.data.toList++[93])++sepT 0 (cs.take i))).length+2+7000002*(cs.getD i []).length≤1000000000000):=by
         show _≤_;rw[List.length_append,lc_len];have h1:=HDL.out;have h2:=HSL.out i;have h3:=HFT.out i hlt;have h4:=HLEN.out;simp only[List.length_append] at h1 h2⊢;omega
        have hq1:(bs++lc ((wd.data.toList++nm.data.toList)++([91]++tx.data.toList++[93])++sepT 0 (cs.take i))).length≤1000000000000:=by have:=HQ1.out;omega
        by_cases hi0:i=0
        ·have HC:=Lib.hid (fun (w':World) h1 h2 h3 h4=>hih.out (bs++lc (((wd.data.toList++nm.data.toList)++([91]++tx.data.toList++[93])++sepT 0 (cs.take i))++sepW i)) w' h1 h2 h3 h4);have hsw:sepW i=[40]:=by rw[hi0];rfl
         have HSW:=Lib.hid hsw;have ei:((i:Int)==0)=true:=by rw[hi0];rfl
         clear hih hq1 hsw hi0;go_wp2_with fail;refine (wrs_bf Bb b _ _ _ (.inr hxr.out) (by have h0:=HQ1.out;have:(⟨#[40]⟩:ByteArray).size=1:=rfl;omega) hBr).mono ?_;rintro e wa ⟨rfl,hxa,hba,hfa⟩;go_wp2_with fail;refine (HC.out _ (hbr.trans (hba.mono hB)) (Nat.le_trans hBr hba.size) (.inr (by rw[lc_app,HSW.out,←List.append_assoc];exact hxa)) (by rw[lc_app,←List.append_assoc,List.length_append,lc_len,HSW.out];have:=HQ1.out;simp only[List.length_cons,List.length_nil];omega)).mono ?_;rintro e wb ⟨rfl,hxb,hbb,hfb⟩
         have HXb:Hid (Lib.BuilderAt 66 5 Bb b (.pointer (some ⟨b,0,none⟩)) (bs++lc ((wd.data.toList++nm.data.toList)++([91]++tx.data.toList++[93])++sepT 0 (cs.take (i+1)))) wb):=by
          show Lib.BuilderAt _ _ _ _ _ _ _;rw[HSTi.out,←List.append_assoc,←List.append_assoc,lc_app,←List.append_assoc];exact hxb
         have HFb:Hid (Below Bb w wb∧BF b w wb∧BF b w3 wb):=⟨(hfr.out.1.trans hba).trans hbb,(hfr.out.2.1.trans hfa).trans hfb,(hfr.out.2.2.trans hfa).trans hfb⟩
         have HBb:Hid (Below w0.heap.size w0 wb):=(hbr.trans (hba.mono hB)).trans (hbb.mono hB);clear hxa hba hfa hxb hbb hfb hxr hfr hbr hnr hsr;go_wp2
         go_roundg (cs.length-(i+1))
         case measure=>omega
         case rel=>exact⟨i+1,by omega,by go_num,HXb,HFb,HBb.out⟩
        ·have HC:=Lib.hid (fun (w':World) h1 h2 h3 h4=>hih.out (bs++lc (((wd.data.toList++nm.data.toList)++([91]++tx.data.toList++[93])++sepT 0 (cs.take i))++sepW i)) w' h1 h2 h3 h4);have hsw:sepW i=[44,32]:=by unfold sepW;rw[if_neg hi0]
         have HSW:=Lib.hid hsw;have ei:((i:Int)==0)=false:=by rw[beq_eq_false_iff_ne];omega
         clear hih hq1 hsw hi0;go_wp2_with fail;refine (wrs_bf Bb b _ _ _ (.inr hxr.out) (by have h0:=HQ1.out;have:(⟨#[44,32]⟩:ByteArray).size=2:=rfl;omega) hBr).mono ?_;rintro e wa ⟨rfl,hxa,hba,hfa⟩;go_wp2_with fail;refine (HC.out _ (hbr.trans (hba.mono hB)) (Nat.le_trans hBr hba.size) (.inr (by rw[lc_app,HSW.out,←List.append_assoc];exact hxa)) (by rw[lc_app,←List.append_assoc,List.length_append,lc_len,HSW.out];have:=HQ1.out;simp only[List.length_cons,List.length_nil];omega)).mono ?_;rintro e wb ⟨rfl,hxb,hbb,hfb⟩
         have HXb:Hid (Lib.BuilderAt 66 5 Bb b (.pointer (some ⟨b,0,none⟩)) (bs++lc ((wd.data.toList++nm.data.toList)++([91]++tx.data.toList++[93])++sepT 0 (cs.take (i+1)))) wb):=by
          show Lib.BuilderAt _ _ _ _ _ _ _;rw[HSTi.out,←List.append_assoc,←List.append_assoc,lc_app,←List.append_assoc];exact hxb
         have HFb:Hid (Below Bb w wb∧BF b w wb∧BF b w3 wb):=⟨(hfr.out.1.trans hba).trans hbb,(hfr.out.2.1.trans hfa).trans hfb,(hfr.out.2.2.trans hfa).trans hfb⟩
         have HBb:Hid (Below w0.heap.size w0 wb):=(hbr.trans (hba.mono hB)).trans (hbb.mono hB);clear hxa hba hfa hxb hbb hfb hxr hfr hbr hnr hsr;go_wp2
         go_roundg (cs.length-(i+1))
         case measure=>omega
         case rel=>exact⟨i+1,by omega,by go_num,HXb,HFb,HBb.out⟩
       ·have hie:i=cs.length:=by omega
        subst hie;have hcs:=hsr.cells
        have HXE:Hid (Lib.BuilderAt 66 5 Bb b (.pointer (some ⟨b,0,none⟩)) (bs++lc ((wd.data.toList++nm.data.toList)++([91]++tx.data.toList++[93])++sepT 0 cs)) wr):=by
         have:=hxr.out;rw[List.take_length] at this;exact this
        have hx1:decide ((cs.length:Int)<cs.length)=false:=decide_eq_false (by omega);clear hnr hsr hxr HIH HSL HFT HST;by_cases ho:cs.length=0
        ·go_wp2;go_end0;refine⟨rfl,?_,hfr.out.1,hfr.out.2.1⟩;rw[HT.out,HD2.out,if_pos ho,List.append_nil];exact HXE.out
        ·have hop:0<cs.length:=by omega
         go_wp2_with fail
         refine (wrs_bf Bb b _ _ _ (.inr HXE.out) (by
          rw[List.length_append,lc_len];have h1:=HDL.out;have h2:=HSLW.out;have h3:=HLEN.out;simp only[List.length_append] at h1⊢;have:(⟨#[41]⟩:ByteArray).size=1:=rfl;omega) hBr).mono ?_
         rintro e wz ⟨rfl,hxz,hbz,hfz⟩;go_wp2;go_end0;refine⟨rfl,?_,hfr.out.1.trans hbz,hfr.out.2.1.trans hfz⟩;rw[HT.out,HD2.out,if_neg ho,←List.append_assoc,lc_app,←List.append_assoc];exact hxz
     ·obtain rfl:lit=false:=by rw[hways];exact decide_eq_false h1
      obtain rfl:stp=false:=by rw[hways2];exact decide_eq_false h3
      have e2:((q:Int)==2)=false:=by rw[beq_eq_false_iff_ne];exact h2
      have HD2:Hid (HDT=(wd.data.toList++nm.data.toList)):=by show _=_;rw[HD.out];simp[h2]
      have HDL:Hid (((wd.data.toList++nm.data.toList)).length≤7000000):=by
       show _≤_;have:=ba_size tx;have:=ba_size nm;simp only[List.length_append,List.length_cons,List.length_nil]
       omega
      clear hways hways2 hops2 HTR HHD HD h2 hfn hr1;obtain⟨W,hW⟩:∃W,W=(w.alloc (.cells #[.int .i64 (q:Int),.bool neg,.string num,.string den,.string nm] 56)).alloc (.cells #[.string wd,.int .i64 (cs.length:Int),.bool false,.bool nam,.bool false] 86):=⟨_,rfl⟩
      have htwo:=Two.new w 56 86 #[.int .i64 (q:Int),.bool neg,.string num,.string den,.string nm] #[.string wd,.int .i64 (cs.length:Int),.bool false,.bool nam,.bool false];rw[←hW] at htwo;obtain⟨hk0,hk1,hba,hsz⟩:=htwo;obtain⟨B,hB⟩:∃B,B=w.heap.size:=⟨_,rfl⟩
      have HB:=Lib.hid hB;rw[←hB] at hba hsz hk0 hk1;have hbaw:Below w.heap.size w W:=by rw[←HB.out];exact hba
      have hbW:Below w0.heap.size w0 W:=bstep hbw hbaw;have hibW:=isb_below hib hbaw;have HBW:Hid (Below Bb w W):=hbaw.mono hBw;have HFW:Hid (BF b w W):=BF.of_below hbaw;have hBW:Bb≤W.heap.size:=Nat.le_trans hBw hbaw.size;have hnb0:B≠b:=by rw[HB.out];omega
      have hnb1:B+1≠b:=by rw[HB.out];omega
      have HN0:=Lib.hid hk0;have HS0:=Lib.hid hk1;have HIB:=Lib.hid hibW;have HB0:=Lib.hid hbW;clear hba hbaw hk0 hk1 hib hbw hibW hbW;go_enter Tryz.func83,Tryz.ntmps83;go_wp2_with fail;simp only[←hW,←hB]
      clear hW hB;refine (wrs_bf Bb b bs _ _ (HIB.out) (by rw[ByteArray.size_append];omega) hBW).mono ?_;rintro e w1 ⟨rfl,hx1,hb1,hf1⟩;have hBb1:Bb≤w1.heap.size:=Nat.le_trans hBW hb1.size;have hn1:=hf1.blk HN0.out (by decide) hnb0;have hs1:=hf1.blk HS0.out (by decide) hnb1;have hcn:=hn1.cells;have hcs:=hs1.cells;have HB1':Hid (Below Bb w w1):=HBW.out.trans hb1;have HB1:Hid (Below w0.heap.size w0 w1):=HB0.out.trans (hb1.mono hB);have HF1:Hid (BF b w w1):=HFW.out.trans hf1;have HN1:=Lib.hid hn1;have HS1:=Lib.hid hs1;have HX1:Hid (Lib.BuilderAt 66 5 Bb b (.pointer (some ⟨b,0,none⟩)) (bs++lc (wd.data.toList++nm.data.toList)) w1):=by show Lib.BuilderAt _ _ _ _ _ _ _;rw[←ba_app];exact hx1
      clear hx1 hb1 hf1 hn1 hs1;clear hc0 hc1 hc2 hc3 hc4 ht0 ht1 ht2 ht3 ht4 hll0;have hr9:=H9.out _ HB1.out;go_wp2;clear hcn hcs
      go_loopg [65] cs.length (fun g iv wr=>∃i,i+g=cs.length∧iv=.int .i64 (i:Int)∧Hid (Lib.BuilderAt 66 5 Bb b (.pointer (some ⟨b,0,none⟩)) (bs++lc ((wd.data.toList++nm.data.toList)++sepT 0 (cs.take i))) wr)∧Hid (Below Bb w wr∧BF b w wr∧BF b w1 wr)∧Below w0.heap.size w0 wr)
      case atStart=>
       refine⟨0,by omega,rfl,?_,⟨HB1'.out,HF1.out,BF.refl _ _⟩,HB1.out⟩;show Lib.BuilderAt _ _ _ _ _ _ _;rw[List.take_zero,sepT,List.append_nil];exact HX1.out
      case round=>
       obtain⟨i,hi,rfl,hxr,hfr,hbr⟩:=hrel;clear hr9;have hBr:Bb≤wr.heap.size:=Nat.le_trans hBw hfr.out.1.size;have hnr:=hfr.out.2.2.blk HN1.out (by decide) hnb0;have hsr:=hfr.out.2.2.blk HS1.out (by decide) hnb1;by_cases hlt:i<cs.length
       ·have hrt:i<(I (roots o cs)).length:=by rw[I_length,roots_length];exact hlt
        obtain⟨b3,off3,rfl,hb3,hcc⟩:=(HR9.out.below hbr).at_ hrt;have hcell:=hcc i hrt;rw[I_get] at hcell;have hih:=Lib.hid (HIH.out i hlt);have HSTi:=Lib.hid (HST.out i hlt);generalize (roots o cs).getD i 0=rt at*;clear hcc hb3 hrt
        have HQ1:Hid ((bs++lc ((wd.data.toList++nm.data.toList)++sepT 0 (cs.take i))).length+2+7000002*(cs.getD i []).length≤1000000000000):=by
         show _≤_;rw[List.length_append,lc_len];have h1:=HDL.out;have h2:=HSL.out i;have h3:=HFT.out i hlt;have h4:=HLEN.out;simp only[List.length_append] at h1 h2⊢;omega
        have hq1:(bs++lc ((wd.data.toList++nm.data.toList)++sepT 0 (cs.take i))).length≤1000000000000:=by have:=HQ1.out;omega
        by_cases hi0:i=0
        ·have HC:=Lib.hid (fun (w':World) h1 h2 h3 h4=>hih.out (bs++lc (((wd.data.toList++nm.data.toList)++sepT 0 (cs.take i))++sepW i)) w' h1 h2 h3 h4);have hsw:sepW i=[40]:=by rw[hi0];rfl
         have HSW:=Lib.hid hsw;have ei:((i:Int)==0)=true:=by rw[hi0];rfl
         clear hih hq1 hsw hi0;go_wp2_with fail;refine (wrs_bf Bb b _ _ _ (.inr hxr.out) (by have h0:=HQ1.out;have:(⟨#[40]⟩:ByteArray).size=1:=rfl;omega) hBr).mono ?_;rintro e wa ⟨rfl,hxa,hba,hfa⟩;go_wp2_with fail;refine (HC.out _ (hbr.trans (hba.mono hB)) (Nat.le_trans hBr hba.size) (.inr (by rw[lc_app,HSW.out,←List.append_assoc];exact hxa)) (by rw[lc_app,←List.append_assoc,List.length_append,lc_len,HSW.out];have:=HQ1.out;simp only[List.length_cons,List.length_nil];omega)).mono ?_;rintro e wb ⟨rfl,hxb,hbb,hfb⟩
         have HXb:Hid (Lib.BuilderAt 66 5 Bb b (.pointer (some ⟨b,0,none⟩)) (bs++lc ((wd.data.toList++nm.data.toList)++sepT 0 (cs.take (i+1)))) wb):=by
          show Lib.BuilderAt _ _ _ _ _ _ _;rw[HSTi.out,←List.append_assoc,←List.append_assoc,lc_app,←List.append_assoc];exact hxb
         have HFb:Hid (Below Bb w wb∧BF b w wb∧BF b w1 wb):=⟨(hfr.out.1.trans hba).trans hbb,(hfr.out.2.1.trans hfa).trans hfb,(hfr.out.2.2.trans hfa).trans hfb⟩
         have HBb:Hid (Below w0.heap.size w0 wb):=(hbr.trans (hba.mono hB)).trans (hbb.mono hB);clear hxa hba hfa hxb hbb hfb hxr hfr hbr hnr hsr;go_wp2
         go_roundg (cs.length-(i+1))
         case measure=>omega
         case rel=>exact⟨i+1,by omega,by go_num,HXb,HFb,HBb.out⟩
        ·have HC:=Lib.hid (fun (w':World) h1 h2 h3 h4=>hih.out (bs++lc (((wd.data.toList++nm.data.toList)++sepT 0 (cs.take i))++sepW i)) w' h1 h2 h3 h4);have hsw:sepW i=[44,32]:=by unfold sepW;rw[if_neg hi0]
         have HSW:=Lib.hid hsw;have ei:((i:Int)==0)=false:=by rw[beq_eq_false_iff_ne];omega
         clear hih hq1 hsw hi0;go_wp2_with fail;refine (wrs_bf Bb b _ _ _ (.inr hxr.out) (by have h0:=HQ1.out;have:(⟨#[44,32]⟩:ByteArray).size=2:=rfl;omega) hBr).mono ?_;rintro e wa ⟨rfl,hxa,hba,hfa⟩;go_wp2_with fail;refine (HC.out _ (hbr.trans (hba.mono hB)) (Nat.le_trans hBr hba.size) (.inr (by rw[lc_app,HSW.out,←List.append_assoc];exact hxa)) (by rw[lc_app,←List.append_assoc,List.length_append,lc_len,HSW.out];have:=HQ1.out;simp only[List.length_cons,List.length_nil];omega)).mono ?_;rintro e wb ⟨rfl,hxb,hbb,hfb⟩
         have HXb:Hid (Lib.BuilderAt 66 5 Bb b (.pointer (some ⟨b,0,none⟩)) (bs++lc ((wd.data.toList++nm.data.toList)++sepT 0 (cs.take (i+1)))) wb):=by
          show Lib.BuilderAt _ _ _ _ _ _ _;rw[HSTi.out,←List.append_assoc,←List.append_assoc,lc_app,←List.append_assoc];exact hxb
         have HFb:Hid (Below Bb w wb∧BF b w wb∧BF b w1 wb):=⟨(hfr.out.1.trans hba).trans hbb,(hfr.out.2.1.trans hfa).trans hfb,(hfr.out.2.2.trans hfa).trans hfb⟩
         have HBb:Hid (Below w0.heap.size w0 wb):=(hbr.trans (hba.mono hB)).trans (hbb.mono hB);clear hxa hba hfa hxb hbb hfb hxr hfr hbr hnr hsr;go_wp2
         go_roundg (cs.length-(i+1))
         case measure=>omega
         case rel=>exact⟨i+1,by omega,by go_num,HXb,HFb,HBb.out⟩
       ·have hie:i=cs.length:=by omega
        subst hie;have hcs:=hsr.cells
        have HXE:Hid (Lib.BuilderAt 66 5 Bb b (.pointer (some ⟨b,0,none⟩)) (bs++lc ((wd.data.toList++nm.data.toList)++sepT 0 cs)) wr):=by
         have:=hxr.out;rw[List.take_length] at this;exact this
        have hx1:decide ((cs.length:Int)<cs.length)=false:=decide_eq_false (by omega);clear hnr hsr hxr HIH HSL HFT HST;by_cases ho:cs.length=0
        ·go_wp2;go_end0;refine⟨rfl,?_,hfr.out.1,hfr.out.2.1⟩;rw[HT.out,HD2.out,if_pos ho,List.append_nil];exact HXE.out
        ·have hop:0<cs.length:=by omega
         go_wp2_with fail
         refine (wrs_bf Bb b _ _ _ (.inr HXE.out) (by
          rw[List.length_append,lc_len];have h1:=HDL.out;have h2:=HSLW.out;have h3:=HLEN.out;simp only[List.length_append] at h1⊢;have:(⟨#[41]⟩:ByteArray).size=1:=rfl;omega) hBr).mono ?_
         rintro e wz ⟨rfl,hxz,hbz,hfz⟩;go_wp2;go_end0;refine⟨rfl,?_,hfr.out.1.trans hbz,hfr.out.2.1.trans hfz⟩;rw[HT.out,HD2.out,if_neg ho,←List.append_assoc,lc_app,←List.append_assoc];exact hxz
theorem ex_pos {k:Nat} {e:List Nd} (h:Ex k e):0<e.length:=by
 cases k with
 |zero=>exact h.elim
 |succ k=>
  obtain⟨cs,n,rfl,_⟩:=h;simp
theorem write_all (es:List Nd) (A1 A2:Option Addr) (l1 c1 l2 c2 B:Nat) (w2 W3:World) (hL:LaidE w2) (h1:Es w2 es A1 l1 c1) (hf:∀n∈es,Fine n) (h2:ArgsAt w2 (argsE es) A2 l2 c2) (hz:checkE es=0)
  (hB:w2.heap.size=B) (hb:Below w2.heap.size w2 W3) (hs:B≤W3.heap.size) (hib:Lib.IsBuilder 66 5 B B [] W3) (i:Int) (hi:i=(l1:Int)-1):
  Calls Tryz.prog 83 #[.pointer (some ⟨B,0,none⟩),.slice A1 l1 c1,.slice A2 l2 c2,.int .i64 i] W3 fun e w'=>e=.returned (.tuple #[])∧
    (Lib.BuilderAt 66 5 B B (.pointer (some ⟨B,0,none⟩)) (lc (textE es)) w'∧Below B W3 w'):=by
 have hk:=((checkE_iff es).1 hz).1;have hl:=h1.len;have hEx:=checkE_ex hz;have hpos:=ex_pos hEx;have h60:l1≤60:=by omega
 have hlen:([]:List Value).length+7000002*es.length≤1000000000000:=by rw[List.length_nil];omega
 have hle:w2.heap.size≤B:=Nat.le_of_eq hB;have h:=write_any es (argsE es) A1 A2 l1 c1 l2 c2 B B w2 hL h1 hf h2 hle h60 (runA_length _ _ _) 61 es hEx 0 Sub.whole [] W3 hb hs hib hlen;have hi2:((0+es.length-1:Nat):Int)=i:=by omega
 rw[hi2,List.nil_append] at h;exact h.mono (fun e w' h=>⟨h.1,h.2.1,h.2.2.1⟩)
set_option maxRecDepth 100000 in
set_option maxHeartbeats 3200000 in
theorem eText_any (es:List Nd) (A1:Option Addr) (l1 c1:Nat) (w:World) (hL:LaidE w) (h1:Es w es A1 l1 c1) (hf1:∀n∈es,Fine n):
  Calls Tryz.prog 42 #[.slice A1 l1 c1] w (RetText es w):=by
 obtain rfl:=h1.len;have HC:=Lib.hid (check_any es A1 es.length c1 w hL h1.len h1.cap h1.max h1.rd hf1);have H1:=Lib.hid h1;have HL:=Lib.hid hL;have HF:=Lib.hid hf1;by_cases hz:checkE es=0
 ·have hk:=((checkE_iff es).1 hz).1;have HZ:=Lib.hid hz
  have HA:Hid (∀W,LaidE W→Es W es A1 es.length c1→Calls Tryz.prog 82 #[.slice A1 es.length c1] W (RetArgs true (argsE es) W)):=fun W hL h=>by
   have:=eArgs_any es A1 es.length c1 W hL h hf1;rw[hz] at this;exact this
  have HRT:Hid (∀w',Below w.heap.size w w'→RetText es w (.returned (.tuple #[.string ⟨(textE es).toArray⟩,.int .i64 0])) w'):=fun w' hb=>⟨by rw[if_pos hz,hz],hb⟩
  rw[hz] at HC;clear hz h1 hf1 hL;go_enter Tryz.func42,Tryz.ntmps42;go_wp2_with fail;refine HC.out.mono ?_;rintro e w1 ⟨rfl,hb1⟩;go_wp2_with fail;refine (HA.out _ (HL.out.below hb1) (H1.out.below hb1)).mono ?_;rintro e w2 ⟨A2,l2,c2,rfl,hag,hb2⟩;have hB2:=bstep hb1 hb2;have hib:=Lib.fresh_isBuilder 66 5 w2;have hwr:=write_all es A1 A2 es.length c1 l2 c2 w2.heap.size w2 _ (HL.out.below hB2) (H1.out.below hB2) HF.out hag HZ.out rfl ((Below.refl _ _).alloc (Nat.le_refl _) (.cells #[.pointer none,.slice none 0 0] 66)) (by rw[World.size_alloc];omega) hib ((es.length:Int)-1) rfl;have HWR:=Lib.hid hwr;have HB2:=Lib.hid hB2;clear hag hib hwr hb1 hb2 hB2;go_wp2_with fail;refine HWR.out.mono ?_;rintro e w3 ⟨rfl,hx,hb3⟩;have hs3:w2.heap.size≤w3.heap.size:=by have:=hb3.size;rw[World.size_alloc] at this;omega
  have HST:=Lib.hid (Tryz.Builder_String_any w2.heap.size w2.heap.size (textE es) w3 (.inr hx) hs3);have HB3:Hid (Below w.heap.size w w3):=HB2.out.trans ((((Below.refl _ _).alloc (Nat.le_refl _) _).trans hb3).mono HB2.out.size);clear hx hb3 HWR;go_wp2_with fail;refine HST.out.mono ?_;rintro e w4 ⟨rfl,hb4⟩;go_wp2;go_ret2;exact HRT.out _ (HB3.out.trans (hb4.mono HB2.out.size))
 ·obtain⟨zz,hzz⟩:∃zz,checkE es=zz:=⟨_,rfl⟩
  have HRT:Hid (∀w',Below w.heap.size w w'→RetText es w (.returned (.tuple #[.string ⟨#[]⟩,.int .i64 zz])) w'):=fun w' hb=>⟨by rw[if_neg hz,hzz],hb⟩
  rw[hzz] at hz HC;have e1:(zz !=0)=true:=by simp[hz]
  clear hz h1 hf1 hzz hL;go_enter Tryz.func42,Tryz.ntmps42;go_wp2_with fail;refine HC.out.mono ?_;rintro e w1 ⟨rfl,hb1⟩;go_wp2;go_ret2;exact HRT.out _ hb1
end Go.Proofs.YtfajelpcfnfjkaaGreatDoor
