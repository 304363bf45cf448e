/- A part of the proof: Ez EB EA Lr Ls Lt Lx Lg Le. -/
import Derived.RangeFuncBox
import Derived.Maps.AppendAt
import Derived.Shelf.SlSortFuncK.RowK2
import Derived.Test.YtbicehdehiakgaaGreatDoorG18
import Derived.Test.YtbicehdehiakgaaGreatDoorG25
import Derived.Test.YtbicehdehiakgaaGreatDoorG26
import Derived.Test.YtbicehdehiakgaaGreatDoorG27
import Derived.Test.YtbicehdehiakgaaGreatDoorG28
import Derived.Test.YtbicehdehiakgaaGreatDoorG33
import Derived.Test.YtbicehdehiakgaaGreatDoorG34
import Derived.Test.YtbicehdehiakgaaGreatDoorG35
import Derived.Test.YtbicehdehiakgaaGreatDoorG36
set_option linter.unusedVariables false
set_option linter.unusedSimpArgs false
namespace Go.Proofs.YtbicehdehiakgaaGreatDoor
open Go.RowKit
set_option maxHeartbeats 800000 in
theorem compactN_short (A:Option Addr) (n c:Nat) (hn:n<2) (w:World):
  Calls Tryz.prog 64 #[.slice A n c] w fun e w'=>e=.returned (.slice A n c)∧w'=w:=by
 have h2:(n:Int)<2:=by omega
 go_enter Tryz.func64,Tryz.ntmps64;go_wp2;go_ret;exact⟨rfl,rfl⟩
open Go.Sort in
theorem holds_own {α:Type} [Inhabited α] (enc:α→List Value) (hk:∀x,(enc x).length=5) (ks:List α) {w:World} {base g n cap:Nat} {e:TypeId}
  (h:w.ownsRow base e 5 (.slice (some ⟨g,0,none⟩) n cap) n (ks.flatMap enc)) (hn:n=ks.length):HoldsK enc 5 w g 0 ks.toArray:=by
 subst hn;rcases h.2 with⟨hv,_⟩|⟨g',cap',cur,hv,_,hh,_,_,hs,ht⟩
 ·cases hv
 ·injection hv with e1 e2 e3;injection e1 with e1;injection e1 with e1;subst e1;intro i hi;rw[size_flatK] at hi;have hi':i<ks.length*5:=by simpa using hi
  rw[get_flatK _ _ _ _ hi,Nat.zero_add];have h1:=flatMap_get enc 5 hk ks (i / 5) (i % 5) (Nat.mod_lt _ (by omega));rw[show i / 5*5+i % 5=i from by omega] at h1;have hq:i / 5<ks.length:=by omega
  rw[List.getElem?_eq_getElem hq] at h1;simp only[Option.bind_some] at h1;have hm:i % 5<(enc ks[i / 5]).length:=by rw[hk];exact Nat.mod_lt _ (by omega)
  rw[←ht,List.getElem?_take_of_lt hi',List.getElem?_eq_getElem hm] at h1;have hd:ks.toArray[i / 5]! =ks[i / 5]:=by rw[getElem!_pos ks.toArray (i / 5) (by simpa using hq)];simp
  refine⟨?_,?_⟩
  ·rw[hd,getElem!_pos (enc ks[i / 5]) (i % 5) hm];simp only[World.cell?,hh]
   simpa using h1
  ·simp[World.frozen?,hh]
def kN (k:Int × ByteArray):Nd:=⟨k.1,zR,k.2⟩
def kCf (x y:Int × ByteArray):Int:=ordN (kN x) (kN y)
theorem kLt (x y:Int × ByteArray):ltOf kCf x y=befN (kN x) (kN y):=by
 unfold ltOf kCf;rw[Bool.eq_iff_iff,decide_eq_true_iff];exact ord_neg _ _
theorem kN_tri {x y:Int × ByteArray} (h1:¬befN (kN x) (kN y)=true) (h2:¬befN (kN y) (kN x)=true):x=y:=by
 obtain⟨e1,e2⟩:=bef_tri h1 h2;exact Prod.ext e1 e2
theorem key_swo:Go.Sort.SWO (ltOf kCf) where
 irrefl x:=by rw[kLt];exact bef_irrefl _
 trans x y z h1 h2:=by rw[kLt] at*;exact bef_trans h1 h2
 ntrans x y z h1 h2:=by
  rw[kLt] at*;cases h:befN (kN x) (kN z)
  ·rfl
  ·cases hyx:befN (kN y) (kN x)
   ·have:=kN_tri (x:=x) (y:=y) (by rw[h1];simp) (by rw[hyx];simp);subst this;rw[h] at h2;cases h2
   ·have:=bef_trans hyx h;rw[this] at h2;cases h2
def keys (e:List Nd):List (Int × ByteArray):=(nmd e).map fun n=>(n.op,n.name)
theorem keys_nd {e:List Nd} (h:∀n∈e,wrongN n=0):(keys e).map kN=nmd e:=by
 unfold keys;rw[List.map_map]
 have:∀n∈nmd e,(kN ∘ fun n:Nd=>(n.op,n.name)) n=n:=fun n hn=>by
  have hz:=nmd_zr h n hn;obtain⟨a,b,c⟩:=n;simp only at hz;subst hz;rfl
 rw[List.map_congr_left this,List.map_id']
theorem keys_cells {e:List Nd} (h:∀n∈e,wrongN n=0):nds (nmd e)=(keys e).flatMap fun k=>(kN k).cells:=by
 rw[←keys_nd h];unfold nds;rw[List.flatMap_map]
abbrev kEnc (k:Int × ByteArray):List Value:=(kN k).cells
open Go.Sort Go.Shelf in
theorem sortN_at (ks:List (Int × ByteArray)) (g cap:Nat) (w:World) (hH:HoldsK kEnc 5 w g 0 ks.toArray) (hblk:g<w.heap.size) (hn:ks.length≤60):
  Calls Tryz.prog 59 #[.slice (some ⟨g,0,none⟩) ks.length cap,.func (.func 60) #[] #[]] w fun e w'=>
   e=.returned (.tuple #[])∧∃d' n os,PermIn 0 ks.length ks.toArray d'∧SortedIn (ltOf kCf) 0 ks.length d'∧w'=sortWorldK kEnc 5 w g 0 n d' os:=by
 have eg:∀args w,(callFunc 60 args).run Tryz.prog w=.ok (.enter 60 args) w:=enters_of Tryz.func60 (by kernel_rfl) rfl
 have h:=AnyQ.slices_SortFunc Tryz.sortN 5 Tryz.isAgg33 Tryz.sizeOf33 kEnc (fun _=>rfl) (fun x v hv=>nds_one [kN x] v (by simpa [nds] using hv)) kCf key_swo 60 #[] g 0 cap ks.toArray w eg
  (fun m os dk _ x y=>ordN_gr (kN x) (kN y) _) hH hblk (by simp;omega)
 exact h
open Go.Sort in
theorem sort_onl (w:World) (g n:Nat) (d:Array (Int × ByteArray)) (os:Array Obj):Onl g w (sortWorldK kEnc 5 w g 0 n d os):=by
 refine⟨rfl,rfl,rfl,?_,fun k hk hne=>?_⟩
 ·unfold sortWorldK grow;rw[Array.size_append];have:=size_putRowK (w:=Sort.ahead w n) kEnc 5 g 0 d;rw[this];show w.heap.size≤w.heap.size+_;omega
 ·unfold sortWorldK grow;have hs:(putRowK kEnc 5 (Sort.ahead w n) g 0 d).heap.size=w.heap.size:=size_putRowK kEnc 5 _ _ _ _;show ((putRowK kEnc 5 (Sort.ahead w n) g 0 d).heap++os)[k]?=_;rw[Array.getElem?_append_left (by rw[hs];exact hk)];unfold putRowK putRow mapBlock;simp[Array.getElem?_modify,Ne.symm hne,Sort.ahead]
open Go.Sort in
theorem sorted_refs {e:List Nd} (h:checkE e=0) {d':Array (Int × ByteArray)} (hp:PermIn 0 (keys e).length (keys e).toArray d') (hs:SortedIn (ltOf kCf) 0 (keys e).length d'):dd (d'.toList.map kN)=refsE e:=by
 obtain⟨hsz,_,hperm⟩:=hp;have hsz':d'.size=(keys e).length:=by simpa using hsz
 have e1:d'.extract 0 (keys e).length=d':=by rw[←hsz'];exact Array.extract_size
 have e2:(keys e).toArray.extract 0 (keys e).length=(keys e).toArray:=by
  simp
 rw[e1,e2] at hperm
 have hperm2:(d'.toList.map kN).Perm (nmd e):=by
  rw[←keys_nd (checkE_wr h)];exact hperm.map kN
 refine refsE_dd h (fun n=>hperm2.mem_iff) ?_;rw[List.pairwise_map,List.pairwise_iff_getElem];intro i j hi hj hij;have hi':i<d'.size:=by simpa using hi
 have hj':j<d'.size:=by simpa using hj
 have h1:=hs i j (Nat.zero_le _) hij (by omega);rw[kLt,getElem!_pos d' j hj',getElem!_pos d' i hi'] at h1;simp only[Array.getElem_toList]
 rw[h1];simp
open Go.Sort in
theorem holds_nodes {w:World} {g:Nat} {d:Array (Int × ByteArray)} (h:HoldsK kEnc 5 w g 0 d):HoldsN w g 0 (d.map kN):=by
 have e:flatK Nd.cells 5 (d.map kN)=flatK kEnc 5 d:=by
  refine ext_get! (by simp) fun t ht=>?_
  have ht':t<d.size*5:=by simpa using ht
  rw[get_flatK _ _ _ _ (by simpa using ht'),get_flatK _ _ _ _ ht'];have hq:t / 5<d.size:=by omega
  rw[getElem!_pos (d.map kN) (t / 5) (by simpa using hq),getElem!_pos d (t / 5) hq];simp
 unfold HoldsN HoldsK;rw[e];exact h
theorem rd_nds {w:World} {g:Nat} (l:List Nd) (hg:g<w.heap.size) (h:∀j (hj:j<l.length),NdAt w g (0+j*5) l[j]):Rd w (some ⟨g,0,none⟩) (nds l):=by
 refine .inr ⟨g,0,rfl,hg,fun i hi=>?_⟩;have hi':i<l.length*5:=by rw[nds_length] at hi;exact hi
 have hq:i / 5<l.length:=by omega
 have hr:i % 5<5:=Nat.mod_lt _ (by omega);have h1:=nds_get l (i / 5) (i % 5) hq hr;rw[show i / 5*5+i % 5=i from by omega,List.getElem?_eq_getElem hi] at h1;obtain⟨n0,n1,n2,n3,n4⟩:=h (i / 5) hq;rw[h1];have hi2:0+i=0+i / 5*5+i % 5:=by omega
 rw[hi2];generalize i % 5=r at*;rcases (by omega:r=0∨r=1∨r=2∨r=3∨r=4) with rfl|rfl|rfl|rfl|rfl
 ·exact n0
 ·exact n1
 ·exact n2
 ·exact n3
 ·exact n4
theorem comp_es {l:List Nd} {g cap:Nat} {w w':World} {e:Ending} (h:CompPost l.toArray g 0 cap w e w') (hg:g<w.heap.size) (hcap:l.length≤cap) (hm:cap≤maxLen):
  e=.returned (.slice (some ⟨g,0,none⟩) (dd l).length cap)∧Es w' (dd l) (some ⟨g,0,none⟩) (dd l).length cap∧Onl g w w':=by
 have hc:Lib.compactUpTo l.toArray l.toArray.size=dd l:=by
  have:=compact_dd l l.length (Nat.le_refl _);rw[List.take_length] at this;simpa using this
 obtain⟨h1,⟨dk,h2⟩,h3⟩:=h;rw[hc] at h1 h2;refine⟨h1,⟨rfl,Nat.le_trans (dd_len l) hcap,hm,rd_nds _ (Nat.lt_of_lt_of_le hg h3.size) (fun j hj=>?_)⟩,h3⟩;obtain⟨h4,h5⟩:=h2 j hj;rw[List.getElem?_eq_getElem hj] at h4;injection h4 with h4;rw[h4];exact h5
set_option maxHeartbeats 800000 in
theorem insN_none (A:Option Addr) (c:Nat) (fv:Value) (w:World):
  Calls Tryz.prog 124 #[.slice A 0 c,.int .i64 0,.int .i64 0,fv] w fun e w'=>e=.returned (.tuple #[])∧w'=w:=by
 go_enter Tryz.func124,Tryz.ntmps124;go_wp2;refine wp_loop_rounds 1 ?_;rw[rounds_succ];go_wp2
 (try simp only[Exit.inBlock,Exit.then])
 first|go_end0|refine bodyPost_ret (results_none rfl _ _ _) rfl ?_
 exact⟨rfl,rfl⟩
set_option maxHeartbeats 1600000 in
theorem pdqN_none (A:Option Addr) (c:Nat) (lim:Int) (fv:Value) (w:World):
  Calls Tryz.prog 97 #[.slice A 0 c,.int .i64 0,.int .i64 0,.int .i64 lim,fv] w fun e w'=>e=.returned (.tuple #[])∧w'=w:=by
 go_enter Tryz.func97,Tryz.ntmps97;go_wp2;refine wp_loop_rounds 1 ?_;rw[rounds_succ];go_wp2_with (go_at_call 124;refine (insN_none A c fv _).mono ?_;(rintro e w' ⟨he,hw⟩;subst he;subst hw))
 (try simp only[Exit.inBlock,Exit.then])
 first|go_end0|refine bodyPost_ret (results_none rfl _ _ _) rfl ?_
 exact⟨rfl,rfl⟩
set_option maxHeartbeats 1600000 in
theorem sortFuncN_none (A:Option Addr) (c:Nat) (fv:Value) (w:World):
  Calls Tryz.prog 59 #[.slice A 0 c,fv] w fun e w'=>e=.returned (.tuple #[])∧w'=w:=by
 go_enter Tryz.func59,Tryz.ntmps59;go_wp2_with (first|(go_at_call 98;refine (Tryz.bits_Len 0 _ (by omega) (by omega)).mono ?_;(rintro e w' ⟨he,hw⟩;subst he;subst hw))|(go_at_call 97;refine (pdqN_none A c _ fv _).mono ?_;(rintro e w' ⟨he,hw⟩;subst he;subst hw)))
 (try simp only[Exit.inBlock,Exit.then])
 first|go_end0|refine bodyPost_ret (results_none rfl _ _ _) rfl ?_
 exact⟨rfl,rfl⟩
end Go.Proofs.YtbicehdehiakgaaGreatDoor
namespace Go.Proofs.YtbicehdehiakgaaGreatDoor
open Go.RowKit Go.Shelf
attribute [local go_sem] Oper.semAt_some
theorem cells_new1 (W:World) (news:List Value) (e:TypeId):∀j u,news[j]?=some u→(W.alloc (.cells news.toArray e)).cell? ((⟨W.heap.size,0,none⟩:Addr).add j)=some u:=by
 intro j u hj;have hb:=Blk.new W e news.toArray;have hj':j<news.length:=(List.getElem?_eq_some_iff.1 hj).1;have:=hb.cell (i:=j) (by simpa using hj');rw[show Addr.add ⟨W.heap.size,0,none⟩ j=⟨W.heap.size,j,none⟩ from by unfold Addr.add;split<;>simp_all,this];rw[←(List.getElem?_eq_some_iff.1 hj).2]
theorem blk_kept1 {X Y:World} {row:Option Nat} {b:Nat} {t:TypeId} {cs:List Value} (h:Blk X b t cs) (hg:X.grownBy Y row) (hr:∀r,row=some r→∃o:Obj,X.heap[r]?=some o∧o.isCells=false):Blk Y b t cs:=
 h.of_block (hg.block b h.lt (fun e=>by
  obtain⟨o,ho,hc⟩:=hr b e.symm;rw[show X.heap[b]?=_ from h] at ho;injection ho with ho;subst ho;cases hc))
set_option maxRecDepth 100000 in
set_option maxHeartbeats 3200000 in
theorem eRefs_in1 (es:List Nd) (A:Option Addr) (c:Nat) (w:World) (hL:LaidE w) (hE:Es w es A es.length c) (hf:∀n∈es,Fine n) (hz:checkE es=0):
  CallsIn Fence.wide 6 Tryz.prog 25 #[.slice A es.length c] w fun e w'=>∃A' n' c',e=.returned (.slice A' n' c')∧Es w' (refsE es) A' n' c'∧Below w.heap.size w w':=by
 have HC:=Lib.hid (fun m=>(callsIn_wide (n:=m)).2 (check_any es A es.length c w hL hE.len hE.cap hE.max hE.rd hf));rw[hz] at HC;have HN:=Lib.hid (fun m W=>(callsIn_wide (n:=m)).2 (named_any A es.length c W));have HL:=Lib.hid hL;have HE:=Lib.hid hE;have HF:=Lib.hid hf;have HZ:=Lib.hid hz;clear hL hE hf hz;refine callsIn_of_wp_marks Tryz.func25 rfl trivial ?_ rfl;simp only[Tryz.ntmps25,List.size_toArray,List.length_cons,List.length_nil,Nat.reduceAdd,Nat.reduceSub,Array.replicate_succ,Array.replicate_zero,List.push_toArray,List.append_toArray,List.nil_append,List.cons_append]
 gi_wp2_with fail
 refine⟨trivial,?_⟩;refine (HC.out _).mono ?_;rintro e w1 ⟨rfl,hb1⟩
 gi_wp2_with fail
 refine⟨trivial,?_⟩;refine (HN.out _ _).mono ?_;rintro e w2 ⟨rfl,rfl⟩
 gi_wp2_with fail
 obtain⟨i0,hi,hz0,hz1,hz2⟩:=info_parts info_node;have hk60:=((checkE_iff es).1 HZ.out).1;have bO:Boxed ((w1.alloc (.cells #[.slice none 0 0] 22)).alloc (.cells #[.slice A es.length c] 22)) w1.heap.size 22 (.slice none 0 0):=(Boxed.new w1 22 (.slice none 0 0)).alloc _
 have bN:Boxed ((w1.alloc (.cells #[.slice none 0 0] 22)).alloc (.cells #[.slice A es.length c] 22)) (w1.heap.size+1) 22 (.slice A es.length c):=by
  have h:=Boxed.new (w1.alloc (.cells #[.slice none 0 0] 22)) 22 (.slice A es.length c);rw[World.size_alloc] at h;exact h
 have hB0:Below w1.heap.size w1 ((w1.alloc (.cells #[.slice none 0 0] 22)).alloc (.cells #[.slice A es.length c] 22)):=((Below.refl _ w1).alloc (Nat.le_refl _) _).alloc (by simp) _;have hsz:((w1.alloc (.cells #[.slice none 0 0] 22)).alloc (.cells #[.slice A es.length c] 22)).heap.size=w1.heap.size+2:=by simp
 generalize (w1.alloc (.cells #[.slice none 0 0] 22)).alloc (.cells #[.slice A es.length c] 22)=W0 at*
 refine wpIn_rangeFunc_ownH rfl (by omega) (gf:=96) (lb:=#[.pointer (some ⟨w1.heap.size+1,0,none⟩)]) rfl trivial (enters_of Tryz.func96 (by kernel_rfl) rfl)
  (named_stops Fence.wide 5 trivial rfl (by omega) (w1.heap.size+1) es A c w1 W0 (HL.out.below hb1) (HE.out.below hb1) hB0 bN.cell bN.lt (checkE_wr HZ.out) hk60) belowK_t (belowK_b (by omega)) (Below.refl _ _) (fun _=>rfl)
  (fun pre W=>(∃v,Boxed W w1.heap.size 22 v∧W.ownsRow w1.heap.size 33 5 v pre.length (nds pre)∧True)∧Below w1.heap.size w1 W)
  (fun _ _ _=>False)
  (OwnFrom.and (Own.from (holdsRow_own w1.heap.size w1.heap.size 22 33 5 (fun pre:List Nd=>pre.length) (fun pre=>nds pre) (fun _ _=>True)) _) (ownFrom_below (Nat.le_refl _) (by omega)))
  (fun _ _ _ _ _ hs _ _=>hs)
  ⟨⟨_,bO,World.ownsRow_nil _ _ _ _,trivial⟩,hB0⟩
  (fun x a' W=>∃Bx,Blk W Bx 33 x.cells∧a'={tmps:=#[.slice A es.length c,undef,.slice none 0 0,.pointer (some ⟨w1.heap.size,0,none⟩),.pointer (some ⟨Bx,0,none⟩),.slice A es.length c,.int .i64 0,.bool false,.slice A es.length c,.func (.func 96) #[] #[.pointer (some ⟨w1.heap.size+1,0,none⟩)],x.v,undef,undef,undef,undef,undef,undef,undef,undef],defers:=[]})
  (fun x a' _ X Y row hs hg hr=>by obtain⟨Bx,h1,h2⟩:=hs;exact⟨Bx,blk_kept1 h1 hg (fun r e=>(hr r e).2),h2⟩)
  ?assign ?body ?done ?stop
 case assign=>
  rintro l pre ⟨op,⟨neg,num,den⟩,nm⟩ W K ⟨⟨v,hv,hrow,_⟩,hB⟩ hK;unfold Nd.v
  gi_wp2
  exact hK _ _ ((KeepsOthers.alloc _ _).from _) ((Below.refl _ W).alloc hB.size _) ⟨⟨v,hv.alloc _,hrow.alloc _,trivial⟩,hB.alloc hB.size _⟩ ⟨W.heap.size,Blk.new W _ _,rfl⟩
 case body=>
  rintro l pre ⟨op,⟨neg,num,den⟩,nm⟩ a' W hl ⟨r,hr⟩ ⟨⟨v,hv,hrow,_⟩,hB⟩ ⟨Bx,hbx,rfl⟩ hlt;have hc:=hv.cell;have hcx:=hbx.cells;unfold Nd.cells at hcx;unfold Nd.v;simp only at hcx⊢
  gi_wp2_with (gi_at_builtin;refine wpListIn_append_own _ rfl _ _ 22 rfl w1.heap.size 33 i0 (.agg #[.int .i64 0,.bool false,.string ⟨#[]⟩,.string ⟨#[]⟩,.string ⟨#[]⟩]) 5 64 Tryz.underlying22 hi hz0 hz1 hz2 rfl (by decide) _ _ _ rfl (hrow.alloc _) ⟨W.heap.size,0,none⟩ 1 1 [.int .i64 op,.bool neg,.string num,.string den,.string nm] rfl rfl (cells_new1 _ _ _) (by simp[Value.oneCell']) (by unfold maxLen;omega) (by omega) (by have:=hB.size;simp;omega) ?_;intro v' w5 hown' hgrow _;obtain⟨g',cap',rfl,_⟩:=own_form hown' (by omega);obtain⟨hv1,hv2,hr2,hk2,hb2⟩:=hv.appended (by decide) hrow hB.size (Nat.le_refl _) hown' hgrow;have hc1:=hv1.cell;have hf1:=hv1.frozen)
  exact⟨hk2.from _,hb2,⟨_,hv2,by rw[List.length_append,nds_snoc];exact hr2,trivial⟩,hB.trans hb2⟩
 case done=>
  rintro D ys W hD rfl ⟨⟨v,hv,hrow,_⟩,hB⟩ hK;have hc:=hv.cell;by_cases hne:nmd es=[]
  ·have h0:(nmd es).length=0:=by rw[hne];rfl
   obtain⟨A',c',rfl,h1,h2,_⟩:=own_rd hrow;rw[h0] at hc;have HS:=Lib.hid (fun m W=>(callsIn_wide (n:=m)).2 (sortFuncN_none A' c' (.func (.func 60) #[] #[]) W));have HCC:=Lib.hid (fun m W=>(callsIn_wide (n:=m)).2 (compactN_short A' 0 c' (by omega) W))
   gi_wp2_with fail
   refine⟨trivial,?_⟩;refine (HS.out _ _).mono ?_;rintro e w6 ⟨rfl,hw6⟩;subst hw6
   gi_wp2_with fail
   refine⟨trivial,?_⟩;refine (HCC.out _ _).mono ?_;rintro e w7 ⟨rfl,hw7⟩;subst hw7
   gi_wp2
   have hr0:refsE es=[]:=by unfold refsE insL;rw[hne,if_pos HZ.out];rfl
   refine⟨by simp,.inl ⟨_,_,rfl,run_takeDeferred hK,?_⟩⟩;refine⟨_,results_tmp rfl _ _ _,_,_,_,rfl,?_,?_⟩
   ·rw[hr0];exact⟨rfl,Nat.zero_le _,h2,.inl rfl⟩
   ·have hDn:w1.heap.size≤D:=Nat.le_trans hB0.size hD;exact (bstep hb1 hB).trans (belowK_b (w:=w) (Nat.le_refl _) _ D _ _ (by have:=hb1.size;omega) hK rfl rfl)
  ·have hpos:0<(nmd es).length:=List.length_pos_iff.2 hne;obtain⟨g,cap,rfl,hg⟩:=own_form hrow hpos
   have hcap:(nmd es).length≤cap∧cap≤maxLen:=by
    obtain⟨A',c',hv',h1,h2,_⟩:=own_rd hrow;injection hv' with e1 e2 e3;subst e3;exact⟨h1,h2⟩
   have hWr:=checkE_wr HZ.out;have hkl:(keys es).length=(nmd es).length:=by unfold keys;rw[List.length_map]
   have hle:(nmd es).length≤60:=Nat.le_trans (List.length_filter_le _ _) hk60;have hrow2:=hrow;rw[keys_cells hWr] at hrow2;have hH:=holds_own kEnc (fun _=>rfl) (keys es) hrow2 hkl.symm;have hgW:g<W.heap.size:=(hrow.lt g rfl).2;have HS:=Lib.hid (fun m=>(callsIn_wide (n:=m)).2 (sortN_at (keys es) g cap W hH hgW (by omega)));have hnr:=hv.not_row (by decide) hrow;have HH:=Lib.hid hH;rw[hkl] at HS;clear hH hrow2
   gi_wp2_with fail
   refine⟨trivial,?_⟩;refine (HS.out _).mono ?_;rintro e w6 ⟨rfl,d',n6,os6,hp6,hs6,rfl⟩;have ho6:=sort_onl W g n6 d' os6;have hsz6:d'.size=(nmd es).length:=by have:=hp6.1;simpa [hkl] using this
   have hH6:=holds_nodes (holdsK_sortWorldK_c kEnc 5 W g 0 (keys es).toArray d' n6 os6 HH.out hgW (by simp[hsz6,hkl]));have hsr:=sorted_refs HZ.out (by rw[hkl];exact hp6) (by rw[hkl];exact hs6);generalize sortWorldK kEnc 5 W g 0 n6 d' os6=W6 at*;have hbg:w1.heap.size≠g:=fun h=>hnr (by rw[h];rfl)
   have hv6:Boxed W6 w1.heap.size 22 (.slice (some ⟨g,0,none⟩) (nmd es).length cap):=(ho6.block _ hv.lt hbg).trans hv;have hc6:=hv6.cell;have hl6:(d'.map kN).size=(nmd es).length:=by simp[hsz6]
   have hCC:=compactN_at g 0 cap (d'.map kN) W6 hH6 (by omega) (by omega) hcap.2;rw[hl6] at hCC;have HCC:=Lib.hid (fun m=>(callsIn_wide (n:=m)).2 hCC);clear hCC hc
   gi_wp2_with fail
   refine⟨trivial,?_⟩;refine (HCC.out _).mono ?_;intro e w7 hcp;rw[show d'.map kN=(d'.toList.map kN).toArray from by rw[←Array.toList_map,Array.toArray_toList]] at hcp;obtain⟨rfl,hes,ho7⟩:=comp_es hcp (Nat.lt_of_lt_of_le hgW ho6.size) (by simp[hsz6,hcap.1]) hcap.2;rw[hsr] at hes⊢
   gi_wp2
   have hDg:D≠g:=fun h=>by
    rcases hrow.2 with⟨hv',_⟩|⟨g',cap',cur,hv',_,hh,_⟩
    ·cases hv'
    ·injection hv' with e1 e2 e3;injection e1 with e1;injection e1 with e1;rw[←e1,←h,hK] at hh;injection hh with hh;cases hh
   have hK6:=(ho6.block D (lt_of_some hK) hDg).trans hK;have hK7:=(ho7.block D (lt_of_some hK6) hDg).trans hK6;refine⟨by simp,.inl ⟨_,_,rfl,run_takeDeferred hK7,?_⟩⟩;refine⟨_,results_tmp rfl _ _ _,_,_,_,rfl,?_,?_⟩
   ·refine⟨hes.len,hes.cap,hes.max,?_⟩;rcases hes.rd with h|⟨b9,o9,e9,hb9,hc9⟩
    ·exact .inl h
    ·have hbg9:b9=g:=by injection e9 with e9;injection e9 with e9;exact e9.symm
     refine .inr ⟨b9,o9,e9,by simpa [World.putObj] using hb9,fun i hi=>?_⟩;rw[←hc9 i hi];refine World.cell?_of_block ?_;subst hbg9;show ((w7.putObj D (.deferred none)).heap)[b9]?=_;simp[World.putObj,Array.getElem?_setIfInBounds,hDg]
   ·have h7:Below w1.heap.size w1 w7:=hB.trans ((ho6.trans ho7).below hg hB.size);have hDn:w1.heap.size≤D:=Nat.le_trans hB0.size hD;exact (bstep hb1 h7).trans (belowK_b (w:=w) (Nat.le_refl _) w7 D _ _ (by have:=hb1.size;omega) hK7 rfl rfl)
 case stop=>
  rintro D c pre W _ _ h _;exact h.elim
set_option maxRecDepth 100000 in
set_option maxHeartbeats 1600000 in
theorem eRefs_any (es:List Nd) (A:Option Addr) (l c:Nat) (w:World) (hL:LaidE w) (hE:Es w es A l c) (hf:∀n∈es,Fine n):
  Calls Tryz.prog 25 #[.slice A l c] w fun e w'=>∃A' n' c',e=.returned (.slice A' n' c')∧Es w' (refsE es) A' n' c'∧Below w.heap.size w w':=by
 obtain rfl:=hE.len;by_cases hz:checkE es=0
 ·exact (callsIn_wide (n:=6)).1 (eRefs_in1 es A c w hL hE hf hz)
 ·have HC:=Lib.hid (check_any es A es.length c w hL hE.len hE.cap hE.max hE.rd hf);have hr0:Hid (refsE es=[]):=by show _=_;unfold refsE;rw[if_neg hz]
  have hzi:¬((checkE es:Int)=0):=by omega
  clear hL hE hf hz;go_enter Tryz.func25,Tryz.ntmps25;go_wp2_with (go_at_call 18;refine (HC.out).mono ?_;(rintro e w1 ⟨he,hb1⟩;subst he));go_ret;refine⟨none,0,0,rfl,?_,hb1⟩;rw[hr0.out];exact⟨rfl,Nat.zero_le _,by unfold maxLen;omega,.inl rfl⟩
end Go.Proofs.YtbicehdehiakgaaGreatDoor
namespace Go.Proofs.YtbicehdehiakgaaGreatDoor
open Go.RowKit
theorem ArgsAt.below {w w':World} {ls:List (List Nat)} {A:Option Addr} {n c:Nat} (h:ArgsAt w ls A n c) (hb:Below w.heap.size w w'):ArgsAt w' ls A n c:=by
 obtain⟨h1,h2,h3,cs,h4,h5⟩:=h;exact⟨h1,h2,h3,cs,h4.below hb,h5.below hb⟩
theorem ArgsAt.rows2 {w:World} {ls:List (List Nat)} {A:Option Addr} {n c:Nat} (h:ArgsAt w ls A n c) (h0:0<ls.length):
  ∃b off,A=some ⟨b,off,none⟩∧b<w.heap.size∧∀k l,ls[k]?=some l→∃A' c',w.cell? ⟨b,off+k,none⟩=some (.slice A' l.length c')∧Rd w A' (I l)∧l.length≤maxLen:=by
 obtain⟨h1,h2,h3,cs,h4,h5⟩:=h;obtain⟨b,off,hA,hb,hc⟩:=h4.at_ (k:=0) (by rw[h5.len];exact h0);refine⟨b,off,hA,hb,fun k l hk=>?_⟩;obtain⟨v,hv,A',c',rfl,hc1,hc2,hr,_⟩:=h5.row k l hk;obtain⟨hkc,hvk⟩:=List.getElem?_eq_some_iff.1 hv;exact⟨A',c',by rw[hc k hkc,hvk],hr,Nat.le_trans hc1 hc2⟩
theorem Es_new (W:World) (es:List Nd) (cs:Array Value) (n:Nat) (hn:n=es.length) (hc:cs.toList=nds es) (hl:n≤1000):Es (W.alloc (.cells cs 33)) es (some ⟨W.heap.size,0,none⟩) n n:=
 ⟨hn,Nat.le_refl _,by unfold maxLen;omega,by have h:=(Blk.new W 33 cs).rd;rwa[hc] at h⟩
theorem eSame_es {W:World} {es fs:List Nd} {A1 A2:Option Addr} {n1 c1 n2 c2:Nat} (h1:Es W es A1 n1 c1) (h2:Es W fs A2 n2 c2) (b:Bool) (hb:decide (es=fs)=b):Calls Tryz.prog 15 #[.slice A1 n1 c1,.slice A2 n2 c2] W fun e w'=>e=.returned (.bool b)∧Below W.heap.size W w':=by
 subst hb;refine (eSame_any es fs A1 A2 n1 c1 n2 c2 W h1.len h2.len (Nat.le_trans h1.cap h1.max) (Nat.le_trans h2.cap h2.max) h1.rd h2.rd).mono ?_;rintro e w' ⟨he,n,hw⟩;exact⟨he,by rw[hw];exact below_drewN (Below.refl _ _) n⟩
theorem gSame_es {W:World} {es fs:List Nd} {A1 A2:Option Addr} {n1 c1 n2 c2:Nat} (h1:Es W es A1 n1 c1) (h2:Es W fs A2 n2 c2) (b:Bool) (hb:decide (es=fs)=b):Calls Tryz.prog 16 #[.slice A1 n1 c1,.slice A2 n2 c2] W fun e w'=>e=.returned (.bool b)∧Below W.heap.size W w':=by
 subst hb;refine (gSame_any es fs A1 A2 n1 c1 n2 c2 W h1.len h2.len (Nat.le_trans h1.cap h1.max) (Nat.le_trans h2.cap h2.max) h1.rd h2.rd).mono ?_;rintro e w' ⟨he,n,hw⟩;exact⟨he,by rw[hw];exact below_drewN (Below.refl _ _) n⟩
theorem sfine_of {l:List Nd} (h:∀n∈l,n∈sE1++sE2++sE3++sE4++sE5++sE6++sE7++[plN 9,plN 6]):∀n∈l,Fine n:=fun n hn=>f_fine n (h n hn)
theorem text_es {W:World} {es:List Nd} {A:Option Addr} {n c:Nat} (hL:LaidE W) (h:Es W es A n c) (hf:∀n∈es,Fine n) (hz:checkE es=0) (t:List UInt8) (ht:textE es=t):Calls Tryz.prog 22 #[.slice A n c] W fun e w'=>e=.returned (.tuple #[.string ⟨t.toArray⟩,.int .i64 0])∧Below W.heap.size W w':=by
 have:=eText_any es A n c W hL h hf;unfold RetText at this;rwa[hz,if_pos rfl,ht] at this
theorem ret_es {W:World} {r:List Nd × Int} {es:List Nd} {z:Int} (hr:r=(es,z)) {f:FuncId} {args:Array Value} (h:Calls Tryz.prog f args W (RetEs r W)):Calls Tryz.prog f args W fun e w'=>∃A n c,e=.returned (.tuple #[.slice A n c,.int .i64 z])∧Es w' es A n c∧Below W.heap.size W w':=by
 rw[hr] at h;exact h
theorem args_es {W:World} {A:Option Addr} {n c:Nat} (hL:LaidE W) (h:Es W sE2 A n c):Calls Tryz.prog 23 #[.slice A n c] W fun e w'=>∃A' c',e=.returned (.tuple #[.slice A' 7 c',.bool true])∧ArgsAt w' [[],[],[0,1],[],[],[4],[2,3,5]] A' 7 c'∧Below W.heap.size W w':=by
 refine (eArgs_any sE2 A n c W hL h (sfine_of (by intro n hn;simp[hn]))).mono ?_;rintro e w' ⟨A',n',c',he,ha,hb⟩;rw[f_c2,if_pos rfl,f_a2] at ha;rw[f_c2] at he;obtain rfl:n'=7:=ha.len;exact⟨A',c',he,ha,hb⟩
set_option maxRecDepth 100000 in
set_option maxHeartbeats 6400000 in
theorem sanity_core (w:World) (a18:Bool) (u18 d18:ByteArray) (a0:Bool) (u0 d0:ByteArray) (a100:Bool) (u100 d100:ByteArray) (a1:Bool) (u1 d1:ByteArray) (a7:Bool) (u7 d7:ByteArray) (a5:Bool) (u5 d5:ByteArray) (a8:Bool) (u8 d8:ByteArray) (a2:Bool) (u2 d2:ByteArray) (ah:Bool) (uh dh:ByteArray)
  (HO1:Hid (∀W,Calls Tryz.prog 37 #[.int .i64 1] W fun e w'=>e=.returned (.agg #[.bool a1,.string u1,.string d1])∧Below W.heap.size W w'))
  (HO2:Hid (∀W,Calls Tryz.prog 37 #[.int .i64 2] W fun e w'=>e=.returned (.agg #[.bool a2,.string u2,.string d2])∧Below W.heap.size W w'))
  (HO0:Hid (∀W,Calls Tryz.prog 37 #[.int .i64 0] W fun e w'=>e=.returned (.agg #[.bool a0,.string u0,.string d0])∧Below W.heap.size W w'))
  (HO8:Hid (∀W,Calls Tryz.prog 37 #[.int .i64 8] W fun e w'=>e=.returned (.agg #[.bool a8,.string u8,.string d8])∧Below W.heap.size W w'))
  (HQ:Hid (∀W,Calls Tryz.prog 36 #[.agg #[.bool a1,.string u1,.string d1],.agg #[.bool a2,.string u2,.string d2]] W fun e w'=>e=.returned (.tuple #[.agg #[.bool ah,.string uh,.string dh],.bool true])∧Below W.heap.size W w'))
  (HN18:Hid (∀W,Calls Tryz.prog 40 #[.int .i64 3,.int .i64 18] W fun e w'=>e=.returned (.agg #[.int .i64 3,.bool a18,.string u18,.string d18,.string ⟨#[]⟩])∧Below W.heap.size W w'))
  (HN0:Hid (∀W,Calls Tryz.prog 40 #[.int .i64 1,.int .i64 0] W fun e w'=>e=.returned (.agg #[.int .i64 1,.bool a0,.string u0,.string d0,.string ⟨#[]⟩])∧Below W.heap.size W w'))
  (HN100:Hid (∀W,Calls Tryz.prog 40 #[.int .i64 21,.int .i64 100] W fun e w'=>e=.returned (.agg #[.int .i64 21,.bool a100,.string u100,.string d100,.string ⟨#[]⟩])∧Below W.heap.size W w'))
  (HN1:Hid (∀W,Calls Tryz.prog 40 #[.int .i64 1,.int .i64 1] W fun e w'=>e=.returned (.agg #[.int .i64 1,.bool a1,.string u1,.string d1,.string ⟨#[]⟩])∧Below W.heap.size W w'))
  (HN7:Hid (∀W,Calls Tryz.prog 40 #[.int .i64 3,.int .i64 7] W fun e w'=>e=.returned (.agg #[.int .i64 3,.bool a7,.string u7,.string d7,.string ⟨#[]⟩])∧Below W.heap.size W w'))
  (HN5:Hid (∀W,Calls Tryz.prog 40 #[.int .i64 21,.int .i64 5] W fun e w'=>e=.returned (.agg #[.int .i64 21,.bool a5,.string u5,.string d5,.string ⟨#[]⟩])∧Below W.heap.size W w'))
  (HNM:Hid (∀(op:Int) (s:ByteArray) (W:World),Calls Tryz.prog 38 #[.int .i64 op,.string s] W fun e w'=>e=.returned (.agg #[.int .i64 op,.bool false,.string ⟨#[]⟩,.string ⟨#[]⟩,.string s])∧Below W.heap.size W w'))
  (HPL:Hid (∀(op:Int) (W:World),Calls Tryz.prog 39 #[.int .i64 op] W fun e w'=>e=.returned (.agg #[.int .i64 op,.bool false,.string ⟨#[]⟩,.string ⟨#[]⟩,.string ⟨#[]⟩])∧Below W.heap.size W w'))
  (HT1:Hid (∀W:World,Below w.heap.size w (W.alloc (.cells #[.int .i64 5,.bool false,.string ⟨#[]⟩,.string ⟨#[]⟩,.string ⟨#[119,97,103,101]⟩,.int .i64 3,.bool ah,.string uh,.string dh,.string ⟨#[]⟩,.int .i64 11,.bool false,.string ⟨#[]⟩,.string ⟨#[]⟩,.string ⟨#[]⟩] 33))→Calls Tryz.prog 22 #[.slice (some ⟨W.heap.size,0,none⟩) 3 3] (W.alloc (.cells #[.int .i64 5,.bool false,.string ⟨#[]⟩,.string ⟨#[]⟩,.string ⟨#[119,97,103,101]⟩,.int .i64 3,.bool ah,.string uh,.string dh,.string ⟨#[]⟩,.int .i64 11,.bool false,.string ⟨#[]⟩,.string ⟨#[]⟩,.string ⟨#[]⟩] 33)) fun e w'=>e=.returned (.tuple #[.string ⟨#[109,117,108,40,102,97,99,116,46,119,97,103,101,44,32,49,47,50,41]⟩,.int .i64 0])∧Below (W.alloc (.cells #[.int .i64 5,.bool false,.string ⟨#[]⟩,.string ⟨#[]⟩,.string ⟨#[119,97,103,101]⟩,.int .i64 3,.bool ah,.string uh,.string dh,.string ⟨#[]⟩,.int .i64 11,.bool false,.string ⟨#[]⟩,.string ⟨#[]⟩,.string ⟨#[]⟩] 33)).heap.size (W.alloc (.cells #[.int .i64 5,.bool false,.string ⟨#[]⟩,.string ⟨#[]⟩,.string ⟨#[119,97,103,101]⟩,.int .i64 3,.bool ah,.string uh,.string dh,.string ⟨#[]⟩,.int .i64 11,.bool false,.string ⟨#[]⟩,.string ⟨#[]⟩,.string ⟨#[]⟩] 33)) w'))
  (HP2:Hid (∀W,Below w.heap.size w W→Calls Tryz.prog 20 #[.string ⟨#[105,102,40,108,101,115,115,40,102,97,99,116,46,97,103,101,44,32,49,56,41,44,32,36,48,44,32,100,111,119,110,91,49,48,48,93,40,111,119,110,46,98,97,115,101,41,41]⟩] W fun e w'=>∃A n c,e=.returned (.tuple #[.slice A n c,.int .i64 0])∧Es w' [(⟨5,⟨false,⟨#[]⟩,⟨#[]⟩⟩,⟨#[97,103,101]⟩⟩:Nd),(⟨3,⟨a18,u18,d18⟩,⟨#[]⟩⟩:Nd),(⟨16,⟨false,⟨#[]⟩,⟨#[]⟩⟩,⟨#[]⟩⟩:Nd),(⟨1,⟨a0,u0,d0⟩,⟨#[]⟩⟩:Nd),(⟨6,⟨false,⟨#[]⟩,⟨#[]⟩⟩,⟨#[98,97,115,101]⟩⟩:Nd),(⟨21,⟨a100,u100,d100⟩,⟨#[]⟩⟩:Nd),(⟨15,⟨false,⟨#[]⟩,⟨#[]⟩⟩,⟨#[]⟩⟩:Nd)] A n c∧Below W.heap.size W w'))
  (HAR:Hid (∀W,Below w.heap.size w W→∀A n c,Es W [(⟨5,⟨false,⟨#[]⟩,⟨#[]⟩⟩,⟨#[97,103,101]⟩⟩:Nd),(⟨3,⟨a18,u18,d18⟩,⟨#[]⟩⟩:Nd),(⟨16,⟨false,⟨#[]⟩,⟨#[]⟩⟩,⟨#[]⟩⟩:Nd),(⟨1,⟨a0,u0,d0⟩,⟨#[]⟩⟩:Nd),(⟨6,⟨false,⟨#[]⟩,⟨#[]⟩⟩,⟨#[98,97,115,101]⟩⟩:Nd),(⟨21,⟨a100,u100,d100⟩,⟨#[]⟩⟩:Nd),(⟨15,⟨false,⟨#[]⟩,⟨#[]⟩⟩,⟨#[]⟩⟩:Nd)] A n c→Calls Tryz.prog 23 #[.slice A n c] W fun e w'=>∃A' c',e=.returned (.tuple #[.slice A' 7 c',.bool true])∧ArgsAt w' [[],[],[0,1],[],[],[4],[2,3,5]] A' 7 c'∧Below W.heap.size W w'))
  (HBD:Hid (∀k:Nat,k<5→∃s:ByteArray,[.string ⟨#[97,100,100,40,49,44,50,41]⟩,.string ⟨#[48,49]⟩,.string ⟨#[50,47,52]⟩,.string ⟨#[111,119,110,46]⟩,.string ⟨#[110,101,97,114,91,48,93,40,49,41]⟩][k]?=some (Value.string s)∧∀W,Below w.heap.size w W→Calls Tryz.prog 20 #[.string s] W fun e w'=>∃A c,e=.returned (.tuple #[.slice A 0 c,.int .i64 11])∧Below W.heap.size W w'))
  (HRF:Hid (∀W,Below w.heap.size w W→∀A n c,Es W [(⟨6,⟨false,⟨#[]⟩,⟨#[]⟩⟩,⟨#[98]⟩⟩:Nd),(⟨5,⟨false,⟨#[]⟩,⟨#[]⟩⟩,⟨#[98]⟩⟩:Nd),(⟨6,⟨false,⟨#[]⟩,⟨#[]⟩⟩,⟨#[98]⟩⟩:Nd),(⟨9,⟨false,⟨#[]⟩,⟨#[]⟩⟩,⟨#[]⟩⟩:Nd),(⟨9,⟨false,⟨#[]⟩,⟨#[]⟩⟩,⟨#[]⟩⟩:Nd)] A n c→Calls Tryz.prog 25 #[.slice A n c] W fun e w'=>∃A n c,e=.returned (.slice A n c)∧Es w' [(⟨5,⟨false,⟨#[]⟩,⟨#[]⟩⟩,⟨#[98]⟩⟩:Nd),(⟨6,⟨false,⟨#[]⟩,⟨#[]⟩⟩,⟨#[98]⟩⟩:Nd)] A n c∧Below W.heap.size W w'))
  (HSB2:Hid (∀W,Below w.heap.size w W→∀A n c A' n' c',Es W [(⟨6,⟨false,⟨#[]⟩,⟨#[]⟩⟩,⟨#[98]⟩⟩:Nd),(⟨5,⟨false,⟨#[]⟩,⟨#[]⟩⟩,⟨#[98]⟩⟩:Nd),(⟨6,⟨false,⟨#[]⟩,⟨#[]⟩⟩,⟨#[98]⟩⟩:Nd),(⟨9,⟨false,⟨#[]⟩,⟨#[]⟩⟩,⟨#[]⟩⟩:Nd),(⟨9,⟨false,⟨#[]⟩,⟨#[]⟩⟩,⟨#[]⟩⟩:Nd)] A n c→Es W [(⟨1,⟨a1,u1,d1⟩,⟨#[]⟩⟩:Nd)] A' n' c'→Calls Tryz.prog 27 #[.slice A n c,.string ⟨#[98]⟩,.slice A' n' c'] W fun e w'=>∃A n c,e=.returned (.tuple #[.slice A n c,.int .i64 0])∧Es w' [(⟨1,⟨a1,u1,d1⟩,⟨#[]⟩⟩:Nd),(⟨5,⟨false,⟨#[]⟩,⟨#[]⟩⟩,⟨#[98]⟩⟩:Nd),(⟨1,⟨a1,u1,d1⟩,⟨#[]⟩⟩:Nd),(⟨9,⟨false,⟨#[]⟩,⟨#[]⟩⟩,⟨#[]⟩⟩:Nd),(⟨9,⟨false,⟨#[]⟩,⟨#[]⟩⟩,⟨#[]⟩⟩:Nd)] A n c∧Below W.heap.size W w'))
  (HT6:Hid (∀W,Below w.heap.size w W→∀A n c,Es W [(⟨1,⟨a1,u1,d1⟩,⟨#[]⟩⟩:Nd),(⟨5,⟨false,⟨#[]⟩,⟨#[]⟩⟩,⟨#[98]⟩⟩:Nd),(⟨1,⟨a1,u1,d1⟩,⟨#[]⟩⟩:Nd),(⟨9,⟨false,⟨#[]⟩,⟨#[]⟩⟩,⟨#[]⟩⟩:Nd),(⟨9,⟨false,⟨#[]⟩,⟨#[]⟩⟩,⟨#[]⟩⟩:Nd)] A n c→Calls Tryz.prog 22 #[.slice A n c] W fun e w'=>e=.returned (.tuple #[.string ⟨#[97,100,100,40,36,49,44,32,97,100,100,40,102,97,99,116,46,98,44,32,36,49,41,41]⟩,.int .i64 0])∧Below W.heap.size W w'))
  (HS0:Hid (∀W,Below w.heap.size w W→∀A n c,Es W [(⟨3,⟨a7,u7,d7⟩,⟨#[]⟩⟩:Nd),(⟨21,⟨a5,u5,d5⟩,⟨#[]⟩⟩:Nd)] A n c→Calls Tryz.prog 33 #[.slice A n c,.int .i64 1,.agg #[.bool a0,.string u0,.string d0]] W fun e w'=>∃A n c,e=.returned (.tuple #[.slice A n c,.int .i64 11])∧Es w' [] A n c∧Below W.heap.size W w'))
  (HS8:Hid (∀W,Below w.heap.size w W→∀A n c,Es W [(⟨3,⟨a7,u7,d7⟩,⟨#[]⟩⟩:Nd),(⟨21,⟨a5,u5,d5⟩,⟨#[]⟩⟩:Nd)] A n c→Calls Tryz.prog 33 #[.slice A n c,.int .i64 0,.agg #[.bool a8,.string u8,.string d8]] W fun e w'=>∃A n c,e=.returned (.tuple #[.slice A n c,.int .i64 0])∧Es w' [(⟨3,⟨a8,u8,d8⟩,⟨#[]⟩⟩:Nd),(⟨21,⟨a5,u5,d5⟩,⟨#[]⟩⟩:Nd)] A n c∧Below W.heap.size W w'))
  (HT7:Hid (∀W,Below w.heap.size w W→∀A n c,Es W [(⟨3,⟨a8,u8,d8⟩,⟨#[]⟩⟩:Nd),(⟨21,⟨a5,u5,d5⟩,⟨#[]⟩⟩:Nd)] A n c→Calls Tryz.prog 22 #[.slice A n c] W fun e w'=>e=.returned (.tuple #[.string ⟨#[100,111,119,110,91,53,93,40,56,41]⟩,.int .i64 0])∧Below W.heap.size W w'))
  (HC0:Hid (∀W,Below w.heap.size w W→Calls Tryz.prog 18 #[.slice none 0 0] W fun e w'=>e=.returned (.int .i64 11)∧Below W.heap.size W w'))
  (HC9:Hid (∀W,Below w.heap.size w W→∀A n c,Es W [(⟨9,⟨false,⟨#[]⟩,⟨#[]⟩⟩,⟨#[]⟩⟩:Nd)] A n c→Calls Tryz.prog 18 #[.slice A n c] W fun e w'=>e=.returned (.int .i64 11)∧Below W.heap.size W w'))
  (HC6:Hid (∀W,Below w.heap.size w W→∀A n c,Es W [(⟨6,⟨false,⟨#[]⟩,⟨#[]⟩⟩,⟨#[]⟩⟩:Nd)] A n c→Calls Tryz.prog 18 #[.slice A n c] W fun e w'=>e=.returned (.int .i64 12)∧Below W.heap.size W w'))
  (HDN:Hid (decide ([(⟨6,⟨false,⟨#[]⟩,⟨#[]⟩⟩,⟨#[98]⟩⟩:Nd),(⟨5,⟨false,⟨#[]⟩,⟨#[]⟩⟩,⟨#[98]⟩⟩:Nd),(⟨6,⟨false,⟨#[]⟩,⟨#[]⟩⟩,⟨#[98]⟩⟩:Nd),(⟨9,⟨false,⟨#[]⟩,⟨#[]⟩⟩,⟨#[]⟩⟩:Nd),(⟨9,⟨false,⟨#[]⟩,⟨#[]⟩⟩,⟨#[]⟩⟩:Nd)]=[(⟨3,⟨a7,u7,d7⟩,⟨#[]⟩⟩:Nd),(⟨21,⟨a5,u5,d5⟩,⟨#[]⟩⟩:Nd)])=false)):
  Calls Tryz.prog 12 #[] w fun e w'=>e=.returned (.bool true)∧Below w.heap.size w w':=by
 go_enter Tryz.func12,Tryz.ntmps12;have HB:Hid (Below w.heap.size w w):=Below.refl _ _;go_wp2_with fail;refine (HO1.out _).mono ?_;rintro e w1 ⟨rfl,hb⟩;replace HB:=Lib.hid (bstep HB.out hb);clear hb;go_wp2_with fail;refine (HO2.out _).mono ?_;rintro e w2 ⟨rfl,hb⟩;replace HB:=Lib.hid (bstep HB.out hb);clear hb;go_wp2_with fail;refine (HQ.out _).mono ?_;rintro e w3 ⟨rfl,hb⟩;replace HB:=Lib.hid (bstep HB.out hb);clear hb;go_wp2_with fail;obtain⟨V,hV⟩:∃V,V=w3.alloc (.cells #[.bool ah,.string uh,.string dh] 31):=⟨_,rfl⟩
 have hk:Blk V w3.heap.size 31 [.bool ah,.string uh,.string dh]:=by rw[hV];exact Blk.new w3 _ _
 have hbV:Below w.heap.size w V:=by rw[hV];exact HB.out.alloc HB.out.size _
 generalize w3.heap.size=B at*;simp only[←hV]
 clear hV HB;have HS:Hid ((∀i,V.drew.cell? ⟨B,i,none⟩=([.bool ah,.string uh,.string dh]:List Value)[i]?)∧B<V.drew.heap.size∧Below w.heap.size w V.drew):=⟨hk.cells,hk.lt,below_drewN hbV 1⟩
 have HK:Hid (∀w' w1:World,((∀i,w'.cell? ⟨B,i,none⟩=([.bool ah,.string uh,.string dh]:List Value)[i]?)∧B<w'.heap.size∧Below w.heap.size w w')→Below w'.heap.size w' w1→((∀i,w1.cell? ⟨B,i,none⟩=([.bool ah,.string uh,.string dh]:List Value)[i]?)∧B<w1.heap.size∧Below w.heap.size w w1)):=by
  rintro w' w1 ⟨h0,h1,h2⟩ hb1;exact⟨fun i=>(hb1.cell h1).trans (h0 i),Nat.lt_of_lt_of_le h1 hb1.size,bstep h2 hb1⟩
 clear hk hbV
 go_region_held3 (fun w'=>(∀i,w'.cell? ⟨B,i,none⟩=([.bool ah,.string uh,.string dh]:List Value)[i]?)∧B<w'.heap.size∧Below w.heap.size w w') (first|exact HS.out|exact HK.out _ _ (by assumption) hb1|exact HK.out _ _ (by assumption) ((Below.refl _ _).alloc (Nat.le_refl _) _)|assumption)
  (first|(go_at_call 38;(with_reducible refine (HNM.out _ _ _).mono ?_);rintro e w1 ⟨rfl,hb1⟩)|(go_at_call 39;(with_reducible refine (HPL.out _ _).mono ?_);rintro e w1 ⟨rfl,hb1⟩)|(go_at_call 22;(with_reducible refine (HT1.out _ (by exact And.right (And.right (by assumption)))).mono ?_);rintro e wz ⟨rfl,hb1⟩))
 rename_i hH;obtain⟨_,_,hbz⟩:=hH;have HB:=Lib.hid hbz;clear hbz hb1 HK HS HQ HO2 HT1;obtain⟨w50,rfl⟩:∃x:World,x=wz:=⟨_,rfl⟩
 go_wp2_with fail;refine (HP2.out _ HB.out).mono ?_;rintro e w51 ⟨A2,n2,c2,rfl,hE,hb⟩;replace HB:=Lib.hid (bstep HB.out hb);clear hb;obtain rfl:n2=7:=hE.len;have HE2:=Lib.hid hE;clear hE HP2;go_wp2_with fail;refine (HNM.out 5 _ _).mono ?_;rintro e w52 ⟨rfl,hb⟩;replace HB:=Lib.hid (bstep HB.out hb);replace HE2:=Lib.hid (HE2.out.below hb);clear hb;go_wp2_with fail;refine (HN18.out _).mono ?_;rintro e w53 ⟨rfl,hb⟩;replace HB:=Lib.hid (bstep HB.out hb);replace HE2:=Lib.hid (HE2.out.below hb);clear hb;go_wp2_with fail;refine (HPL.out 16 _).mono ?_;rintro e w54 ⟨rfl,hb⟩;replace HB:=Lib.hid (bstep HB.out hb);replace HE2:=Lib.hid (HE2.out.below hb);clear hb;go_wp2_with fail;refine (HN0.out _).mono ?_;rintro e w55 ⟨rfl,hb⟩;replace HB:=Lib.hid (bstep HB.out hb);replace HE2:=Lib.hid (HE2.out.below hb);clear hb;go_wp2_with fail;refine (HNM.out 6 _ _).mono ?_;rintro e w56 ⟨rfl,hb⟩;replace HB:=Lib.hid (bstep HB.out hb);replace HE2:=Lib.hid (HE2.out.below hb);clear hb;go_wp2_with fail;refine (HN100.out _).mono ?_;rintro e w57 ⟨rfl,hb⟩;replace HB:=Lib.hid (bstep HB.out hb);replace HE2:=Lib.hid (HE2.out.below hb);clear hb;go_wp2_with fail;refine (HPL.out 15 _).mono ?_;rintro e w58 ⟨rfl,hb⟩;replace HB:=Lib.hid (bstep HB.out hb);replace HE2:=Lib.hid (HE2.out.below hb);clear hb;go_wp2_with fail;obtain⟨w59,hw⟩:∃x,x=w58.alloc (.cells #[.int .i64 5,.bool false,.string ⟨#[]⟩,.string ⟨#[]⟩,.string ⟨#[97,103,101]⟩,.int .i64 3,.bool a18,.string u18,.string d18,.string ⟨#[]⟩,.int .i64 16,.bool false,.string ⟨#[]⟩,.string ⟨#[]⟩,.string ⟨#[]⟩,.int .i64 1,.bool a0,.string u0,.string d0,.string ⟨#[]⟩,.int .i64 6,.bool false,.string ⟨#[]⟩,.string ⟨#[]⟩,.string ⟨#[98,97,115,101]⟩,.int .i64 21,.bool a100,.string u100,.string d100,.string ⟨#[]⟩,.int .i64 15,.bool false,.string ⟨#[]⟩,.string ⟨#[]⟩,.string ⟨#[]⟩] 33):=⟨_,rfl⟩
 have HW:=Es_new w58 [(⟨5,⟨false,⟨#[]⟩,⟨#[]⟩⟩,⟨#[97,103,101]⟩⟩:Nd),(⟨3,⟨a18,u18,d18⟩,⟨#[]⟩⟩:Nd),(⟨16,⟨false,⟨#[]⟩,⟨#[]⟩⟩,⟨#[]⟩⟩:Nd),(⟨1,⟨a0,u0,d0⟩,⟨#[]⟩⟩:Nd),(⟨6,⟨false,⟨#[]⟩,⟨#[]⟩⟩,⟨#[98,97,115,101]⟩⟩:Nd),(⟨21,⟨a100,u100,d100⟩,⟨#[]⟩⟩:Nd),(⟨15,⟨false,⟨#[]⟩,⟨#[]⟩⟩,⟨#[]⟩⟩:Nd)] #[.int .i64 5,.bool false,.string ⟨#[]⟩,.string ⟨#[]⟩,.string ⟨#[97,103,101]⟩,.int .i64 3,.bool a18,.string u18,.string d18,.string ⟨#[]⟩,.int .i64 16,.bool false,.string ⟨#[]⟩,.string ⟨#[]⟩,.string ⟨#[]⟩,.int .i64 1,.bool a0,.string u0,.string d0,.string ⟨#[]⟩,.int .i64 6,.bool false,.string ⟨#[]⟩,.string ⟨#[]⟩,.string ⟨#[98,97,115,101]⟩,.int .i64 21,.bool a100,.string u100,.string d100,.string ⟨#[]⟩,.int .i64 15,.bool false,.string ⟨#[]⟩,.string ⟨#[]⟩,.string ⟨#[]⟩] 7 rfl rfl (by omega);rw[←hw] at HW;replace HW:=Lib.hid HW;have hb:Below w58.heap.size w58 w59:=by rw[hw];exact (Below.refl _ _).alloc (Nat.le_refl _) _
 replace HB:=Lib.hid (bstep HB.out hb);replace HE2:=Lib.hid (HE2.out.below hb);simp only[←hw]
 clear hw hb;generalize w58.heap.size=C59 at*;refine (HAR.out _ HB.out _ _ _ HE2.out).mono ?_;rintro e w60 ⟨A3,c3,rfl,hA,hb⟩;replace HB:=Lib.hid (bstep HB.out hb);replace HE2:=Lib.hid (HE2.out.below hb);replace HW:=Lib.hid (HW.out.below hb);clear hb;have HAT:=Lib.hid hA;clear hA HAR HN18 HN0 HN100;go_wp2_with fail;refine (gSame_es HE2.out HW.out true (decide_eq_true rfl)).mono ?_;rintro e w61 ⟨rfl,hb⟩;replace HB:=Lib.hid (bstep HB.out hb);replace HE2:=Lib.hid (HE2.out.below hb);replace HW:=Lib.hid (HW.out.below hb);replace HAT:=Lib.hid (HAT.out.below hb);clear hb;clear HE2 HW;obtain⟨b,off,hA,_,hrow⟩:=HAT.out.rows2 (by decide);subst hA;obtain⟨X0,y0,p0,q0,_⟩:=hrow 0 [] rfl;have p0:w61.cell? ⟨b,off,none⟩=some (.slice X0 0 y0):=p0;clear q0;obtain⟨X2,y2,p2,q2,_⟩:=hrow 2 [0,1] rfl;have p2:w61.cell? ⟨b,off+2,none⟩=some (.slice X2 2 y2):=p2;obtain⟨b2,o2,e2,_,r2⟩:=q2.at_ (k:=0) (by decide);subst e2;have r20:w61.cell? ⟨b2,o2,none⟩=some (.int .i64 0):=r2 0 (by decide);have r21:w61.cell? ⟨b2,o2+1,none⟩=some (.int .i64 1):=r2 1 (by decide);clear r2 q2;obtain⟨X5,y5,p5,q5,_⟩:=hrow 5 [4] rfl;have p5:w61.cell? ⟨b,off+5,none⟩=some (.slice X5 1 y5):=p5;obtain⟨b5,o5,e5,_,r5⟩:=q5.at_ (k:=0) (by decide);subst e5;have r50:w61.cell? ⟨b5,o5,none⟩=some (.int .i64 4):=r5 0 (by decide);clear r5 q5;obtain⟨X6,y6,p6,q6,_⟩:=hrow 6 [2,3,5] rfl;have p6:w61.cell? ⟨b,off+6,none⟩=some (.slice X6 3 y6):=p6;obtain⟨b6,o6,e6,_,r6⟩:=q6.at_ (k:=0) (by decide);subst e6;have r60:w61.cell? ⟨b6,o6,none⟩=some (.int .i64 2):=r6 0 (by decide);have r61:w61.cell? ⟨b6,o6+1,none⟩=some (.int .i64 3):=r6 1 (by decide);have r62:w61.cell? ⟨b6,o6+2,none⟩=some (.int .i64 5):=r6 2 (by decide);clear r6 q6;clear HAT;clear hrow;go_wp2_with fail;obtain⟨w62,hw⟩:∃x,x=w61.alloc (.cells #[.string ⟨#[97,100,100,40,49,44,50,41]⟩,.string ⟨#[48,49]⟩,.string ⟨#[50,47,52]⟩,.string ⟨#[111,119,110,46]⟩,.string ⟨#[110,101,97,114,91,48,93,40,49,41]⟩] 9):=⟨_,rfl⟩
 have hS:Blk w62 w61.heap.size 9 [.string ⟨#[97,100,100,40,49,44,50,41]⟩,.string ⟨#[48,49]⟩,.string ⟨#[50,47,52]⟩,.string ⟨#[111,119,110,46]⟩,.string ⟨#[110,101,97,114,91,48,93,40,49,41]⟩]:=by rw[hw];exact Blk.new w61 _ _
 have hb:Below w61.heap.size w61 w62:=by rw[hw];exact (Below.refl _ _).alloc (Nat.le_refl _) _
 replace HB:=Lib.hid (bstep HB.out hb);simp only[←hw]
 clear hw hb p0 p2 p5 p6 r20 r21 r50 r60 r61 r62;generalize w61.heap.size=CS at*;have HSB:=Lib.hid hS;clear hS
 go_loopg [160] 5 (fun g iv wr=>∃k:Nat,k+g=5∧iv=.int .i64 k∧Below w62.heap.size w62 wr)
 case atStart=>exact⟨0,by omega,rfl,Below.refl _ _⟩
 case round=>
  obtain⟨k,hk,rfl,hbr⟩:=hrel;by_cases hlt:k<5
  ·obtain⟨s,hs,hP⟩:=HBD.out k hlt;have hc:wr.cell? ⟨CS,k,none⟩=some (.string s):=((hbr.cell HSB.out.lt).trans (HSB.out.cells k)).trans hs;have HP:=Lib.hid hP;have hbw:=HB.out.trans (hbr.mono HB.out.size);clear hs hP;go_wp2_with fail;refine (HP.out _ hbw).mono ?_;rintro e wx ⟨A,c,rfl,hbx⟩;have HBX:=Lib.hid (bstep hbr hbx);clear hbx hbw hbr hc;go_wp2
   go_roundg (5-(k+1))
   case measure=>omega
   case rel=>exact⟨k+1,by omega,by go_num,HBX.out⟩
  ·have hx1:decide (k<5)=false:=decide_eq_false hlt;replace HB:=Lib.hid (HB.out.trans (hbr.mono HB.out.size));clear hbr HSB HBD;obtain⟨w80,rfl⟩:∃x:World,x=wr:=⟨_,rfl⟩
   go_wp2_with fail;refine (HNM.out 6 _ _).mono ?_;rintro e w81 ⟨rfl,hb⟩;replace HB:=Lib.hid (bstep HB.out hb);clear hb;go_wp2_with fail;refine (HNM.out 5 _ _).mono ?_;rintro e w82 ⟨rfl,hb⟩;replace HB:=Lib.hid (bstep HB.out hb);clear hb;go_wp2_with fail;refine (HNM.out 6 _ _).mono ?_;rintro e w83 ⟨rfl,hb⟩;replace HB:=Lib.hid (bstep HB.out hb);clear hb;go_wp2_with fail;refine (HPL.out 9 _).mono ?_;rintro e w84 ⟨rfl,hb⟩;replace HB:=Lib.hid (bstep HB.out hb);clear hb;go_wp2_with fail;refine (HPL.out 9 _).mono ?_;rintro e w85 ⟨rfl,hb⟩;replace HB:=Lib.hid (bstep HB.out hb);clear hb;go_wp2_with fail;obtain⟨w86,hw⟩:∃x,x=w85.alloc (.cells #[.int .i64 6,.bool false,.string ⟨#[]⟩,.string ⟨#[]⟩,.string ⟨#[98]⟩,.int .i64 5,.bool false,.string ⟨#[]⟩,.string ⟨#[]⟩,.string ⟨#[98]⟩,.int .i64 6,.bool false,.string ⟨#[]⟩,.string ⟨#[]⟩,.string ⟨#[98]⟩,.int .i64 9,.bool false,.string ⟨#[]⟩,.string ⟨#[]⟩,.string ⟨#[]⟩,.int .i64 9,.bool false,.string ⟨#[]⟩,.string ⟨#[]⟩,.string ⟨#[]⟩] 33):=⟨_,rfl⟩
   have HU:=Es_new w85 [(⟨6,⟨false,⟨#[]⟩,⟨#[]⟩⟩,⟨#[98]⟩⟩:Nd),(⟨5,⟨false,⟨#[]⟩,⟨#[]⟩⟩,⟨#[98]⟩⟩:Nd),(⟨6,⟨false,⟨#[]⟩,⟨#[]⟩⟩,⟨#[98]⟩⟩:Nd),(⟨9,⟨false,⟨#[]⟩,⟨#[]⟩⟩,⟨#[]⟩⟩:Nd),(⟨9,⟨false,⟨#[]⟩,⟨#[]⟩⟩,⟨#[]⟩⟩:Nd)] #[.int .i64 6,.bool false,.string ⟨#[]⟩,.string ⟨#[]⟩,.string ⟨#[98]⟩,.int .i64 5,.bool false,.string ⟨#[]⟩,.string ⟨#[]⟩,.string ⟨#[98]⟩,.int .i64 6,.bool false,.string ⟨#[]⟩,.string ⟨#[]⟩,.string ⟨#[98]⟩,.int .i64 9,.bool false,.string ⟨#[]⟩,.string ⟨#[]⟩,.string ⟨#[]⟩,.int .i64 9,.bool false,.string ⟨#[]⟩,.string ⟨#[]⟩,.string ⟨#[]⟩] 5 rfl rfl (by omega);rw[←hw] at HU;replace HU:=Lib.hid HU;have hb:Below w85.heap.size w85 w86:=by rw[hw];exact (Below.refl _ _).alloc (Nat.le_refl _) _
   replace HB:=Lib.hid (bstep HB.out hb);simp only[←hw]
   clear hw hb;generalize w85.heap.size=C86 at*;refine (HRF.out _ HB.out _ _ _ HU.out).mono ?_;rintro e w87 ⟨A4,n4,c4,rfl,hE,hb⟩;replace HB:=Lib.hid (bstep HB.out hb);replace HU:=Lib.hid (HU.out.below hb);clear hb;obtain rfl:n4=2:=hE.len;have HR:=Lib.hid hE;clear hE HRF;go_wp2_with fail;refine (HN1.out _).mono ?_;rintro e w88 ⟨rfl,hb⟩;replace HB:=Lib.hid (bstep HB.out hb);replace HU:=Lib.hid (HU.out.below hb);replace HR:=Lib.hid (HR.out.below hb);clear hb;go_wp2_with fail;obtain⟨w89,hw⟩:∃x,x=w88.alloc (.cells #[.int .i64 1,.bool a1,.string u1,.string d1,.string ⟨#[]⟩] 33):=⟨_,rfl⟩
   have HY:=Es_new w88 [(⟨1,⟨a1,u1,d1⟩,⟨#[]⟩⟩:Nd)] #[.int .i64 1,.bool a1,.string u1,.string d1,.string ⟨#[]⟩] 1 rfl rfl (by omega);rw[←hw] at HY;replace HY:=Lib.hid HY;have hb:Below w88.heap.size w88 w89:=by rw[hw];exact (Below.refl _ _).alloc (Nat.le_refl _) _
   replace HB:=Lib.hid (bstep HB.out hb);replace HU:=Lib.hid (HU.out.below hb);replace HR:=Lib.hid (HR.out.below hb);simp only[←hw]
   clear hw hb;generalize w88.heap.size=C89 at*;refine (HSB2.out _ HB.out _ _ _ _ _ _ HU.out HY.out).mono ?_;rintro e w90 ⟨A5,n5,c5,rfl,hE,hb⟩;replace HB:=Lib.hid (bstep HB.out hb);replace HU:=Lib.hid (HU.out.below hb);replace HR:=Lib.hid (HR.out.below hb);replace HY:=Lib.hid (HY.out.below hb);clear hb;obtain rfl:n5=5:=hE.len;have HV:=Lib.hid hE;clear hE HSB2 HN1;clear HY;go_wp2_with fail;refine (HT6.out _ HB.out _ _ _ HV.out).mono ?_;rintro e w91 ⟨rfl,hb⟩;replace HB:=Lib.hid (bstep HB.out hb);replace HU:=Lib.hid (HU.out.below hb);replace HR:=Lib.hid (HR.out.below hb);replace HV:=Lib.hid (HV.out.below hb);clear hb;clear HV;go_wp2_with fail;refine (HNM.out 5 _ _).mono ?_;rintro e w92 ⟨rfl,hb⟩;replace HB:=Lib.hid (bstep HB.out hb);replace HU:=Lib.hid (HU.out.below hb);replace HR:=Lib.hid (HR.out.below hb);clear hb;go_wp2_with fail;refine (HNM.out 6 _ _).mono ?_;rintro e w93 ⟨rfl,hb⟩;replace HB:=Lib.hid (bstep HB.out hb);replace HU:=Lib.hid (HU.out.below hb);replace HR:=Lib.hid (HR.out.below hb);clear hb;go_wp2_with fail;obtain⟨w94,hw⟩:∃x,x=w93.alloc (.cells #[.int .i64 5,.bool false,.string ⟨#[]⟩,.string ⟨#[]⟩,.string ⟨#[98]⟩,.int .i64 6,.bool false,.string ⟨#[]⟩,.string ⟨#[]⟩,.string ⟨#[98]⟩] 33):=⟨_,rfl⟩
   have HX:=Es_new w93 [(⟨5,⟨false,⟨#[]⟩,⟨#[]⟩⟩,⟨#[98]⟩⟩:Nd),(⟨6,⟨false,⟨#[]⟩,⟨#[]⟩⟩,⟨#[98]⟩⟩:Nd)] #[.int .i64 5,.bool false,.string ⟨#[]⟩,.string ⟨#[]⟩,.string ⟨#[98]⟩,.int .i64 6,.bool false,.string ⟨#[]⟩,.string ⟨#[]⟩,.string ⟨#[98]⟩] 2 rfl rfl (by omega);rw[←hw] at HX;replace HX:=Lib.hid HX;have hb:Below w93.heap.size w93 w94:=by rw[hw];exact (Below.refl _ _).alloc (Nat.le_refl _) _
   replace HB:=Lib.hid (bstep HB.out hb);replace HU:=Lib.hid (HU.out.below hb);replace HR:=Lib.hid (HR.out.below hb);simp only[←hw]
   clear hw hb;generalize w93.heap.size=C94 at*;refine (gSame_es HR.out HX.out true (decide_eq_true rfl)).mono ?_;rintro e w95 ⟨rfl,hb⟩;replace HB:=Lib.hid (bstep HB.out hb);replace HU:=Lib.hid (HU.out.below hb);replace HR:=Lib.hid (HR.out.below hb);replace HX:=Lib.hid (HX.out.below hb);clear hb;clear HR HX;go_wp2_with fail;refine (HN7.out _).mono ?_;rintro e w96 ⟨rfl,hb⟩;replace HB:=Lib.hid (bstep HB.out hb);replace HU:=Lib.hid (HU.out.below hb);clear hb;go_wp2_with fail;refine (HN5.out _).mono ?_;rintro e w97 ⟨rfl,hb⟩;replace HB:=Lib.hid (bstep HB.out hb);replace HU:=Lib.hid (HU.out.below hb);clear hb;go_wp2_with fail;obtain⟨w98,hw⟩:∃x,x=w97.alloc (.cells #[.int .i64 3,.bool a7,.string u7,.string d7,.string ⟨#[]⟩,.int .i64 21,.bool a5,.string u5,.string d5,.string ⟨#[]⟩] 33):=⟨_,rfl⟩
   have HD5:=Es_new w97 [(⟨3,⟨a7,u7,d7⟩,⟨#[]⟩⟩:Nd),(⟨21,⟨a5,u5,d5⟩,⟨#[]⟩⟩:Nd)] #[.int .i64 3,.bool a7,.string u7,.string d7,.string ⟨#[]⟩,.int .i64 21,.bool a5,.string u5,.string d5,.string ⟨#[]⟩] 2 rfl rfl (by omega);rw[←hw] at HD5;replace HD5:=Lib.hid HD5;have hb:Below w97.heap.size w97 w98:=by rw[hw];exact (Below.refl _ _).alloc (Nat.le_refl _) _
   replace HB:=Lib.hid (bstep HB.out hb);replace HU:=Lib.hid (HU.out.below hb);simp only[←hw]
   clear hw hb;generalize w97.heap.size=C98 at*;refine (HO0.out _).mono ?_;rintro e w99 ⟨rfl,hb⟩;replace HB:=Lib.hid (bstep HB.out hb);replace HU:=Lib.hid (HU.out.below hb);replace HD5:=Lib.hid (HD5.out.below hb);clear hb;go_wp2_with fail;refine (HS0.out _ HB.out _ _ _ HD5.out).mono ?_;rintro e w100 ⟨A6,n6,c6,rfl,_,hb⟩;replace HB:=Lib.hid (bstep HB.out hb);replace HU:=Lib.hid (HU.out.below hb);replace HD5:=Lib.hid (HD5.out.below hb);clear hb;go_wp2_with fail;refine (HO8.out _).mono ?_;rintro e w101 ⟨rfl,hb⟩;replace HB:=Lib.hid (bstep HB.out hb);replace HU:=Lib.hid (HU.out.below hb);replace HD5:=Lib.hid (HD5.out.below hb);clear hb;go_wp2_with fail;refine (HS8.out _ HB.out _ _ _ HD5.out).mono ?_;rintro e w102 ⟨A7,n7,c7,rfl,hE,hb⟩;replace HB:=Lib.hid (bstep HB.out hb);replace HU:=Lib.hid (HU.out.below hb);replace HD5:=Lib.hid (HD5.out.below hb);clear hb;obtain rfl:n7=2:=hE.len;have HV7:=Lib.hid hE;clear hE;go_wp2_with fail;refine (HT7.out _ HB.out _ _ _ HV7.out).mono ?_;rintro e w103 ⟨rfl,hb⟩;replace HB:=Lib.hid (bstep HB.out hb);replace HU:=Lib.hid (HU.out.below hb);replace HD5:=Lib.hid (HD5.out.below hb);replace HV7:=Lib.hid (HV7.out.below hb);clear hb;clear HV7;go_wp2_with fail;refine (HC0.out _ HB.out).mono ?_;rintro e w104 ⟨rfl,hb⟩;replace HB:=Lib.hid (bstep HB.out hb);replace HU:=Lib.hid (HU.out.below hb);replace HD5:=Lib.hid (HD5.out.below hb);clear hb;go_wp2_with fail;refine (HPL.out 9 _).mono ?_;rintro e w105 ⟨rfl,hb⟩;replace HB:=Lib.hid (bstep HB.out hb);replace HU:=Lib.hid (HU.out.below hb);replace HD5:=Lib.hid (HD5.out.below hb);clear hb;go_wp2_with fail;obtain⟨w106,hw⟩:∃x,x=w105.alloc (.cells #[.int .i64 9,.bool false,.string ⟨#[]⟩,.string ⟨#[]⟩,.string ⟨#[]⟩] 33):=⟨_,rfl⟩
   have HZ9:=Es_new w105 [(⟨9,⟨false,⟨#[]⟩,⟨#[]⟩⟩,⟨#[]⟩⟩:Nd)] #[.int .i64 9,.bool false,.string ⟨#[]⟩,.string ⟨#[]⟩,.string ⟨#[]⟩] 1 rfl rfl (by omega);rw[←hw] at HZ9;replace HZ9:=Lib.hid HZ9;have hb:Below w105.heap.size w105 w106:=by rw[hw];exact (Below.refl _ _).alloc (Nat.le_refl _) _
   replace HB:=Lib.hid (bstep HB.out hb);replace HU:=Lib.hid (HU.out.below hb);replace HD5:=Lib.hid (HD5.out.below hb);simp only[←hw]
   clear hw hb;generalize w105.heap.size=C106 at*;refine (HC9.out _ HB.out _ _ _ HZ9.out).mono ?_;rintro e w107 ⟨rfl,hb⟩;replace HB:=Lib.hid (bstep HB.out hb);replace HU:=Lib.hid (HU.out.below hb);replace HD5:=Lib.hid (HD5.out.below hb);replace HZ9:=Lib.hid (HZ9.out.below hb);clear hb;clear HZ9;go_wp2_with fail;refine (HPL.out 6 _).mono ?_;rintro e w108 ⟨rfl,hb⟩;replace HB:=Lib.hid (bstep HB.out hb);replace HU:=Lib.hid (HU.out.below hb);replace HD5:=Lib.hid (HD5.out.below hb);clear hb;go_wp2_with fail;obtain⟨w109,hw⟩:∃x,x=w108.alloc (.cells #[.int .i64 6,.bool false,.string ⟨#[]⟩,.string ⟨#[]⟩,.string ⟨#[]⟩] 33):=⟨_,rfl⟩
   have HZ6:=Es_new w108 [(⟨6,⟨false,⟨#[]⟩,⟨#[]⟩⟩,⟨#[]⟩⟩:Nd)] #[.int .i64 6,.bool false,.string ⟨#[]⟩,.string ⟨#[]⟩,.string ⟨#[]⟩] 1 rfl rfl (by omega);rw[←hw] at HZ6;replace HZ6:=Lib.hid HZ6;have hb:Below w108.heap.size w108 w109:=by rw[hw];exact (Below.refl _ _).alloc (Nat.le_refl _) _
   replace HB:=Lib.hid (bstep HB.out hb);replace HU:=Lib.hid (HU.out.below hb);replace HD5:=Lib.hid (HD5.out.below hb);simp only[←hw]
   clear hw hb;generalize w108.heap.size=C109 at*;refine (HC6.out _ HB.out _ _ _ HZ6.out).mono ?_;rintro e w110 ⟨rfl,hb⟩;replace HB:=Lib.hid (bstep HB.out hb);replace HU:=Lib.hid (HU.out.below hb);replace HD5:=Lib.hid (HD5.out.below hb);replace HZ6:=Lib.hid (HZ6.out.below hb);clear hb;clear HZ6;go_wp2_with fail;refine (eSame_es HU.out HU.out true (decide_eq_true rfl)).mono ?_;rintro e w111 ⟨rfl,hb⟩;replace HB:=Lib.hid (bstep HB.out hb);replace HU:=Lib.hid (HU.out.below hb);replace HD5:=Lib.hid (HD5.out.below hb);clear hb;go_wp2_with fail;refine (eSame_es HU.out HD5.out false HDN.out).mono ?_;rintro e w112 ⟨rfl,hb⟩;replace HB:=Lib.hid (bstep HB.out hb);replace HU:=Lib.hid (HU.out.below hb);replace HD5:=Lib.hid (HD5.out.below hb);clear hb;go_wp2;go_ret;exact⟨rfl,HB.out⟩
theorem lsanity_any (w:World) (hL:LaidE w):Calls Tryz.prog 12 #[] w fun e w'=>e=.returned (.bool true)∧Below w.heap.size w w':=by
 have h1:∀n∈sE1,Fine n:=sfine_of (by intro n hn;simp only[List.mem_append];simp only[List.mem_cons,List.not_mem_nil,or_false] at hn⊢;simp[hn]);have h3:∀n∈sE3,Fine n:=sfine_of (by intro n hn;simp only[List.mem_append];simp only[List.mem_cons,List.not_mem_nil,or_false] at hn⊢;simp[hn]);have h4:∀n∈sE4,Fine n:=sfine_of (by intro n hn;simp only[List.mem_append];simp only[List.mem_cons,List.not_mem_nil,or_false] at hn⊢;simp[hn]);have h5:∀n∈sE5,Fine n:=sfine_of (by intro n hn;simp only[List.mem_append];simp only[List.mem_cons,List.not_mem_nil,or_false] at hn⊢;simp[hn]);have h6:∀n∈sE6,Fine n:=sfine_of (by intro n hn;simp only[List.mem_append];simp only[List.mem_cons,List.not_mem_nil,or_false] at hn⊢;simp[hn]);have h7:∀n∈sE7,Fine n:=sfine_of (by intro n hn;simp only[List.mem_append];simp only[List.mem_cons,List.not_mem_nil,or_false] at hn⊢;simp[hn]);have h9:∀n∈[plN 9],Fine n:=sfine_of (by intro n hn;simp only[List.mem_append];simp only[List.mem_cons,List.not_mem_nil,or_false] at hn⊢;simp[hn]);have h6p:∀n∈[plN 6],Fine n:=sfine_of (by intro n hn;simp only[List.mem_append];simp only[List.mem_cons,List.not_mem_nil,or_false] at hn⊢;simp[hn]);have x0:(ofI 0).num.size≤1048576∧(ofI 0).den.size≤1048576:=by decide+kernel
 have x8:(ofI 8).num.size≤1048576∧(ofI 8).den.size≤1048576:=by decide+kernel
 have hBD:∀k:Nat,k<5→∃s:ByteArray,[.string ⟨#[97,100,100,40,49,44,50,41]⟩,.string ⟨#[48,49]⟩,.string ⟨#[50,47,52]⟩,.string ⟨#[111,119,110,46]⟩,.string ⟨#[110,101,97,114,91,48,93,40,49,41]⟩][k]?=some (Value.string s)∧∀W,Below w.heap.size w W→Calls Tryz.prog 20 #[.string s] W fun e w'=>∃A c,e=.returned (.tuple #[.slice A 0 c,.int .i64 11])∧Below W.heap.size W w':=by
  have hz:∀(l:List UInt8),parseE l=([],11)→l.length≤1048576→∀W,Below w.heap.size w W→Calls Tryz.prog 20 #[.string ⟨l.toArray⟩] W fun e w'=>∃A c,e=.returned (.tuple #[.slice A 0 c,.int .i64 11])∧Below W.heap.size W w':=by
   intro l hl hs W hb;refine (ret_es hl (eParse_any l W (hL.below hb) hs)).mono ?_;rintro e w' ⟨A,n,c,he,hE,hb'⟩;obtain rfl:n=0:=hE.len;exact⟨A,c,he,hb'⟩
  intro k hk;obtain rfl|rfl|rfl|rfl|rfl:k=0∨k=1∨k=2∨k=3∨k=4:=by omega
  ·exact⟨_,rfl,hz [97,100,100,40,49,44,50,41] f_b0 (by decide)⟩
  ·exact⟨_,rfl,hz [48,49] f_b1 (by decide)⟩
  ·exact⟨_,rfl,hz [50,47,52] f_b2 (by decide)⟩
  ·exact⟨_,rfl,hz [111,119,110,46] f_b3 (by decide)⟩
  ·exact⟨_,rfl,hz [110,101,97,114,91,48,93,40,49,41] f_b4 (by decide)⟩
 exact sanity_core w (ofI 18).neg (ofI 18).num (ofI 18).den
  (ofI 0).neg (ofI 0).num (ofI 0).den
  (ofI 100).neg (ofI 100).num (ofI 100).den
  (ofI 1).neg (ofI 1).num (ofI 1).den
  (ofI 7).neg (ofI 7).num (ofI 7).den
  (ofI 5).neg (ofI 5).num (ofI 5).den
  (ofI 8).neg (ofI 8).num (ofI 8).den
  (ofI 2).neg (ofI 2).num (ofI 2).den
  halfR.neg halfR.num halfR.den
  (fun W=>sOf_any 1 W (by omega) (by omega))
  (fun W=>sOf_any 2 W (by omega) (by omega))
  (fun W=>sOf_any 0 W (by omega) (by omega))
  (fun W=>sOf_any 8 W (by omega) (by omega))
  (fun W=>sQuo_half W)
  (fun W=>lnumber_any 3 18 W (by omega) (by omega))
  (fun W=>lnumber_any 1 0 W (by omega) (by omega))
  (fun W=>lnumber_any 21 100 W (by omega) (by omega))
  (fun W=>lnumber_any 1 1 W (by omega) (by omega))
  (fun W=>lnumber_any 3 7 W (by omega) (by omega))
  (fun W=>lnumber_any 21 5 W (by omega) (by omega))
  (fun op s W=>lnamed_any op s W)
  (fun op W=>lplain_any op W)
  (fun W hb=>text_es (hL.below hb) (Es_new W sE1 _ 3 rfl rfl (by omega)) h1 f_c1 _ f_t1)
  (fun W hb=>ret_es f_p2 (eParse_any _ W (hL.below hb) (by decide)))
  (fun W hb A n c h=>args_es (hL.below hb) h)
  hBD
  (fun W hb A n c h=>(eRefs_any sE3 A n c W (hL.below hb) h h3).mono fun e w' ⟨A',n',c',he,hE,hb'⟩=>⟨A',n',c',he,by rw[f_r3] at hE;exact hE,hb'⟩)
  (fun W hb A n c A' n' c' h h'=>ret_es f_s3 (eSubst_any sE3 sE4 _ A A' n c n' c' W (hL.below hb) h h' h3 h4))
  (fun W hb A n c h=>text_es (hL.below hb) h h6 f_c6 _ f_t6)
  (fun W hb A n c h=>ret_es f_w0 (eSwap_any sE5 1 (ofI 0) A n c W (hL.below hb) h h5 x0))
  (fun W hb A n c h=>ret_es f_w1 (eSwap_any sE5 0 (ofI 8) A n c W (hL.below hb) h h5 x8))
  (fun W hb A n c h=>text_es (hL.below hb) h h7 f_c7 _ f_t7)
  (fun W hb=>by have:=check_any [] none 0 0 W (hL.below hb) rfl (Nat.le_refl _) (by unfold maxLen;omega) (.inl rfl) (fun n hn=>by cases hn);rw[f_n0] at this;exact this)
  (fun W hb A n c h=>by have:=check_any [plN 9] A n c W (hL.below hb) h.len h.cap h.max h.rd h9;rw[f_n1] at this;exact this)
  (fun W hb A n c h=>by have:=check_any [plN 6] A n c W (hL.below hb) h.len h.cap h.max h.rd h6p;rw[f_n2] at this;exact this)
  (decide_eq_false f_d)
structure Zz (w:World) (l:List Int) (A:Option Addr) (n c:Nat):Prop where
 len:n=l.length
 max:n≤maxLen
 rd:Rd w A (Zs l)
 rng:∀x∈l,-9223372036854775808≤x∧x≤9223372036854775807
theorem Zz.below {w w':World} {l:List Int} {A:Option Addr} {n c:Nat} (h:Zz w l A n c) (hb:Below w.heap.size w w'):Zz w' l A n c:=⟨h.len,h.max,h.rd.below hb,h.rng⟩
theorem made_es {w:World} {l:List Int} {A:Option Addr} {n c:Nat} (h:Zz w l A n c):Calls Tryz.prog 17 #[.slice A n c] w fun e w'=>∃A n c,e=.returned (.slice A n c)∧Es w' (madeE l) A n c∧Below w.heap.size w w':=gMade_any l A n c w h.len h.max h.rd h.rng
end Go.Proofs.YtbicehdehiakgaaGreatDoor
