/- A part of the proof: Z1 Z2 Z8. -/
import Derived.Test.YtimokmplkpbmdaaGreatDoorB41
import Derived.Test.YtimokmplkpbmdaaGreatDoorM03
set_option linter.all false
set_option maxRecDepth 100000
set_option maxHeartbeats 0
namespace Go.Proofs.YtimokmplkpbmdaaGreatDoor
open Go.RowKit
def clnB (c:UInt8):Bool:= !(decide (c=10)||decide (c=32)||decide (c=44)||decide (c=58))
def Cln (l:List UInt8):Prop:=∀c∈l,clnB c=true
theorem Cln.no {l:List UInt8} (h:Cln l) {c:UInt8} (hc:clnB c=false):c∉l:=fun k=>by rw[h c k] at hc;cases hc
theorem name_cln {s:ByteArray} (h:nameOk s=true):Cln s.data.toList:=fun c hc=>by
 unfold nameOk nameB at h;rw[Bool.and_eq_true,List.all_eq_true] at h;have:=mem_small (fun c=> !nameC c||clnB c) (fun _=>true) (by decide+kernel) c;simpa [h.2 c hc] using this
theorem rat_cln {a:Ra} (h:okR a=true):Cln (textR a).data.toList:=fun c hc=>by
 have:=mem_small (fun c=> !numL.contains c||clnB c) (fun _=>true) (by decide+kernel) c;rw[textR_num h c hc] at this;simpa using this
theorem seven_cln:∀m∈seven,∀d∈seven,(tyText ⟨false,m,d⟩).data.toList.all clnB=true:=by decide+kernel
theorem tyIn_cases {t:Ty} (h:tyIn t=true):t=⟨true,0,0⟩∨(t.truth=false/\t.money∈seven/\t.days∈seven):=by
 obtain⟨b,m,d⟩:=t;unfold tyIn at h;cases b
 ·simp only[Bool.false_eq_true,if_false,Bool.and_eq_true,decide_eq_true_eq] at h;exact .inr ⟨rfl,seven_mem h.1.1 h.1.2,seven_mem h.2.1 h.2.2⟩
 ·simp only[if_true,Bool.and_eq_true,decide_eq_true_eq] at h;rw[h.1,h.2];exact .inl rfl
theorem ty_cln {t:Ty} (h:tyIn t=true):Cln (tyText t).data.toList:=by
 rcases tyIn_cases h with rfl|⟨h1,h2,h3⟩
 ·exact List.all_eq_true.1 (by decide)
 ·obtain⟨b,m,d⟩:=t;dsimp only at h1;subst h1;exact List.all_eq_true.1 (seven_cln m h2 d h3)
theorem joinC_nl:∀l:List (List UInt8),(∀a∈l,(10:UInt8)∉a)->(10:UInt8)∉joinC l
 |[],_=>List.not_mem_nil
 |a::l,h=>by
  have h1:=h a (List.mem_cons_self ..);have h2:=joinC_nl l fun x hx=>h x (List.mem_cons_of_mem _ hx)
  unfold joinC;split
  ·exact h1
  ·simp[h1,h2]
theorem txt_nl {n:Nd} (h:wrongN n=0) {ops:List (List UInt8)} (ho:∀a∈ops,(10:UInt8)∉a):(10:UInt8)∉txt n ops:=by
 obtain⟨w1,w2,w3,w4,w5⟩:=wrongN_parts h
 have hw:(10:UInt8)∉(shp n.op).word:=by
  have hl:n.op.toNat<shs.length:=by show _<25;omega
  have:∀s∈shs,(10:UInt8)∉s.word:=by decide
  unfold shp;rw[List.getD_eq_getElem?_getD,List.getElem?_eq_getElem hl];exact this _ (List.getElem_mem hl)
 have hn:(10:UInt8)∉n.name.data.toList:=by
  cases hb:(shp n.op).nam
  ·rw[w3 hb];simp
  ·exact (name_cln (w5 hb)).no (by decide)
 have hr:n.op≠4->((shp n.op).lit=true∨(shp n.op).stp=true)->(10:UInt8)∉(textR n.num).data.toList:=fun h4 hl=>(rat_cln (by
  unfold numOk fitsR at w4;rw[if_neg h4] at w4;split at w4
  ·simp only[Bool.and_eq_true] at w4;exact w4.1.1
  ·split at w4
   ·simp only[Bool.and_eq_true] at w4;exact w4.1.1.1
   ·simp_all)).no (by decide)
 have hj:=joinC_nl ops ho;unfold txt;split
 ·split<;>decide
 ·next h4=>
  simp only[List.mem_append,not_or]
  refine⟨⟨⟨⟨⟨hw,hn⟩,?_⟩,?_⟩,?_⟩,?_⟩
  ·split
   ·next hl=>exact hr h4 (.inl hl)
   ·simp
  ·split<;>decide
  ·split
   ·next hl=>simp[hr h4 (.inr hl)]
   ·simp
  ·split<;>simp[hj]
theorem runT_nl:∀(e:List Nd) (st:List (List UInt8)),(∀n∈e,wrongN n=0)->(∀a∈st,(10:UInt8)∉a)->∀a∈runT e st,(10:UInt8)∉a
 |[],_,_,h=>h
 |n::e,st,hw,h=>runT_nl e (pshT st n) (fun m hm=>hw m (List.mem_cons_of_mem _ hm)) (fun a ha=>by
  rcases List.mem_cons.1 ha with rfl|ha
  ·exact txt_nl (hw n (List.mem_cons_self ..)) fun a ha=>h a (List.mem_of_mem_take (List.mem_reverse.1 ha))
  ·exact h a (List.mem_of_mem_drop ha))
theorem textE_nl {e:List Nd} (h:checkE e=0):(10:UInt8)∉textE e:=by
 have:=runT_nl e [] (checkE_wr h) (fun _ ha=>by cases ha);unfold textE;cases hr:runT e [] with
 |nil=>simp
 |cons a r=>rw[hr] at this;exact this a (List.mem_cons_self ..)
def bkT (b:Bk):List UInt8:=(textR b.fr).data.toList++([32]++(textR b.rt).data.toList)
def wdsL:Ln->List ByteArray
 |.f d=>[kFact,d.name,tyText d.ty]
 |.s x=>[kSched,x.name,tyText ⟨false,x.money,x.days⟩]
 |.p x=>kProv::x.name::tyText x.ty::provTl x.charge (!plainP x) (textR x.step) (textR x.cap)
def rstL:Ln->Option (List UInt8)
 |.f _=>none
 |.s x=>some (joinS [44,32] (x.brs.map bkT))
 |.p x=>some (textE x.body)
def tlL:Option (List UInt8)->List UInt8
 |none=>[]
 |some r=>[58,32]++r
def lineL (n:Ln):List UInt8:=joinS [32] ((wdsL n).map fun w=>w.data.toList)++tlL (rstL n)
def LnG:Ln->Prop
 |.f d=>nameOk d.name=true/\tyIn d.ty=true
 |.s x=>nameOk x.name=true/\tyIn ⟨false,x.money,x.days⟩=true/\x.brs≠[]/\x.brs.length<=8/\∀b∈x.brs,fitsR b.fr=true/\fitsR b.rt=true
 |.p x=>nameOk x.name=true/\tyIn x.ty=true/\checkE x.body=0/\(plainP x=false->fitsR x.step=true/\fitsR x.cap=true)
theorem fitK {a:Ra} (h:fitsR a=true):okR a=true:=(fits_size h).1
theorem wds_cln {n:Ln} (h:LnG n):∀w∈wdsL n,Cln w.data.toList:=by
 have hk:Cln kFact.data.toList/\Cln kSched.data.toList/\Cln kProv.data.toList/\Cln sCharge.data.toList/\Cln sStep.data.toList/\Cln sCap1.data.toList:=by unfold Cln;decide
 cases n with
 |f d=>simp only[wdsL,List.forall_mem_cons];exact⟨hk.1,name_cln h.1,ty_cln h.2,fun _ h=>by cases h⟩
 |s x=>simp only[wdsL,List.forall_mem_cons];exact⟨hk.2.1,name_cln h.1,ty_cln h.2.1,fun _ h=>by cases h⟩
 |p x=>
  simp only[wdsL,List.forall_mem_cons]
  refine⟨hk.2.2.1,name_cln h.1,ty_cln h.2.1,fun w hw=>?_⟩;unfold provTl at hw;rcases List.mem_append.1 hw with hw|hw
  ·split at hw
   ·rw[List.mem_singleton.1 hw];exact hk.2.2.2.1
   ·cases hw
  ·cases hp:plainP x<;>rw[hp] at hw
   ·have:=h.2.2.2 hp;simp only[Bool.not_false,if_true,List.mem_cons,List.not_mem_nil,or_false] at hw;rcases hw with rfl|rfl|rfl|rfl
    ·exact hk.2.2.2.2.1
    ·exact rat_cln (fitK this.1)
    ·exact hk.2.2.2.2.2
    ·exact rat_cln (fitK this.2)
   ·cases hw
theorem joinS_mem {sep:List UInt8} {c:UInt8}:∀{ps:List (List UInt8)},c∈joinS sep ps->c∈sep∨∃p∈ps,c∈p
 |[],h=>by cases h
 |[p],h=>.inr ⟨p,List.mem_singleton.2 rfl,h⟩
 |p::q::r,h=>by
  rcases List.mem_append.1 h with h|h
  ·exact .inr ⟨p,List.mem_cons_self ..,h⟩
  ·rcases List.mem_append.1 h with h|h
   ·exact .inl h
   ·rcases joinS_mem (ps:=q::r) h with h|⟨x,hx,h⟩
    ·exact .inl h
    ·exact .inr ⟨x,List.mem_cons_of_mem _ hx,h⟩
theorem joinS_len {sep p:List UInt8}:∀{ps:List (List UInt8)},p∈ps->p.length<=(joinS sep ps).length
 |[q],h=>by rw[List.mem_singleton.1 h];exact Nat.le_refl _
 |q::a::r,h=>by
  show _<=(q++(sep++joinS sep (a::r))).length;rw[List.length_append,List.length_append];rcases List.mem_cons.1 h with rfl|h
  ·omega
  ·have:=joinS_len (sep:=sep) h;omega
theorem joinS_end (sep:List UInt8):∀ls:List (List UInt8),joinS sep (ls++[[]])=ls.flatMap (·++sep)
 |[]=>rfl
 |[a]=>by simp[joinS]
 |a::b::r=>by
  have:=joinS_end sep (b::r);show a++(sep++joinS sep (b::r++[[]]))=_;rw[this];simp
theorem LineW.of {ws:List ByteArray} (h0:ws≠[]) (hc:∀w∈ws,Cln w.data.toList) (r:Option (List UInt8)) (hs:(joinS [32] (ws.map fun w=>w.data.toList)++tlL r).length<=1000000):LineW ⟨(joinS [32] (ws.map fun w=>w.data.toList)++tlL r).toArray⟩ ws ⟨(r.getD []).toArray⟩ r.isSome:=by
 have hn:∀c,clnB c=false->c≠32->c∉joinS [32] (ws.map fun w=>w.data.toList):=fun c h1 h2 h=>by
  rcases joinS_mem h with h|⟨p,hp,h⟩
  ·exact h2 (List.mem_singleton.1 h)
  ·obtain⟨w,hw,rfl⟩:=List.mem_map.1 hp;exact (hc w hw).no h1 h
 obtain⟨h1,h2⟩:=split_join 32 [] (ws.map fun w=>w.data.toList) (by simpa using h0) (fun p hp=>by
  obtain⟨w,hw,rfl⟩:=List.mem_map.1 hp;exact (hc w hw).no (by decide))
 rw[List.length_map] at h1;rw[List.map_map,show ((fun p:List UInt8=>(⟨p.toArray⟩:ByteArray)) ∘ fun w:ByteArray=>w.data.toList)=id from rfl,List.map_id] at h2;refine⟨hs,_,?_,?_,h1,h2⟩
 ·cases r with
  |none=>show Lib.cut (_++[]) _=_;rw[List.append_nil];exact cutC_no (hn 58 (by decide) (by decide))
  |some r=>exact cutC_at r (hn 58 (by decide) (by decide))
 ·rw[List.length_append] at hs;omega
theorem line_ok {n:Ln} (h:LnG n) (hs:(lineL n).length<=1000000):LineOk ⟨(lineL n).toArray⟩ n:=by
 have hW:=LineW.of (by cases n<;>simp[wdsL]) (wds_cln h) (rstL n) hs;have hR:∀r,rstL n=some r->r.length<=1000000:=fun r e=>by unfold lineL at hs;rw[e,List.length_append] at hs;simp[tlL] at hs;omega
 have hA:∀w∈wdsL n,w.size<=1000000:=fun w hw=>by
  have:=joinS_len (sep:=[32]) (List.mem_map.2 ⟨w,hw,rfl⟩:w.data.toList∈(wdsL n).map fun w=>w.data.toList);unfold lineL at hs;rw[List.length_append] at hs;rw[Lib.size_eq];omega
 cases n with
 |f d=>exact⟨_,hW,h⟩
 |s x=>
  obtain⟨h1,h2,h3,h4,h5⟩:=h;have hr:=hR _ rfl
  obtain⟨k1,k2⟩:=split_join 44 [32] (x.brs.map bkT) (by simpa using h3) (fun p hp=>by
   obtain⟨b,hb,rfl⟩:=List.mem_map.1 hp;have g:=h5 b hb;simp[bkT,(rat_cln (fitK g.1)).no (c:=44) (by decide),(rat_cln (fitK g.2)).no (c:=44) (by decide)])
  rw[List.length_map] at k1;refine⟨_,hW,h1,h2,RestB.of hr k2 k1 (by simp) (by omega) fun i hi hi'=>?_⟩;have g:=h5 _ (List.getElem_mem hi);have hl:=joinS_len (sep:=[44,32]) (List.mem_map.2 ⟨_,List.getElem_mem hi,rfl⟩:bkT x.brs[i]∈x.brs.map bkT);simp only[List.getElem_map]
  have hb:(bkT x.brs[i]).length=(textR x.brs[i].fr).data.toList.length+(1+(textR x.brs[i].rt).data.toList.length):=by unfold bkT;rw[List.length_append,List.length_append];rfl
  exact⟨(show (bkT x.brs[i]).length<=_ by omega),_,_,cutC_at _ ((rat_cln (fitK g.1)).no (by decide)),by omega,by omega,ratParse_text _ (fitK g.1),ratParse_text _ (fitK g.2)⟩
 |p x=>
  obtain⟨h1,h2,h3,h4⟩:=h;have hr:=hR _ rfl;refine⟨_,_,_,_,hW,h1,h2,?_,?_,fun hp=>?_,fun hp=>?_⟩
  ·show (textE x.body).length<=_;omega
  ·show parseE (textE x.body)=_;unfold parseE;rw[(parseA_iff _ _).2 ⟨h3,rfl⟩]
  ·have hp':plainP x=false:=by simpa using hp
   obtain⟨g1,g2⟩:=h4 hp';have e1:=hA (textR x.step) (by simp[wdsL,provTl,hp']);have e2:=hA (textR x.cap) (by simp[wdsL,provTl,hp']);exact⟨by omega,by omega,ratParse_text _ (fitK g1),ratParse_text _ (fitK g2)⟩
  ·have hp':plainP x=true:=by simpa using hp
   unfold plainP at hp';simpa using hp'
def lnsL (l:Lw):List Ln:=l.facts.map .f++(l.schs.map .s++l.provs.map .p)
theorem law_lns (l:Lw):lawOf (lnsL l)=l:=by
 have hf:∀(fs:List Dc) (m:Lw),(fs.map Ln.f).foldl Lw.add m=⟨m.facts++fs,m.schs,m.provs⟩:=fun fs=>by
  induction fs with
  |nil=>intro m;simp
  |cons a r ih=>intro m;rw[List.map_cons,List.foldl_cons,ih];simp[Lw.add]
 have hs:∀(fs:List Sc) (m:Lw),(fs.map Ln.s).foldl Lw.add m=⟨m.facts,m.schs++fs,m.provs⟩:=fun fs=>by
  induction fs with
  |nil=>intro m;simp
  |cons a r ih=>intro m;rw[List.map_cons,List.foldl_cons,ih];simp[Lw.add]
 have hp:∀(fs:List Pv) (m:Lw),(fs.map Ln.p).foldl Lw.add m=⟨m.facts,m.schs,m.provs++fs⟩:=fun fs=>by
  induction fs with
  |nil=>intro m;simp
  |cons a r ih=>intro m;rw[List.map_cons,List.foldl_cons,ih];simp[Lw.add]
 unfold lawOf lnsL;rw[List.foldl_append,List.foldl_append,hf,hs,hp];simp
theorem bks_join:∀(r:List Bk) (k:Nat) (b:Bk),bksL k (b::r)=(sSep k).data.toList++([32]++joinS [44,32] ((b::r).map bkT))
 |[],k,b=>by simp[bksL,bkW,bytesL,joinS,bkT,sSp]
 |c::r,k,b=>by
  have:=bks_join r (k+1) c;rw[bksL,this];simp[bkW,bytesL,joinS,bkT,sSp,sSep]
theorem line_text {n:Ln} (h:LnG n):(match n with|.f d=>declL d|.s x=>schL x|.p x=>pvL x)=lineL n++[10]:=by
 cases n with
 |f d=>simp[declL,declW,bytesL,lineL,wdsL,rstL,tlL,joinS,kFact,sFact,sSp,sNl]
 |s x=>
  obtain⟨nm,m,d,brs⟩:=x;cases brs with
  |nil=>exact absurd rfl h.2.2.1
  |cons b r=>
   show bytesL _++bksL 0 (b::r)++bytesL _=_;rw[bks_join];simp[schW,bytesL,lineL,wdsL,rstL,tlL,joinS,kSched,sSch,sSp,sNl,sSep]
 |p x=>
  have hb:bodyT x.body=⟨(textE x.body).toArray⟩:=by unfold bodyT;rw[if_pos h.2.2.1]
  show pvL x=_;unfold pvL;rw[hb];cases hc:x.charge<;>cases hp:plainP x<;>simp[pvW,stW,bytesL,lineL,wdsL,provTl,rstL,tlL,joinS,kProv,sPrv,sSp,sNl,sCs,sChg,sCharge,sStp,sStep,sCap,sCap1,hc,hp]
theorem line_nl {n:Ln} (h:LnG n):(10:UInt8)∉lineL n:=by
 unfold lineL;rw[List.mem_append,not_or];refine⟨fun k=>?_,?_⟩
 ·rcases joinS_mem k with k|⟨p,hp,k⟩
  ·revert k;decide
  ·obtain⟨w,hw,rfl⟩:=List.mem_map.1 hp;exact (wds_cln h w hw).no (by decide) k
 ·cases n with
  |f d=>exact List.not_mem_nil
  |s x=>
   show _∉[58,32]++_;intro k;rcases List.mem_append.1 k with k|k
   ·revert k;decide
   rcases joinS_mem k with k|⟨p,hp,k⟩
   ·revert k;decide
   ·obtain⟨b,hb,rfl⟩:=List.mem_map.1 hp;have g:=h.2.2.2.2 b hb;exact absurd k (by simp[bkT,(rat_cln (fitK g.1)).no (c:=10) (by decide),(rat_cln (fitK g.2)).no (c:=10) (by decide)])
  |p x=>show _∉[58,32]++_;simp[textE_nl h.2.2.1]
theorem text_lns {l:Lw} (h:∀n∈lnsL l,LnG n):textL l=joinS [10] ((lnsL l).map lineL++[[]]):=by
 have ht:∀n∈lnsL l,(match n with|.f d=>declL d|.s x=>schL x|.p x=>pvL x)=lineL n++[10]:=fun n hn=>line_text (h n hn)
 have h2:textL l=(lnsL l).flatMap fun n=>match n with|.f d=>declL d|.s x=>schL x|.p x=>pvL x:=by
  unfold textL lnsL;rw[List.flatMap_append,List.flatMap_append,List.flatMap_map,List.flatMap_map,List.flatMap_map,List.append_assoc]
 rw[h2,joinS_end,List.flatMap_map,List.flatMap_def,List.flatMap_def,List.map_congr_left ht]
theorem text_split {l:Lw} (h:∀n∈lnsL l,LnG n):(lnsL l).length=cntL ⟨(textL l).toArray⟩/\linesB ⟨(textL l).toArray⟩=((lnsL l).map lineL++[[]]).map fun p:List UInt8=>(⟨p.toArray⟩:ByteArray):=by
 obtain⟨h1,h2⟩:=split_join 10 [] ((lnsL l).map lineL++[[]]) (by simp) (fun p hp=>by
  rcases List.mem_append.1 hp with hp|hp
  ·obtain⟨n,hn,rfl⟩:=List.mem_map.1 hp;exact line_nl (h n hn)
  ·rw[List.mem_singleton.1 hp];exact List.not_mem_nil)
 rw[<-text_lns h] at h1 h2;exact⟨by rw[List.length_append,List.length_map] at h1;exact (Nat.succ.inj h1).symm,h2⟩
theorem text_ok {l:Lw} (h:∀n∈lnsL l,LnG n) (hn:(lnsL l).length<=500) (hs:(textL l).length<=1000000):LinesOk ⟨(textL l).toArray⟩ (lnsL l):=by
 obtain⟨h1,h2⟩:=text_split h;refine LinesOk.of hs h2 h1 hn fun i hi hi'=>?_
 have hg:=h _ (List.getElem_mem hi)
 have he:∀hj,(((lnsL l).map lineL++[[]]).map fun p:List UInt8=>(⟨p.toArray⟩:ByteArray))[i]'hj=⟨(lineL (lnsL l)[i]).toArray⟩:=fun hj=>by
  rw[List.getElem_map,List.getElem_append_left (by simpa using hi),List.getElem_map]
 rw[he];refine line_ok hg (Nat.le_trans ?_ hs);rw[text_lns h];exact joinS_len (List.mem_append_left _ (List.mem_map_of_mem (List.getElem_mem hi)))
theorem firstE_all:∀{l:List Int},firstE l=0->∀x∈l,x=0
 |[],_,x,hx=>by cases hx
 |z::r,h,x,hx=>by
  rw[firstE_cons] at h;by_cases hz:z=0
  ·rw[if_pos hz] at h;rcases List.mem_cons.1 hx with rfl|hx
   ·exact hz
   ·exact firstE_all h x hx
  ·rw[if_neg hz] at h;exact absurd h hz
theorem chk_all {l:Lw} (h:checkL l=0):(l.facts.length<=20/\l.schs.length<=8/\l.provs.length<=30)/\namedL l=0/\typedL l=true/\(∀s∈l.schs,rateE s.brs=0)/\∀p∈l.provs,provE (sigsL l) p=0:=by
 unfold checkL at h;split at h
 ·cases h
 next h0=>
 split at h
 ·next h1=>exact absurd h h1
 next h1=>
 split at h
 ·cases h
 next h2=>
 split at h
 ·next h3=>exact absurd h h3
 next h3=>
 refine⟨by omega,Classical.not_not.1 h1,by cases ht:typedL l<;>simp_all,fun s hs=>?_,fun p hp=>?_⟩
 ·exact firstE_all (Classical.not_not.1 h3) _ (List.mem_map_of_mem (f:=fun s:Sc=>rateE s.brs) hs)
 ·exact firstE_all h _ (List.mem_map_of_mem hp)
theorem right_in {t:Ty} (h:rightB t=true):tyIn t=true:=by
 unfold rightB at h;split at h
 ·obtain rfl:=of_decide_eq_true h;rfl
 ·next ht=>
  unfold unitB at h;unfold tyIn;rw[if_neg ht];simp only[Bool.and_eq_true,decide_eq_true_eq] at h⊢;omega
theorem rate_brs8 {b:List Bk} (h:rateE b=0):b≠[]/\b.length<=8/\∀x∈b,fitsR x.fr=true/\fitsR x.rt=true:=by
 unfold rateE at h;split at h
 ·cases h
 split at h
 ·cases h
 split at h
 ·cases h
 split at h
 ·cases h
 next h1 h2 _ h4=>
 refine⟨fun e=>h2 (by rw[e];rfl),by omega,fun x hx=>?_⟩
 have hu:unfitB x=false:=by
  cases hc:unfitB x
  ·rfl
  ·exact absurd (List.any_eq_true.2 ⟨x,hx,hc⟩) h4
 have e:unfitB x=(!fitsR x.fr|| !fitsR x.rt):=rfl;rw[e] at hu;simpa using hu
theorem provE_ok {sg:List Sg} {p:Pv} (h:provE sg p=0):checkE p.body=0/\(plainP p=false->fitsR p.step=true/\fitsR p.cap=true):=by
 unfold provE at h;split at h
 ·next h1=>exact absurd h h1
 next h1=>
 split at h
 ·cases h
 split at h
 ·cases h
 next h3=>
 refine⟨?_,fun hp=>?_⟩
 ·have h1:=Classical.not_not.1 h1;unfold typeE typesE at h1;split at h1
  ·next hc=>exact hc
  ·next hc=>
   dsimp only at h1;rw[if_neg hc] at h1;exact h1
 ·have hc:cappedP p=true:=by
   cases hk:cappedP p
   ·exact absurd (by simp[hp,hk]) h3
   ·rfl
  have e:cappedP p=(!p.ty.truth&&(fitsR p.step&&(fitsR p.cap&&_))):=rfl;rw[e] at hc;simp only[Bool.and_eq_true] at hc;exact⟨hc.2.1,hc.2.2.1⟩
theorem right_lns {l:Lw} (h:checkL l=0):(lnsL l).length<=500/\∀n∈lnsL l,LnG n:=by
 obtain⟨h0,h1,h2,h3,h4⟩:=chk_all h
 have hn:∀x∈(nmsL l).flatten,nameOk x=true:=by
  unfold namedL namedE at h1;split at h1
  ·next hk=>exact List.all_eq_true.1 hk
  ·cases h1
 unfold typedL at h2;simp only[Bool.and_eq_true,List.all_eq_true] at h2;refine⟨by unfold lnsL;simp;omega,fun n hn'=>?_⟩;unfold nmsL at hn;simp only[List.flatten_cons,List.flatten_nil,List.append_nil,List.forall_mem_append,List.forall_mem_map] at hn;rcases List.mem_append.1 hn' with hx|hx
 ·obtain⟨d,hd,rfl⟩:=List.mem_map.1 hx;exact⟨hn.1 d hd,right_in (h2.1 d hd)⟩
 rcases List.mem_append.1 hx with hx|hx
 ·obtain⟨d,hd,rfl⟩:=List.mem_map.1 hx;exact⟨hn.2.1 d hd,right_in (t:=⟨false,d.money,d.days⟩) (h2.2.2 d hd),rate_brs8 (h3 d hd)⟩
 ·obtain⟨d,hd,rfl⟩:=List.mem_map.1 hx;exact⟨hn.2.2 d hd,right_in (h2.2.1 d hd),provE_ok (h4 d hd)⟩
theorem parse_text {l:Lw} (h:checkL l=0):parseR ⟨(textL l).toArray⟩ (lnsL l)=(l,0,0):=by
 have hl:lastB ⟨(textL l).toArray⟩=⟨#[]⟩:=by
  unfold lastB;rw[(text_split (right_lns h).2).2,List.map_append,List.getLastD_eq_getLast?];simp
 unfold parseR;rw[law_lns,hl,h,if_neg (fun h=>h rfl),if_neg (fun h=>h rfl),if_neg (fun h=>h rfl)]
theorem joinS_le {sep:List UInt8} {K:Nat}:∀{ps:List (List UInt8)},(∀p∈ps,p.length<=K)->(joinS sep ps).length<=ps.length*(K+sep.length)
 |[],_=>Nat.zero_le _
 |[p],h=>by
  have:=h p (List.mem_singleton.2 rfl);show p.length<=1*_;omega
 |p::q::r,h=>by
  have h1:=h p (List.mem_cons_self ..);have h2:=joinS_le (sep:=sep) (ps:=q::r) fun x hx=>h x (List.mem_cons_of_mem _ hx)
  show (p++(sep++joinS sep (q::r))).length<=((q::r).length+1)*_;rw[List.length_append,List.length_append,Nat.add_mul];omega
theorem seven_len:∀m∈seven,∀d∈seven,(tyText ⟨false,m,d⟩).size<=302:=by decide+kernel
theorem ty_len {t:Ty} (h:tyIn t=true):(tyText t).size<=302:=by
 rcases tyIn_cases h with rfl|⟨h1,h2,h3⟩
 ·decide
 ·obtain⟨b,m,d⟩:=t;dsimp only at h1;subst h1;exact seven_len m h2 d h3
theorem rat_len {a:Ra} (h:fitsR a=true):(textR a).size<=302:=textR_size50 a (fits_size h).2.1 (fits_size h).2.2
theorem wds_len {n:Ln} (h:LnG n):(wdsL n).length<=8/\∀w∈wdsL n,w.size<=302:=by
 have hk:kFact.size<=302/\kSched.size<=302/\kProv.size<=302/\sCharge.size<=302/\sStep.size<=302/\sCap1.size<=302:=by decide
 cases n with
 |f d=>have:=nameOk_size h.1;simp only[wdsL,List.forall_mem_cons];exact⟨by simp,hk.1,by omega,ty_len h.2,fun _ h=>by cases h⟩
 |s x=>have:=nameOk_size h.1;simp only[wdsL,List.forall_mem_cons];exact⟨by simp,hk.2.1,by omega,ty_len h.2.1,fun _ h=>by cases h⟩
 |p x=>
  have:=nameOk_size h.1;simp only[wdsL,List.forall_mem_cons]
  refine⟨by cases x.charge<;>cases plainP x<;>simp[provTl],hk.2.2.1,by omega,ty_len h.2.1,fun w hw=>?_⟩;unfold provTl at hw;rcases List.mem_append.1 hw with hw|hw
  ·split at hw
   ·rw[List.mem_singleton.1 hw];exact hk.2.2.2.1
   ·cases hw
  ·cases hp:plainP x<;>rw[hp] at hw
   ·have:=h.2.2.2 hp;simp only[Bool.not_false,if_true,List.mem_cons,List.not_mem_nil,or_false] at hw;rcases hw with rfl|rfl|rfl|rfl
    ·exact hk.2.2.2.2.1
    ·exact rat_len this.1
    ·exact hk.2.2.2.2.2
    ·exact rat_len this.2
   ·cases hw
theorem line_len {n:Ln} (h:LnG n):(lineL n).length<=50000:=by
 obtain⟨h1,h2⟩:=wds_len h
 have k:=joinS_le (sep:=[32]) (K:=302) (ps:=(wdsL n).map fun w=>w.data.toList) fun p hp=>by
  obtain⟨w,hw,rfl⟩:=List.mem_map.1 hp;have:=h2 w hw;rwa[Lib.size_eq] at this
 rw[List.length_map] at k;have k2:=Nat.mul_le_mul_right (302+[(32:UInt8)].length) h1;have k3:(302:Nat)+[(32:UInt8)].length=303:=rfl;rw[k3] at k k2
 have hr:∀r,rstL n=some r->r.length<=45000:=fun r e=>by
  cases n with
  |f d=>cases e
  |s x=>
   injection e with e;subst e
   have a:=joinS_le (sep:=[44,32]) (K:=605) (ps:=x.brs.map bkT) fun p hp=>by
    obtain⟨b,hb,rfl⟩:=List.mem_map.1 hp;have g:=h.2.2.2.2 b hb;have e1:=rat_len g.1;have e2:=rat_len g.2;rw[Lib.size_eq] at e1 e2;unfold bkT;simp only[List.length_append,List.length_cons,List.length_nil];omega
   rw[List.length_map] at a;have b:=Nat.mul_le_mul_right (605+[(44:UInt8),32].length) h.2.2.2.1;have c:(605:Nat)+[(44:UInt8),32].length=607:=rfl;rw[c] at a b;omega
  |p x=>injection e with e;subst e;have:=textE_len60 h.2.2.1;omega
 unfold lineL;rw[List.length_append];cases hx:rstL n with
 |none=>show _+0<=_;omega
 |some r=>have:=hr r hx;simp only[tlL,List.length_append,List.length_cons,List.length_nil];omega
theorem text_len {l:Lw} (h:checkL l=0):(textL l).length<=(lnsL l).length*50001:=by
 have hg:=(right_lns h).2;rw[text_lns hg,joinS_end];generalize lnsL l=ns at*
 induction ns with
 |nil=>exact Nat.zero_le _
 |cons n r ih=>
  have h1:=line_len (hg n (List.mem_cons_self ..));have h2:=ih fun x hx=>hg x (List.mem_cons_of_mem _ hx)
  rw[List.map_cons,List.flatMap_cons,List.length_append,List.length_append,show (n::r).length=r.length+1 from rfl,Nat.add_mul];show _+1+_<=_;omega
theorem ty_fine {t:Ty} (h:tyIn t=true):FineTy t:=by
 have hs:∀m∈seven,(-1000<=m/\m<=1000)/\FineR (ofI m):=by decide+kernel
 rcases tyIn_cases h with rfl|⟨_,h2,h3⟩
 ·have k:=hs 0 (by decide);exact⟨k.1,k.1,k.2,k.2⟩
 ·exact⟨(hs _ h2).1,(hs _ h3).1,(hs _ h2).2,(hs _ h3).2⟩
theorem fineT_of {l:Lw} (h:checkL l=0):FineT l:=by
 obtain⟨_,hg⟩:=right_lns h;have hf:∀d∈l.facts,LnG (.f d):=fun d hd=>hg _ (List.mem_append_left _ (List.mem_map_of_mem hd))
 have hs:∀x∈l.schs,LnG (.s x):=fun x hx=>hg _ (List.mem_append_right _ (List.mem_append_left _ (List.mem_map_of_mem hx)))
 have hp:∀x∈l.provs,LnG (.p x):=fun x hx=>hg _ (List.mem_append_right _ (List.mem_append_right _ (List.mem_map_of_mem hx)))
 exact⟨fun d hd=>ty_fine (hf d hd).2,fun x hx=>ty_fine (hs x hx).2.1,fun x hx=>ty_fine (hp x hx).2.1,fun x hx=>Nat.le_trans (hs x hx).2.2.2.1 (by omega)⟩
theorem text_fit {l:Lw} (h0:l.facts≠[]∨l.provs≠[]) (h:checkL l=0):FineT l/\textL l≠[]/\(textL l).length<=1000000000000:=by
 refine⟨fineT_of h,fun e=>?_,?_⟩
 ·unfold textL at e;simp only[List.append_eq_nil_iff,List.flatMap_eq_nil_iff] at e;rcases h0 with h0|h0
  ·obtain⟨d,hd⟩:=List.exists_mem_of_ne_nil _ h0;have:=e.1.1 d hd;simp[declL,declW,bytesL,sFact] at this
  ·obtain⟨d,hd⟩:=List.exists_mem_of_ne_nil _ h0;have:=e.2 d hd;simp[pvL,pvW,bytesL,sPrv] at this
 ·have h1:=text_len h;have h2:=Nat.mul_le_mul_right 50001 (right_lns h).1;omega
theorem parse_own {l:Lw} {w:World} (hL:LaidK w) (hf:FineL l) (h0:l.facts≠[]∨l.provs≠[]) (h:checkL l=0) (hs:(textL l).length<=1000000):Calls Tryz.prog 12 #[.string ⟨(textL l).toArray⟩] w (RetP (l,0,0) w):=by
 obtain⟨h1,h2⟩:=right_lns h;have k:=uParse_any ⟨(textL l).toArray⟩ (lnsL l) w hL (text_ok h2 h1 hs) (by rw[law_lns];exact hf) (by rw[law_lns];exact text_fit h0);rw[parse_text h] at k;exact k
end Go.Proofs.YtimokmplkpbmdaaGreatDoor
