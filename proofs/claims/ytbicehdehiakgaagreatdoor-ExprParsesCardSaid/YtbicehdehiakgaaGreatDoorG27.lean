/- A part of the proof: P4 Go Gp Gn Lc. -/
import Derived.Sort.Statements
import Derived.Test.YtbicehdehiakgaaGreatDoorG23
import Derived.Test.YtbicehdehiakgaaGreatDoorG25
import Derived.Test.YtbicehdehiakgaaGreatDoorG26
set_option linter.unusedVariables false
set_option linter.unusedSimpArgs false
namespace Go.Proofs.YtbicehdehiakgaaGreatDoor
open Go.RowKit
theorem u8_tri {a b:UInt8} (h1:¬a<b) (h2:¬b<a):a=b:=UInt8.le_antisymm (UInt8.not_lt.1 h2) (UInt8.not_lt.1 h1)
theorem bl_cons (a b:UInt8) (x y:List UInt8):Op.bytesLess (a::x) (b::y)=(decide (a<b)||(a==b&&Op.bytesLess x y)):=rfl
theorem bl_irrefl (x:List UInt8):Op.bytesLess x x=false:=by
 induction x with
 |nil=>rfl
 |cons a x ih=>rw[bl_cons,ih];simp
theorem bl_nil (x:List UInt8):Op.bytesLess x []=false:=by cases x<;>rfl
theorem bl_trans:∀x y z:List UInt8,Op.bytesLess x y=true→Op.bytesLess y z=true→Op.bytesLess x z=true:=by
 intro x
 induction x with
 |nil=>
  intro y z h1 h2;cases z with
  |nil=>rw[bl_nil] at h2;cases h2
  |cons c z=>rfl
 |cons a x ih=>
  intro y z h1 h2;cases y with
  |nil=>rw[bl_nil] at h1;cases h1
  |cons b y=>
   cases z with
   |nil=>rw[bl_nil] at h2;cases h2
   |cons c z=>
    rw[bl_cons] at*;simp only[Bool.or_eq_true,decide_eq_true_eq,Bool.and_eq_true,beq_iff_eq] at*;rcases h1 with h1|⟨rfl,h1⟩
    ·rcases h2 with h2|⟨rfl,h2⟩
     ·exact .inl (UInt8.lt_trans h1 h2)
     ·exact .inl h1
    ·rcases h2 with h2|⟨rfl,h2⟩
     ·exact .inl h2
     ·exact .inr ⟨rfl,ih y z h1 h2⟩
theorem bl_tri:∀x y:List UInt8,Op.bytesLess x y=false→Op.bytesLess y x=false→x=y:=by
 intro x
 induction x with
 |nil=>
  intro y h1 h2;cases y with
  |nil=>rfl
  |cons b y=>cases h1
 |cons a x ih=>
  intro y h1 h2;cases y with
  |nil=>cases h2
  |cons b y=>
   rw[bl_cons] at*;simp only[Bool.or_eq_false_iff,decide_eq_false_iff_not,Bool.and_eq_false_iff,beq_eq_false_iff_ne] at*;have hab:a=b:=u8_tri h1.1 h2.1;subst hab;rw[ih y (by rcases h1.2 with h|h;exact absurd rfl h;exact h) (by rcases h2.2 with h|h;exact absurd rfl h;exact h)]
theorem cb_lt:∀x y:List UInt8,(Lib.compareBytes x y<0↔Op.bytesLess x y=true)∧(Lib.compareBytes x y=0↔x=y):=by
 intro x
 induction x with
 |nil=>
  intro y;cases y with
  |nil=>exact⟨⟨fun h=>absurd h (by decide),fun h=>by cases h⟩,by simp[Lib.compareBytes]⟩
  |cons b y=>exact⟨⟨fun _=>rfl,fun _=>by simp[Lib.compareBytes]⟩,by simp[Lib.compareBytes]⟩
 |cons a x ih=>
  intro y;cases y with
  |nil=>exact⟨⟨fun h=>by simp[Lib.compareBytes] at h,fun h=>by cases h⟩,by simp[Lib.compareBytes]⟩
  |cons b y=>
   obtain⟨i1,i2⟩:=ih y;rw[bl_cons,Lib.compareBytes];by_cases h1:a<b
   ·rw[if_pos h1];refine⟨⟨fun _=>by simp[h1],fun _=>by decide⟩,⟨fun h=>absurd h (by decide),fun h=>?_⟩⟩;injection h with h _;subst h;exact absurd h1 (UInt8.lt_irrefl _)
   ·rw[if_neg h1];by_cases h2:b<a
    ·rw[if_pos h2];have hne:a≠b:=by rintro rfl;exact h1 h2
     refine⟨⟨fun h=>absurd h (by decide),fun h=>by simp[h1,hne] at h⟩,⟨fun h=>absurd h (by decide),fun h=>?_⟩⟩;injection h with h _;exact absurd h hne
    ·rw[if_neg h2];have hab:a=b:=u8_tri h1 h2;subst hab;refine⟨by rw[i1];simp,by rw[i2];simp⟩
theorem bef_iff (a b:Nd):befN a b=true↔a.op<b.op∨(a.op=b.op∧Op.bytesLess a.name.data.toList b.name.data.toList=true):=by
 unfold befN;rw[Lib.toList_data,Lib.toList_data];simp
theorem bef_irrefl (a:Nd):befN a a=false:=by
 cases h:befN a a
 ·rfl
 ·rcases (bef_iff a a).1 h with h|⟨_,h⟩
  ·omega
  ·rw[bl_irrefl] at h;cases h
theorem bef_trans {a b c:Nd} (h1:befN a b=true) (h2:befN b c=true):befN a c=true:=by
 rw[bef_iff] at*;rcases h1 with h1|⟨e1,h1⟩
 ·rcases h2 with h2|⟨e2,h2⟩
  ·exact .inl (by omega)
  ·exact .inl (by omega)
 ·rcases h2 with h2|⟨e2,h2⟩
  ·exact .inl (by omega)
  ·exact .inr ⟨e1.trans e2,bl_trans _ _ _ h1 h2⟩
theorem bef_tri {a b:Nd} (h1:¬befN a b=true) (h2:¬befN b a=true):a.op=b.op∧a.name=b.name:=by
 rw[bef_iff] at*;have e:a.op=b.op:=by omega
 refine⟨e,?_⟩
 have h3:Op.bytesLess a.name.data.toList b.name.data.toList=false:=by
  cases h:Op.bytesLess a.name.data.toList b.name.data.toList
  ·rfl
  ·exact absurd (.inr ⟨e,h⟩) h1
 have h4:Op.bytesLess b.name.data.toList a.name.data.toList=false:=by
  cases h:Op.bytesLess b.name.data.toList a.name.data.toList
  ·rfl
  ·exact absurd (.inr ⟨e.symm,h⟩) h2
 have h5:=bl_tri _ _ h3 h4;have h6:b.name=a.name:=ba_eq (l:=a.name.data.toList) h5.symm;exact h6.symm
theorem bef_tri0 {a b:Nd} (ha:a.num=zR) (hb:b.num=zR) (h1:¬befN a b=true) (h2:¬befN b a=true):a=b:=by
 obtain⟨e1,e2⟩:=bef_tri h1 h2;obtain⟨x,y,z⟩:=a;obtain⟨x',y',z'⟩:=b;simp only at*;subst e1 e2 ha hb;rfl
theorem ord_neg (a b:Nd):ordN a b<0↔befN a b=true:=by
 rw[bef_iff];obtain⟨c1,c2⟩:=cb_lt a.name.data.toList b.name.data.toList;unfold ordN orI Lib.compareInt;rcases Int.lt_trichotomy a.op b.op with h|h|h
 ·rw[show (if a.op<b.op then (-1:Int) else if a.op>b.op then 1 else 0)= -1 from if_pos h,if_neg (by decide)];exact⟨fun _=>.inl h,fun _=>by decide⟩
 ·rw[show (if a.op<b.op then (-1:Int) else if a.op>b.op then 1 else 0)=0 by rw[if_neg (by omega),if_neg (by omega)],if_pos rfl,c1];exact⟨fun hh=>.inr ⟨h,hh⟩,fun hh=>by rcases hh with hh|hh;omega;exact hh.2⟩
 ·rw[show (if a.op<b.op then (-1:Int) else if a.op>b.op then 1 else 0)=1 by rw[if_neg (by omega),if_pos h],if_neg (by decide)];exact⟨fun hh=>absurd hh (by decide),fun hh=>by rcases hh with hh|hh<;>omega⟩
abbrev Str (l:List Nd):Prop:=l.Pairwise (fun a b=>befN a b=true)
theorem str_unique:∀l m:List Nd,Str l→Str m→(∀n,n∈l↔n∈m)→l=m:=by
 intro l
 induction l with
 |nil=>
  intro m _ _ h;cases m with
  |nil=>rfl
  |cons b m=>exact absurd ((h b).2 (List.mem_cons_self ..)) (by simp)
 |cons a l ih=>
  intro m hl hm h;cases m with
  |nil=>exact absurd ((h a).1 (List.mem_cons_self ..)) (by simp)
  |cons b m=>
   obtain⟨hl1,hl2⟩:=List.pairwise_cons.1 hl;obtain⟨hm1,hm2⟩:=List.pairwise_cons.1 hm
   have hab:a=b:=by
    rcases List.mem_cons.1 ((h a).1 (List.mem_cons_self ..)) with e|e
    ·exact e
    ·rcases List.mem_cons.1 ((h b).2 (List.mem_cons_self ..)) with e'|e'
     ·exact e'.symm
     ·have:=bef_trans (hl1 b e') (hm1 a e);rw[bef_irrefl] at this;cases this
   subst hab;rw[ih m hl2 hm2];intro n;constructor
   ·intro hn;rcases List.mem_cons.1 ((h n).1 (List.mem_cons_of_mem _ hn)) with e|e
    ·subst e;have:=hl1 n hn;rw[bef_irrefl] at this;cases this
    ·exact e
   ·intro hn;rcases List.mem_cons.1 ((h n).2 (List.mem_cons_of_mem _ hn)) with e|e
    ·subst e;have:=hm1 n hn;rw[bef_irrefl] at this;cases this
    ·exact e
def place (out:List Nd) (n:Nd):Nat:=(out.takeWhile (befN · n)).length
def ins (out:List Nd) (n:Nd):List Nd:=if out[place out n]?=some n then out else out.take (place out n)++[n]++out.drop (place out n)
theorem tw_split {α:Type} (p:α→Bool) (l:List α):l.take (l.takeWhile p).length=l.takeWhile p∧l.drop (l.takeWhile p).length=l.dropWhile p∧(∀x∈l.takeWhile p,p x=true)∧(∀d m,l.dropWhile p=d::m→p d=false):=by
 induction l with
 |nil=>exact⟨rfl,rfl,fun x hx=>(by cases hx),fun d m h=>(by cases h)⟩
 |cons a l ih=>
  obtain⟨h1,h2,h3,h4⟩:=ih;cases ha:p a
  ·rw[List.takeWhile_cons_of_neg (by simp[ha]),List.dropWhile_cons_of_neg (by simp[ha])];refine⟨rfl,rfl,fun x hx=>(by cases hx),fun d m h=>?_⟩;injection h with h _;rw[←h];exact ha
  ·rw[List.takeWhile_cons_of_pos ha,List.dropWhile_cons_of_pos ha];refine⟨by simp[h1],by simp[h2],fun x hx=>?_,h4⟩;rcases List.mem_cons.1 hx with rfl|hx
   ·exact ha
   ·exact h3 x hx
theorem place_split (out:List Nd) (n:Nd):out.take (place out n)=out.takeWhile (befN · n)∧out.drop (place out n)=out.dropWhile (befN · n):=⟨(tw_split _ out).1,(tw_split _ out).2.1⟩
theorem ins_mem (out:List Nd) (n x:Nd):x∈ins out n↔x∈out∨x=n:=by
 unfold ins;split
 ·next h=>
  have hn:=List.mem_of_getElem? h;exact⟨.inl,fun h=>by rcases h with h|rfl;exact h;exact hn⟩
 ·have h:=List.take_append_drop (place out n) out;constructor
  ·intro hx;rcases List.mem_append.1 hx with hx|hx
   ·rcases List.mem_append.1 hx with hx|hx
    ·exact .inl (List.mem_of_mem_take hx)
    ·exact .inr (by simpa using hx)
   ·exact .inl (List.mem_of_mem_drop hx)
  ·intro hx;rcases hx with hx|rfl
   ·rw[←h] at hx;rcases List.mem_append.1 hx with hx|hx
    ·exact List.mem_append_left _ (List.mem_append_left _ hx)
    ·exact List.mem_append_right _ hx
   ·simp
theorem ins_str {out:List Nd} {n:Nd} (hs:Str out) (hz:∀x∈out,x.num=zR) (hn:n.num=zR):Str (ins out n):=by
 unfold ins;split
 ·exact hs
 ·next hne=>
  have h:=List.take_append_drop (place out n) out;obtain⟨e1,e2⟩:=place_split out n;have hs':=hs;rw[←h] at hs';obtain⟨p1,p2,p3⟩:=List.pairwise_append.1 hs'
  have hT:∀x∈out.take (place out n),befN x n=true:=fun x hx=>by
   rw[e1] at hx;exact (tw_split (befN · n) out).2.2.1 x hx
  have hD:∀x∈out.drop (place out n),befN n x=true:=by
   intro x hx;cases hd:out.drop (place out n) with
   |nil=>rw[hd] at hx;cases hx
   |cons d l=>
    have hd0:¬befN d n=true:=by
     have:=(tw_split (befN · n) out).2.2.2 d l (by rw[←e2,hd]);rw[this];simp
    have hdm:d∈out:=List.mem_of_mem_drop (by rw[hd];exact List.mem_cons_self ..)
    have hdn:d≠n:=by
     rintro rfl;apply hne;have h3:(out.drop (place out d))[0]?=some d:=by rw[hd];rfl
     rw[List.getElem?_drop] at h3;simpa using h3
    have hnd:befN n d=true:=Classical.byContradiction fun hh=>hdn (bef_tri0 (hz d hdm) hn hd0 hh)
    rw[hd] at hx p2;rcases List.mem_cons.1 hx with rfl|hx
    ·exact hnd
    ·exact bef_trans hnd ((List.pairwise_cons.1 p2).1 x hx)
  refine List.pairwise_append.2 ⟨List.pairwise_append.2 ⟨p1,by simp,fun a ha b hb=>?_⟩,p2,fun a ha b hb=>?_⟩
  ·obtain rfl:b=n:=by simpa using hb
   exact hT a ha
  ·rcases List.mem_append.1 ha with ha|ha
   ·exact p3 a ha b hb
   ·obtain rfl:a=n:=by simpa using ha
    exact hD b hb
def nmd (e:List Nd):List Nd:=e.filter fun n=>(shp n.op).nam
def insL (e:List Nd) (out:List Nd):List Nd:=(nmd e).foldl ins out
def refsE (e:List Nd):List Nd:=if checkE e=0 then insL e [] else []
theorem insL_snoc (e:List Nd) (n:Nd) (out:List Nd):insL (e++[n]) out=if (shp n.op).nam then ins (insL e out) n else insL e out:=by
 unfold insL nmd;rw[List.filter_append,List.foldl_append];cases h:(shp n.op).nam<;>simp[h]
theorem nmd_zr {e:List Nd} (h:∀n∈e,wrongN n=0):∀n∈nmd e,n.num=zR:=by
 intro n hn;obtain⟨h1,h2⟩:=List.mem_filter.1 hn;have h3:=shp_nam n.op;rw[h2] at h3;have h4:=of_decide_eq_true h3.symm;refine (num_big (h n h1) (by omega)).2 ?_;rw[shp_stp];exact decide_eq_false (by omega)
theorem fold_ins (l out:List Nd) (hl:∀n∈l,n.num=zR) (ho:Str out) (hz:∀n∈out,n.num=zR):Str (l.foldl ins out)∧∀n,n∈l.foldl ins out↔n∈out∨n∈l:=by
 induction l generalizing out with
 |nil=>exact⟨ho,fun n=>by simp⟩
 |cons a l ih=>
  have ha:=hl a (List.mem_cons_self ..)
  obtain⟨h1,h2⟩:=ih (ins out a) (fun n hn=>hl n (List.mem_cons_of_mem _ hn)) (ins_str ho hz ha) (fun n hn=>by
   rcases (ins_mem _ _ _).1 hn with h|rfl
   ·exact hz n h
   ·exact ha)
  refine⟨h1,fun n=>?_⟩;rw[List.foldl_cons,h2,ins_mem,List.mem_cons];constructor
  ·rintro ((h|h)|h)
   ·exact .inl h
   ·exact .inr (.inl h)
   ·exact .inr (.inr h)
  ·rintro (h|h|h)
   ·exact .inl (.inl h)
   ·exact .inl (.inr h)
   ·exact .inr h
theorem refsE_spec {e:List Nd} (h:checkE e=0):Str (refsE e)∧∀n,n∈refsE e↔n∈nmd e:=by
 have:=fold_ins (nmd e) [] (nmd_zr (checkE_wr h)) List.Pairwise.nil (fun n hn=>by cases hn);unfold refsE insL;rw[if_pos h];exact⟨this.1,fun n=>by rw[this.2];simp⟩
def ddL (p:Nd):List Nd→List Nd
 |[]=>[]
 |x::l=>if x=p then ddL x l else x::ddL x l
def dd:List Nd→List Nd
 |[]=>[]
 |x::l=>x::ddL x l
theorem ddL_snoc (p:Nd) (l:List Nd) (x:Nd):ddL p (l++[x])=if x=(p::l).getLast (by simp) then ddL p l else ddL p l++[x]:=by
 induction l generalizing p with
 |nil=>show ddL p [x]=if x=p then [] else [x];rw[ddL];rfl
 |cons a l ih=>
  rw[List.cons_append,ddL,ih a,ddL];have:(p::a::l).getLast (by simp)=(a::l).getLast (by simp):=by simp
  rw[this];split<;>split<;>simp
theorem dd_succ (es:List Nd) (j:Nat) (h0:0<j) (hj:j<es.length):dd (es.take (j+1))=if es[j]=es[j-1] then dd (es.take j) else dd (es.take j)++[es[j]]:=by
 cases es with
 |nil=>simp at hj
 |cons a es=>
  obtain⟨i,rfl⟩:∃i,j=i+1:=⟨j-1,by omega⟩
  have hi:i<es.length:=by simpa using hj
  have h1:(a::es).take (i+1+1)=a::(es.take i++[es[i]]):=by rw[List.take_succ_cons,List.take_succ_eq_append_getElem hi]
  have h2:(a::es.take i).getLast (by simp)=(a::es)[i+1-1]:=by
   rw[List.getLast_eq_getElem];simp only[List.length_cons,Nat.add_sub_cancel,List.length_take,Nat.min_eq_left (Nat.le_of_lt hi)]
   cases i with
   |zero=>simp
   |succ i=>simp
  rw[h1,List.take_succ_cons,dd,dd,ddL_snoc,h2];simp only[List.getElem_cons_succ]
  split<;>simp
theorem dd_len (l:List Nd):(dd l).length≤l.length:=by
 have h:∀(l:List Nd) (p:Nd),(ddL p l).length≤l.length:=by
  intro l
  induction l with
  |nil=>intro p;simp[ddL]
  |cons x l ih=>
   intro p;rw[ddL];have:=ih x;split<;>simp<;>omega
 cases l with
 |nil=>simp[dd]
 |cons x l=>
  have:=h l x;simp[dd];omega
theorem ddL_mem (l:List Nd) (p n:Nd):n=p∨n∈ddL p l↔n=p∨n∈l:=by
 induction l generalizing p with
 |nil=>simp[ddL]
 |cons x l ih=>
  rw[ddL];have:=ih x;split
  ·next h=>
   subst h;rw[this];simp
  ·rw[List.mem_cons,this];simp
theorem dd_mem (l:List Nd) (n:Nd):n∈dd l↔n∈l:=by
 cases l with
 |nil=>simp[dd]
 |cons x l=>rw[dd,List.mem_cons,ddL_mem,List.mem_cons]
theorem ddL_str (l:List Nd) (p:Nd) (hw:(p::l).Pairwise (fun a b=>¬befN b a=true)) (hz:∀n∈p::l,n.num=zR):Str (ddL p l)∧∀n∈ddL p l,befN p n=true:=by
 induction l generalizing p with
 |nil=>exact⟨List.Pairwise.nil,fun n hn=>by cases hn⟩
 |cons x l ih=>
  obtain⟨h1,h2⟩:=List.pairwise_cons.1 hw;obtain⟨i1,i2⟩:=ih x h2 (fun n hn=>hz n (List.mem_cons_of_mem _ hn));rw[ddL];split
  ·next h=>subst h;exact⟨i1,i2⟩
  ·next h=>
   have hpx:befN p x=true:=Classical.byContradiction fun hh=>h (bef_tri0 (hz x (by simp)) (hz p (by simp)) (h1 x (List.mem_cons_self ..)) hh)
   refine⟨List.pairwise_cons.2 ⟨i2,i1⟩,fun n hn=>?_⟩;rcases List.mem_cons.1 hn with rfl|hn
   ·exact hpx
   ·exact bef_trans hpx (i2 n hn)
theorem dd_str (l:List Nd) (hw:l.Pairwise (fun a b=>¬befN b a=true)) (hz:∀n∈l,n.num=zR):Str (dd l):=by
 cases l with
 |nil=>exact List.Pairwise.nil
 |cons x l=>
  obtain⟨h1,h2⟩:=ddL_str l x hw hz;exact List.pairwise_cons.2 ⟨h2,h1⟩
theorem refsE_dd {e l:List Nd} (h:checkE e=0) (hm:∀n,n∈l↔n∈nmd e) (hw:l.Pairwise (fun a b=>¬befN b a=true)):dd l=refsE e:=by
 obtain⟨h1,h2⟩:=refsE_spec h;refine str_unique _ _ (dd_str l hw (fun n hn=>nmd_zr (checkE_wr h) n ((hm n).1 hn))) h1 (fun n=>?_);rw[dd_mem,hm,h2]
theorem okR_low (neg:Bool) (n d:Nat) (hd:0<d):okR (low neg n d)=true:=by
 have hg:0<Nat.gcd n d:=Nat.gcd_pos_of_pos_right _ hd;have h1:rightS (nbs (n / Nat.gcd n d))=true:=(rightS_iff _).2 (by rw[vbs_nbs]);have h2:rightS (nbs (d / Nat.gcd n d))=true:=(rightS_iff _).2 (by rw[vbs_nbs]);have h3:0<d / Nat.gcd n d:=Nat.div_pos (Nat.le_of_dvd hd (Nat.gcd_dvd_right n d)) hg;have h4:Nat.gcd (n / Nat.gcd n d) (d / Nat.gcd n d)=1:=Nat.coprime_div_gcd_div_gcd hg
 have h5:(n / Nat.gcd n d≠0)↔n≠0:=by
  constructor
  ·rintro h rfl;exact h (by simp)
  ·intro h;have:=Nat.div_pos (Nat.le_of_dvd (by omega) (Nat.gcd_dvd_left n d)) hg;omega
 have h6:low (neg&&decide (n≠0)) (n / Nat.gcd n d) (d / Nat.gcd n d)=low neg n d:=by
  have h7:decide (n / Nat.gcd n d≠0)=decide (n≠0):=by rw[decide_eq_decide];exact h5
  unfold low;rw[h4,Nat.div_one,Nat.div_one,h7];cases neg<;>simp
 unfold okR;show (rightS (nbs (d / Nat.gcd n d))&&decide (0<vbs (nbs (d / Nat.gcd n d)))&&rightS (nbs (n / Nat.gcd n d))&&decide (low (neg&&decide (n≠0)) (vbs (nbs (n / Nat.gcd n d))) (vbs (nbs (d / Nat.gcd n d)))=low neg n d))=true;rw[h1,h2,vbs_nbs,vbs_nbs,h6,decide_eq_true h3,decide_eq_true rfl];rfl
theorem bits_le (m:Nat) (h:m<2 ^ 400):bitsN m≤400:=by
 unfold bitsN;split
 ·omega
 ·next h0=>
  have:=(Nat.log2_lt h0).2 h;omega
theorem fits_low (neg:Bool) (n d:Nat) (hd:0<d) (hn:n<256 ^ 16) (hd2:d<256 ^ 16):fitsR (low neg n d)=true:=by
 have hk:(256:Nat) ^ 16≤2 ^ 400:=by decide+kernel
 unfold fitsR;rw[okR_low neg n d hd];have e1:vbs (low neg n d).num=n / Nat.gcd n d:=vbs_nbs _;have e2:vbs (low neg n d).den=d / Nat.gcd n d:=vbs_nbs _;rw[e1,e2,decide_eq_true (bits_le _ (Nat.lt_of_le_of_lt (Nat.div_le_self _ _) (Nat.lt_of_lt_of_le hn hk))),decide_eq_true (bits_le _ (Nat.lt_of_le_of_lt (Nat.div_le_self _ _) (Nat.lt_of_lt_of_le hd2 hk)))];rfl
theorem fits_made (x y z:Int):fitsR (madeR x y z)=true:=by
 obtain⟨h1,h2,h3⟩:=madeN_lt x y z;exact fits_low _ _ _ h3 h1 h2
theorem stepR_all:∀b:Bool,∀i,i<7→∀j,j<7→(let m:=low b i (1+j);let a:=if m.neg then negR m else m;let r:=if signR a=0 then centR else a;fitsR r&&decide (0<signR r))=true:=by decide+kernel
theorem stepR_fits (x y:Int):fitsR (stepR x y 3)=true∧0<signR (stepR x y 3):=by
 have h1:(madeN x y 3)=((x % 7).toNat,(1+y % 7).toNat):=rfl;obtain⟨a0,a1⟩:=mod_in x 7 (by omega);obtain⟨b0,b1⟩:=mod_in y 7 (by omega);have h:=stepR_all (decide (x<0)) (x % 7).toNat (by omega) (y % 7).toNat (by omega);have e:1+(y % 7).toNat=(1+y % 7).toNat:=by omega
 rw[e] at h;have h2:(fitsR (stepR x y 3)&&decide (0<signR (stepR x y 3)))=true:=h;simpa using h2
theorem pool_name (k:Int):nameB (poolS k).data.toList=true:=by
 have h:∀i,i<6→nameB (pool.getD i [])=true:=by decide+kernel
 obtain⟨a0,a1⟩:=mod_in k 6 (by omega);exact h _ (by omega)
theorem leaf_ok (n:Int):wrongN (leafN n)=0∧(shp (leafN n).op).ops=0:=by
 obtain⟨z0,z1⟩:=mod_in n 8 (by omega);have hop:(leafN n).op=1+n % 8:=by unfold leafN;split<;>rfl
 have hs:∀k:Nat,k<8→(shp (1+(k:Int))).ops=0∧(shp (1+(k:Int))).stp=false∧((shp (1+(k:Int))).nam=true→(shp (1+(k:Int))).lit=false)∧((shp (1+(k:Int))).nam=false→(shp (1+(k:Int))).lit=true):=by decide
 obtain⟨k,hk⟩:∃k:Nat,n % 8=k:=⟨(n % 8).toNat,by omega⟩
 have hk8:k<8:=by omega
 obtain⟨s1,s2,s3,s4⟩:=hs k hk8;refine⟨?_,by rw[hop,hk];exact s1⟩;unfold leafN;rw[hk];split
 ·next h=>
  have h4:¬(1+(k:Int)=4):=by rintro h4;rw[h4] at h;exact absurd h (by decide)
  unfold wrongN numOk;simp only
  rw[s3 h,s2,h,if_neg h4];have hp:=pool_name (n.tdiv 8);rw[if_neg,hp]
  ·simp
  ·simp;omega
 ·next h=>
  have h:(shp (1+(k:Int))).nam=false:=by simpa using h
  unfold wrongN numOk;simp only
  rw[s4 h,s2,h]
  have hnum:(if 1+(k:Int)=4 then decide ((if 1+(k:Int)=4 then ofI ((n.tdiv 8) % 2) else madeR (n.tdiv 8) (n.tdiv 24) (3*(n.tdiv 8).tmod 2))=ofI 0)||decide ((if 1+(k:Int)=4 then ofI ((n.tdiv 8) % 2) else madeR (n.tdiv 8) (n.tdiv 24) (3*(n.tdiv 8).tmod 2))=ofI 1) else fitsR (if 1+(k:Int)=4 then ofI ((n.tdiv 8) % 2) else madeR (n.tdiv 8) (n.tdiv 24) (3*(n.tdiv 8).tmod 2)))=true:=by
   by_cases h4:1+(k:Int)=4
   ·simp only[if_pos h4]
    obtain⟨p0,p1⟩:=mod_in (n.tdiv 8) 2 (by omega);have:(n.tdiv 8) % 2=0∨(n.tdiv 8) % 2=1:=by omega
    rcases this with h|h<;>rw[h]<;>decide+kernel
   ·simp only[if_neg h4]
    exact fits_made _ _ _
  rw[if_neg]
  ·simp
  ·simp only[if_true,hnum]
   simp;omega
theorem node_ok (n:Int) (ho:(shp (1+n % 24)).ops≠0):wrongN (nodeN n)=0:=by
 obtain⟨z0,z1⟩:=mod_in n 24 (by omega);have hs:∀k:Nat,k<24→(shp (1+(k:Int))).ops≠0→¬(1+(k:Int)=4)∧(shp (1+(k:Int))).lit=false∧((shp (1+(k:Int))).nam=true→(shp (1+(k:Int))).stp=false):=by decide
 obtain⟨k,hk⟩:∃k:Nat,n % 24=k:=⟨(n % 24).toNat,by omega⟩
 rw[hk] at ho;obtain⟨s1,s2,s3⟩:=hs k (by omega) ho;unfold nodeN;rw[hk];unfold wrongN numOk;simp only
 rw[s2,if_neg s1];obtain⟨t1,t2⟩:=stepR_fits (n.tdiv 24) (n.tdiv 48);have hp:=pool_name (n.tdiv 24);cases hn:(shp (1+(k:Int))).nam
 ·cases hst:(shp (1+(k:Int))).stp
  ·rw[if_neg]
   ·simp
   ·simp;omega
  ·rw[if_neg]
   ·simp
   ·simp[t1,t2];omega
 ·rw[s3 hn];rw[if_neg]
  ·simp[hp]
  ·simp;omega
def Dep (es:List Nd) (d:Nat):Prop:=∀r,chk (es++r) 0=chk r d
theorem Dep.snoc {es:List Nd} {d:Nat} {n:Nd} (h:Dep es d) (hn:wrongN n=0) (ho:(shp n.op).ops≤d):Dep (es++[n]) (d-(shp n.op).ops+1):=by
 intro r;rw[List.append_assoc,h];show chk (n::r) d=_;rw[chk,if_neg (by simp[hn]),if_neg (by omega)]
theorem madeS_dep {s:List Nd × Nat} (h:Dep s.1 s.2) (n:Int):Dep (madeS s n).1 (madeS s n).2:=by
 unfold madeS;split
 ·obtain⟨h1,h2⟩:=leaf_ok (n.tdiv 24);have:=h.snoc h1 (by rw[h2];omega);rw[h2] at this;exact this
 ·next hc=>
  have ho:(shp (1+n % 24)).ops≠0:=fun e=>hc (.inl e)
  exact h.snoc (n:=nodeN n) (node_ok n ho) (by show (shp (1+n % 24)).ops≤_;omega)
theorem madeP_dep (l:List Int):Dep (madeP l).1 (madeP l).2:=by
 have h:∀(l:List Int) (s:List Nd × Nat),Dep s.1 s.2→Dep (l.foldl madeS s).1 (l.foldl madeS s).2:=by
  intro l
  induction l with
  |nil=>intro s h;exact h
  |cons n l ih=>intro s h;exact ih _ (madeS_dep h n)
 exact h l ([],0) (fun r=>rfl)
theorem nu_ok:wrongN (nuN 3 1)=0∧wrongN (plN 9)=0:=by decide+kernel
theorem madeF_dep {s:List Nd × Nat} (h:Dep s.1 s.2):Dep (madeF s).1 (madeF s).2∧0<(madeF s).2:=by
 unfold madeF;split
 ·next h0=>
  have:=h.snoc nu_ok.1 (by show 0≤_;omega);rw[h0] at this;exact⟨this,by show 0<1;omega⟩
 ·exact⟨h,by omega⟩
theorem rep_dep {es:List Nd} {d:Nat} (h:Dep es (d+1)):∀j,j≤d→Dep (es++List.replicate j (plN 9)) (d-j+1):=by
 intro j
 induction j with
 |zero=>intro _;simpa using h
 |succ j ih=>
  intro hj;have:=(ih (by omega)).snoc nu_ok.2 (by show 2≤_;omega);rw[List.replicate_succ',←List.append_assoc];have e:d-j+1-(shp (plN 9).op).ops+1=d-(j+1)+1:=by show d-j+1-2+1=_;omega
  rw[e] at this;exact this
theorem madeE_len (l:List Int):(madeE l).length≤60∧0<(madeE l).length:=by
 obtain⟨h1,h2⟩:=madeP_len (l.take 30);have h3:(l.take 30).length≤30:=by rw[List.length_take];omega
 unfold madeE;rw[List.length_append,List.length_replicate];unfold madeF;split
 ·next h0=>simp only[List.length_append,List.length_singleton];omega
 ·next h0=>omega
theorem madeE_check (l:List Int):checkE (madeE l)=0:=by
 unfold checkE;rw[if_neg (by have:=madeE_len l;omega)];obtain⟨h1,h2⟩:=madeF_dep (madeP_dep (l.take 30));obtain⟨d,hd⟩:∃d,(madeF (madeP (l.take 30))).2=d+1:=⟨(madeF (madeP (l.take 30))).2-1,by omega⟩
 rw[hd] at h1;have h3:=rep_dep h1 d (Nat.le_refl _) [];unfold madeE;rw[hd,Nat.add_sub_cancel];rw[List.append_nil] at h3;rw[h3,Nat.sub_self];rfl
theorem fits_size {a:Ra} (h:fitsR a=true):a.num.size≤1048576∧a.den.size≤1048576:=by
 unfold fitsR at h;simp only[Bool.and_eq_true,decide_eq_true_eq] at h;obtain⟨⟨h1,h2⟩,h3⟩:=h;obtain⟨e1,e2,_⟩:=okR_parts h1;obtain⟨K,hK⟩:∃K,K=400:=⟨_,rfl⟩
 have hk:(2:Nat) ^ K=256 ^ 50:=by rw[show K=8*50 from by omega,show (256:Nat)=2 ^ 8 from rfl,←Nat.pow_mul]
 have hlt:∀m,bitsN m≤400→m<256 ^ 50:=by
  intro m hm;unfold bitsN at hm;by_cases h0:m=0
  ·rw[h0];exact Nat.pow_pos (by omega)
  ·rw[if_neg h0] at hm;rw[←hk];exact (Nat.log2_lt h0).1 (by omega)
 have g1:=nbs_size_le _ 50 (hlt _ h2);have g2:=nbs_size_le _ 50 (hlt _ h3);rw[←e1] at g1;rw[←e2] at g2;exact⟨by omega,by omega⟩
theorem wrongN_fine {n:Nd} (h:wrongN n=0):Fine n:=by
 have hn:=(wrongN_parts h).2.2.2.1;unfold numOk at hn;have k0:(ofI 0).num.size≤1048576∧(ofI 0).den.size≤1048576:=by decide+kernel
 have k1:(ofI 1).num.size≤1048576∧(ofI 1).den.size≤1048576:=by decide+kernel
 have k2:zR.num.size≤1048576∧zR.den.size≤1048576:=by decide+kernel
 unfold Fine;split at hn
 ·simp only[Bool.or_eq_true,decide_eq_true_eq] at hn;rcases hn with hn|hn<;>rw[hn]
  ·exact k0
  ·exact k1
 ·split at hn
  ·exact fits_size hn
  ·split at hn
   ·simp only[Bool.and_eq_true] at hn;exact fits_size hn.1
   ·rw[of_decide_eq_true hn];exact k2
theorem check_fine {e:List Nd} (h:checkE e=0):∀n∈e,Fine n:=fun n hn=>wrongN_fine (checkE_wr h n hn)
theorem madeE_fine (l:List Int):∀n∈madeE l,Fine n:=check_fine (madeE_check l)
theorem textR_size50 (a:Ra) (hn:a.num.size≤50) (hd:a.den.size≤50):(textR a).size≤302:=by
 obtain⟨h1,h2⟩:=valR_size a 50 (by omega) hn hd;have h3:=decS_size (vbs (valR a).num) 50 (by omega) (vbs_le _ 50 h1);have h4:=decS_size (vbs (valR a).den) 50 (by omega) (vbs_le _ 50 h2);unfold textR
 have hs:(if (valR a).neg then (⟨#[45]⟩:ByteArray)++decS (vbs (valR a).num) else decS (vbs (valR a).num)).size≤151:=by
  split
  ·rw[ByteArray.size_append];show 1+_≤_;omega
  ·omega
 simp only
 generalize (if (valR a).neg then (⟨#[45]⟩:ByteArray)++decS (vbs (valR a).num) else decS (vbs (valR a).num))=s at*;split
 ·omega
 ·rw[ByteArray.size_append,ByteArray.size_append];show _+(1+_)≤_;omega
theorem fits_size50 {a:Ra} (h:fitsR a=true):a.num.size≤50∧a.den.size≤50:=by
 unfold fitsR at h;simp only[Bool.and_eq_true,decide_eq_true_eq] at h;obtain⟨⟨h1,h2⟩,h3⟩:=h;obtain⟨e1,e2,_⟩:=okR_parts h1;obtain⟨K,hK⟩:∃K,K=400:=⟨_,rfl⟩
 have hk:(2:Nat) ^ K=256 ^ 50:=by rw[show K=8*50 from by omega,show (256:Nat)=2 ^ 8 from rfl,←Nat.pow_mul]
 have hlt:∀m,bitsN m≤400→m<256 ^ 50:=by
  intro m hm;unfold bitsN at hm;by_cases h0:m=0
  ·rw[h0];exact Nat.pow_pos (by omega)
  ·rw[if_neg h0] at hm;rw[←hk];exact (Nat.log2_lt h0).1 (by omega)
 have g1:=nbs_size_le _ 50 (hlt _ h2);have g2:=nbs_size_le _ 50 (hlt _ h3);rw[←e1] at g1;rw[←e2] at g2;exact⟨g1,g2⟩
theorem wrongN_size {n:Nd} (h:wrongN n=0):n.num.num.size≤50∧n.num.den.size≤50:=by
 have hn:=(wrongN_parts h).2.2.2.1;unfold numOk at hn;have k0:(ofI 0).num.size≤50∧(ofI 0).den.size≤50:=by decide+kernel
 have k1:(ofI 1).num.size≤50∧(ofI 1).den.size≤50:=by decide+kernel
 have k2:zR.num.size≤50∧zR.den.size≤50:=by decide+kernel
 split at hn
 ·simp only[Bool.or_eq_true,decide_eq_true_eq] at hn;rcases hn with hn|hn<;>rw[hn]
  ·exact k0
  ·exact k1
 ·split at hn
  ·exact fits_size50 hn
  ·split at hn
   ·simp only[Bool.and_eq_true] at hn;exact fits_size50 hn.1
   ·rw[of_decide_eq_true hn];exact k2
theorem txt_len50 {n:Nd} (h:wrongN n=0) (ops:List (List UInt8)):(txt n ops).length≤700+(ops.map List.length).sum+2*ops.length:=by
 obtain⟨w1,w2⟩:=wrongN_size h;have ht:=textR_size50 n.num w1 w2;have ht':(textR n.num).data.toList.length=(textR n.num).size:=by simp
 have hj:=joinC_len ops;have hw:=shp_word_len n.op;have hn:=name_len h;have hn':n.name.data.toList.length=n.name.size:=by simp
 unfold txt;split
 ·split<;>simp<;>omega
 ·simp only[List.length_append]
  have e1:(if (shp n.op).lit=true then (textR n.num).data.toList else []).length≤302:=by split<;>simp<;>omega
  have e2:(if n.op=2 then [100] else ([]:List UInt8)).length≤1:=by split<;>simp
  have e3:(if (shp n.op).stp=true then [91]++(textR n.num).data.toList++[93] else []).length≤304:=by split<;>simp<;>omega
  have e4:(if (shp n.op).ops=0 then [] else [40]++joinC ops++[41]).length≤(joinC ops).length+2:=by split<;>simp<;>omega
  omega
theorem meas_rev (l:List (List UInt8)):meas l.reverse=meas l:=by unfold meas;rw[List.map_reverse,List.sum_reverse,List.length_reverse]
theorem runT_len (es:List Nd):∀st,(∀n∈es,wrongN n=0)→meas (runT es st)≤meas st+702*es.length:=by
 induction es with
 |nil=>intro st _;exact Nat.le_refl _
 |cons n es ih=>
  intro st hw;have h1:=ih (pshT st n) (fun m hm=>hw m (List.mem_cons_of_mem _ hm));have h2:=txt_len50 (hw n (List.mem_cons_self ..)) (st.take (shp n.op).ops).reverse;have h3:=meas_split st (shp n.op).ops;have h4:=meas_rev (st.take (shp n.op).ops)
  have h5:meas (pshT st n)≤meas st+702:=by
   unfold pshT;show ((txt n _::_).map List.length).sum+2*(txt n _::_).length≤_;rw[List.map_cons,List.sum_cons,List.length_cons];unfold meas at h3 h4⊢;omega
  rw[List.length_cons];show meas (runT es (pshT st n))≤_;omega
theorem textE_len60 {e:List Nd} (h:checkE e=0):(textE e).length≤42120:=by
 have h1:=runT_len e [] (checkE_wr h);have h2:=((checkE_iff e).1 h).1
 have h3:(textE e).length≤meas (runT e []):=by
  unfold textE meas;cases runT e [] with
  |nil=>simp
  |cons a l=>simp;omega
 have h4:meas ([]:List (List UInt8))=0:=rfl;omega
theorem leaf_form (n:Int) (h0:-9223372036854775808≤n∧n≤9223372036854775807):∃(op:Int) (a:Bool) (u d s:ByteArray),leafN n=⟨op,⟨a,u,d⟩,s⟩∧∀W:World,Calls Tryz.prog 45 #[.int .i64 n] W fun e w'=>e=.returned (.agg #[.int .i64 op,.bool a,.string u,.string d,.string s])∧Below W.heap.size W w':=
 ⟨(leafN n).op,(leafN n).num.neg,(leafN n).num.num,(leafN n).num.den,(leafN n).name,rfl,fun W=>gLeaf_any n W h0⟩
theorem step_form (q0 q1:Int) (h0:-9223372036854775808≤q0∧q0≤9223372036854775807) (h1:-9223372036854775808≤q1∧q1≤9223372036854775807):∃(a:Bool) (u d:ByteArray),stepR q0 q1 3=⟨a,u,d⟩∧∀W:World,Calls Tryz.prog 32 #[.agg #[.int .i64 q0,.int .i64 q1,.int .i64 3]] W fun e w'=>e=.returned (.agg #[.bool a,.string u,.string d])∧Below W.heap.size W w':=
 ⟨(stepR q0 q1 3).neg,(stepR q0 q1 3).num,(stepR q0 q1 3).den,rfl,fun W=>gStep_any q0 q1 3 W h0 h1 (by omega)⟩
set_option maxRecDepth 100000 in
set_option maxHeartbeats 3200000 in
theorem gMade_any (l:List Int) (A1:Option Addr) (l1 c1:Nat) (w:World) (hl:l1=l.length) (hm:l1≤maxLen) (hr:Rd w A1 (Zs l)) (hb:∀n∈l,-9223372036854775808≤n∧n≤9223372036854775807):
  Calls Tryz.prog 17 #[.slice A1 l1 c1] w fun e w'=>∃A n c,e=.returned (.slice A n c)∧Es w' (madeE l) A n c∧Below w.heap.size w w':=by
 have HR:=Lib.hid hr;have HLN:=Lib.hid hl;have HRG:=Lib.hid hb;unfold maxLen at hm;have HPL:Hid (∀k,(madeP (l.take k)).1.length=min k l.length):=fun k=>by rw[(madeP_len _).1,List.length_take]
 have HFIN:Hid (∀os dp,(os,dp)=madeP (l.take 30)→madeE l=(madeF (os,dp)).1++List.replicate ((madeF (os,dp)).2-1) (plN 9)):=fun os dp h=>by rw[h];rfl
 obtain⟨one_a,one_u,one_d,hone,HON⟩:∃(a:Bool) (u d:ByteArray),nuN 3 1=⟨3,⟨a,u,d⟩,⟨#[]⟩⟩∧∀W:World,Calls Tryz.prog 37 #[.int .i64 1] W fun e w'=>e=.returned (.agg #[.bool a,.string u,.string d])∧Below W.heap.size W w':=
  ⟨(ofI 1).neg,(ofI 1).num,(ofI 1).den,rfl,fun W=>sOf_any 1 W (by omega) (by omega)⟩
 have HON:=Lib.hid HON;have HONE:=Lib.hid hone;generalize madeE l=re at*;clear hr hl hb hone;go_enter Tryz.func17,Tryz.ntmps17;go_wp2
 go_loopg [3,4,5] l1 (fun g ov dv iv wr=>∃(k:Nat) (os:List Nd) (dp:Nat),k+g=l1∧k≤30∧iv=.int .i64 k∧dv=.int .i64 dp∧Hid (wr.ownsRow w.heap.size 33 5 ov k (nds os))∧Hid ((os,dp)=madeP (l.take k))∧os.length=k∧dp≤k∧Below w.heap.size w wr)
 case atStart=>exact⟨0,[],0,by omega,by omega,rfl,rfl,World.ownsRow_nil _ _ _ _,rfl,rfl,Nat.le_refl _,Below.refl _ _⟩
 case round=>
  obtain⟨k,os,dp,hk,hk30,rfl,rfl,hown,hos,hol,hdk,hbr⟩:=hrel;by_cases hlt:k<l1
  ·by_cases h30:k<30
   ·have h30':(k:Int)<30:=by omega
    have hke:k<l.length:=by rw[←HLN.out];exact hlt
    have hng:=HRG.out (l[k]) (List.getElem_mem hke);obtain⟨b,off,hA,hb,hc⟩:=(HR.out.below hbr).at_ (k:=k) (by rw[Zs_length];exact hke);subst hA;have hcell:=hc k (by rw[Zs_length];exact hke);have hzs:(Zs l)[k]'(by rw[Zs_length];exact hke)=.int .i64 l[k]:=by simp[Zs]
    rw[hzs] at hcell
    have HT:Hid (madeP (l.take (k+1))=madeS (os,dp) l[k]):=by
     show _=_;rw[List.take_succ_eq_append_getElem hke,madeP_snoc,←hos.out]
    generalize l[k]=n at*;obtain⟨hz0,hz1⟩:=mod_in n 24 (by omega);obtain⟨hx0,hx1⟩:=tdiv_in n 24 (by omega) hng;obtain⟨hy0,hy1⟩:=tdiv_in n 48 (by omega) hng;have HMo:=Lib.hid (fun W=>sMod_any n 24 W hng.1 hng.2 (by omega) (by omega));have HMS:Hid (madeS (os,dp) n=if (shp (1+n % 24)).ops=0∨dp<(shp (1+n % 24)).ops then (os++[leafN (n.tdiv 24)],dp+1) else (os++[nodeN n],dp-(shp (1+n % 24)).ops+1)):=rfl;have HND:Hid (nodeN n=⟨1+n % 24,if (shp (1+n % 24)).stp then stepR (n.tdiv 24) (n.tdiv 48) 3 else zR,if (shp (1+n % 24)).nam then poolS (n.tdiv 24) else ⟨#[]⟩⟩):=rfl;generalize madeS (os,dp) n=ms at*;generalize nodeN n=nn at*;obtain⟨x,hx⟩:∃x,n.tdiv 24=x:=⟨_,rfl⟩
    obtain⟨y,hy⟩:∃y,n.tdiv 48=y:=⟨_,rfl⟩
    rw[hx] at hx0 hx1 HMS HND;rw[hy] at hy0 hy1 HND;have hwx:IntKind.i64.wrap x=x:=IntWalk.i64_in _ (by omega);have hwy:IntKind.i64.wrap y=y:=IntWalk.i64_in _ (by omega);have hwz:IntKind.i64.wrap (1+n % 24)=1+n % 24:=IntWalk.i64_in _ (by omega);obtain⟨lo,la,lu,ld,ls,hlq,hLF⟩:=leaf_form x ⟨by omega,hx1⟩;obtain⟨sa,su,sd,hsq,hST⟩:=step_form x y ⟨by omega,hx1⟩ ⟨by omega,hy1⟩;have HPO:=Lib.hid (fun W=>gPool_any x W ⟨by omega,hx1⟩);have HLF:=Lib.hid hLF;have HSTE:=Lib.hid hST;rw[hlq] at HMS;rw[hsq] at HND;generalize poolS x=ps at*;obtain⟨z,hz⟩:∃z,n % 24=z:=⟨_,rfl⟩
    rw[hz] at HMo HMS HND hwz hz0 hz1;obtain⟨op,hop⟩:∃op,1+z=op:=⟨_,rfl⟩
    have hwo:IntKind.i64.wrap (1+z)=op:=hwz.trans hop;rw[hop] at HMS HND;have HAR:=Lib.hid (fun W=>gArity_any op W);have HNM:=Lib.hid (fun W=>gNamed_any op W);have HSP:=Lib.hid (fun W=>gStepped_any op W)
    have hns:¬((shp op).nam=true∧(shp op).stp=true):=by
     rw[shp_nam,shp_stp];simp;omega
    generalize (shp op).ops=o at*;generalize (shp op).nam=nm at*;generalize (shp op).stp=st at*;clear hng hx0 hx1 hy0 hy1 hz0 hz1 hwz hlq hsq hLF hST hz hzs hop hos hb hc;go_wp2_with fail;refine (HMo.out _).mono ?_;rintro e w1 ⟨rfl,rfl⟩;obtain⟨W0,rfl⟩:∃W0:World,W0=wr:=⟨_,rfl⟩
    go_wp2_with fail;refine (HAR.out _).mono ?_;rintro e w1 ⟨rfl,rfl⟩;by_cases hlf:o=0∨dp<o
    ·have HM:Hid (ms=(os++[(⟨lo,⟨la,lu,ld⟩,ls⟩:Nd)],dp+1)):=by show _=_;rw[HMS.out,if_pos hlf]
     rcases Nat.eq_zero_or_pos o with ho|ho
     ·subst ho;go_wp2_with fail;refine (HLF.out _).mono ?_;rintro e w2 ⟨rfl,hb2⟩;have HOX:=Lib.hid (own_below hown.out hb2);have HBB:=Lib.hid (bstep hbr hb2);clear hb2 hbr hown;go_wp2_with (at_builtin;go_must (refine wpList_push w2 #[.int .i64 lo,.bool la,.string lu,.string ld,.string ls] rfl _ _ 22 rfl w.heap.size 33 _ 5 64 1 Tryz.underlying22 info_node rfl (by decide) u3 k (nds os) rfl HOX.out rfl rfl ?_ ?_ ?_ ?_ ?_))
      any_goals first|(unfold maxLen;omega)|omega
      ·first|exact⟨rfl,rfl,rfl,rfl,rfl⟩|(simp[Value.oneCell'];done)
      ·exact HBB.out.size
      intro v' w' hown' hb'
      have HOWN:Hid (w'.ownsRow w.heap.size 33 5 v' (k+1) (nds (os++[(⟨lo,⟨la,lu,ld⟩,ls⟩:Nd)]))):=by
       show World.ownsRow _ _ _ _ _ _ _;rw[nds_append];exact hown'
      have HB:=Lib.hid (HBB.out.trans hb');clear hown' hb';go_wp2
      go_roundg (l1-(k+1))
      case measure=>omega
      case rel=>exact⟨k+1,os++[(⟨lo,⟨la,lu,ld⟩,ls⟩:Nd)],dp+1,by omega,by omega,by go_num,by go_num,HOWN,by show _=_;rw[HT.out];exact HM.out.symm,by simp[hol],by omega,HB.out⟩
     ·have hq0:((o:Int)==0)=false:=by rw[beq_eq_false_iff_ne];omega
      have hq1:(dp:Int)<o:=by omega
      go_wp2_with fail;refine (HLF.out _).mono ?_;rintro e w2 ⟨rfl,hb2⟩;have HOX:=Lib.hid (own_below hown.out hb2);have HBB:=Lib.hid (bstep hbr hb2);clear hb2 hbr hown;go_wp2_with (at_builtin;go_must (refine wpList_push w2 #[.int .i64 lo,.bool la,.string lu,.string ld,.string ls] rfl _ _ 22 rfl w.heap.size 33 _ 5 64 1 Tryz.underlying22 info_node rfl (by decide) u3 k (nds os) rfl HOX.out rfl rfl ?_ ?_ ?_ ?_ ?_))
      any_goals first|(unfold maxLen;omega)|omega
      ·first|exact⟨rfl,rfl,rfl,rfl,rfl⟩|(simp[Value.oneCell'];done)
      ·exact HBB.out.size
      intro v' w' hown' hb'
      have HOWN:Hid (w'.ownsRow w.heap.size 33 5 v' (k+1) (nds (os++[(⟨lo,⟨la,lu,ld⟩,ls⟩:Nd)]))):=by
       show World.ownsRow _ _ _ _ _ _ _;rw[nds_append];exact hown'
      have HB:=Lib.hid (HBB.out.trans hb');clear hown' hb';go_wp2
      go_roundg (l1-(k+1))
      case measure=>omega
      case rel=>exact⟨k+1,os++[(⟨lo,⟨la,lu,ld⟩,ls⟩:Nd)],dp+1,by omega,by omega,by go_num,by go_num,HOWN,by show _=_;rw[HT.out];exact HM.out.symm,by simp[hol],by omega,HB.out⟩
    ·have hq0:((o:Int)==0)=false:=by rw[beq_eq_false_iff_ne];omega
     have hq1:decide ((dp:Int)<o)=false:=by rw[decide_eq_false_iff_not];omega
     have hq2:¬(dp:Int)<o:=by omega
     go_wp2_with fail;obtain⟨V,hV⟩:∃V,V=W0.alloc (.cells #[.int .i64 op,.bool false,.string ⟨#[]⟩,.string ⟨#[]⟩,.string ⟨#[]⟩] 33):=⟨_,rfl⟩
     have hkV:Blk V W0.heap.size 33 [.int .i64 op,.bool false,.string ⟨#[]⟩,.string ⟨#[]⟩,.string ⟨#[]⟩]:=by rw[hV];exact Blk.new W0 _ _
     have hbV:Below W0.heap.size W0 V:=by rw[hV];exact (Below.refl _ _).alloc (Nat.le_refl _) _
     simp only[←hV]
     clear hV;obtain⟨C,hC⟩:∃C,C=W0.heap.size:=⟨_,rfl⟩
     have HC:=Lib.hid hC;rw[←hC] at hkV;simp only[←hC]
     clear hC;refine (HNM.out _).mono ?_;rintro e w1 ⟨rfl,rfl⟩;cases nm
     ·go_wp2_with fail;refine (HSP.out _).mono ?_;rintro e w1 ⟨rfl,rfl⟩;have hcV:=hkV.cells;have hfV:=hkV.froz;cases st
      ·have HBX:=Lib.hid hbV;clear hbV
       have HM:Hid (ms=(os++[(⟨op,⟨false,⟨#[]⟩,⟨#[]⟩⟩,⟨#[]⟩⟩:Nd)],dp-o+1)):=by
        show _=_;rw[HMS.out,if_neg hlf,HND.out];rfl
       have HOX:=Lib.hid (own_below hown.out HBX.out);have HBB:=Lib.hid (hbr.trans (HBX.out.mono hbr.size));clear HBX hbr hown;go_wp2_with (at_builtin;go_must (refine wpList_push V #[.int .i64 op,.bool false,.string ⟨#[]⟩,.string ⟨#[]⟩,.string ⟨#[]⟩] rfl _ _ 22 rfl w.heap.size 33 _ 5 64 1 Tryz.underlying22 info_node rfl (by decide) u3 k (nds os) rfl HOX.out rfl rfl ?_ ?_ ?_ ?_ ?_))
       any_goals first|(unfold maxLen;omega)|omega
       ·first|exact⟨rfl,rfl,rfl,rfl,rfl⟩|(simp[Value.oneCell'];done)
       ·exact HBB.out.size
       intro v' w' hown' hb'
       have HOWN:Hid (w'.ownsRow w.heap.size 33 5 v' (k+1) (nds (os++[(⟨op,⟨false,⟨#[]⟩,⟨#[]⟩⟩,⟨#[]⟩⟩:Nd)]))):=by
        show World.ownsRow _ _ _ _ _ _ _;rw[nds_append];exact hown'
       have HB:=Lib.hid (HBB.out.trans hb');clear hown' hb';have hsb2:IntKind.i64.wrap ((dp:Int)-o)=((dp-o:Nat):Int):=by rw[IntWalk.i64_in _ (by omega)];omega
       go_wp2
       go_roundg (l1-(k+1))
       case measure=>omega
       case rel=>exact⟨k+1,os++[(⟨op,⟨false,⟨#[]⟩,⟨#[]⟩⟩,⟨#[]⟩⟩:Nd)],dp-o+1,by omega,by omega,by go_num,by first|go_num|(congr 1;omega),HOWN,by show _=_;rw[HT.out];exact HM.out.symm,by simp[hol],by omega,HB.out⟩
      ·go_wp2_with fail;refine (HSTE.out _).mono ?_;rintro e w2 ⟨rfl,hb2⟩;have hk2:=hkV.below hb2 hkV.lt;have hbX:=hbV.trans (hb2.mono hbV.size);clear hcV hfV hkV hbV hb2;have hc2:=hk2.cells;have hf2:=hk2.froz;have hkX:=((hk2.set 1 (.bool sa)).set 2 (.string su)).set 3 (.string sd)
       have HBX:Hid (Below W0.heap.size W0 (((w2.setCell ⟨C,1,none⟩ (.bool sa)).setCell ⟨C,2,none⟩ (.string su)).setCell ⟨C,3,none⟩ (.string sd))):=by
        have hCe:=HC.out;have hCl:W0.heap.size≤C:=by omega
        exact ((hbX.setCell (p:=⟨C,1,none⟩) hCl _).setCell (p:=⟨C,2,none⟩) hCl _).setCell (p:=⟨C,3,none⟩) hCl _
       have hcX:=hkX.cells;simp only[List.set_cons_zero,List.set_cons_succ] at hcX;clear hbX hkX hk2
       have HM:Hid (ms=(os++[(⟨op,⟨sa,su,sd⟩,⟨#[]⟩⟩:Nd)],dp-o+1)):=by
        show _=_;rw[HMS.out,if_neg hlf,HND.out];rfl
       have HOX:=Lib.hid (own_below hown.out HBX.out);have HBB:=Lib.hid (hbr.trans (HBX.out.mono hbr.size));clear HBX hbr hown;go_wp2_with (at_builtin;go_must (refine wpList_push (((w2.setCell ⟨C,1,none⟩ (.bool sa)).setCell ⟨C,2,none⟩ (.string su)).setCell ⟨C,3,none⟩ (.string sd)) #[.int .i64 op,.bool sa,.string su,.string sd,.string ⟨#[]⟩] rfl _ _ 22 rfl w.heap.size 33 _ 5 64 1 Tryz.underlying22 info_node rfl (by decide) u3 k (nds os) rfl HOX.out (by rw[World.size_setCell,World.size_setCell,World.size_setCell];rfl) rfl ?_ ?_ ?_ ?_ ?_))
       any_goals first|(unfold maxLen;omega)|omega
       ·first|exact⟨rfl,rfl,rfl,rfl,rfl⟩|(simp[Value.oneCell'];done)
       ·exact HBB.out.size
       intro v' w' hown' hb'
       have HOWN:Hid (w'.ownsRow w.heap.size 33 5 v' (k+1) (nds (os++[(⟨op,⟨sa,su,sd⟩,⟨#[]⟩⟩:Nd)]))):=by
        show World.ownsRow _ _ _ _ _ _ _;rw[nds_append];exact hown'
       have HB:=Lib.hid (HBB.out.trans hb');clear hown' hb';have hsb2:IntKind.i64.wrap ((dp:Int)-o)=((dp-o:Nat):Int):=by rw[IntWalk.i64_in _ (by omega)];omega
       go_wp2
       go_roundg (l1-(k+1))
       case measure=>omega
       case rel=>exact⟨k+1,os++[(⟨op,⟨sa,su,sd⟩,⟨#[]⟩⟩:Nd)],dp-o+1,by omega,by omega,by go_num,by first|go_num|(congr 1;omega),HOWN,by show _=_;rw[HT.out];exact HM.out.symm,by simp[hol],by omega,HB.out⟩
     ·obtain rfl:st=false:=by
       cases st
       ·rfl
       ·exact absurd ⟨rfl,rfl⟩ hns
      go_wp2_with fail;refine (HPO.out _).mono ?_;rintro e w2 ⟨rfl,hb2⟩;have hk2:=hkV.below hb2 hkV.lt;have hbX:=hbV.trans (hb2.mono hbV.size);clear hkV hbV hb2;have hc2:=hk2.cells;have hf2:=hk2.froz;obtain⟨X,hX⟩:∃X,X=w2.setCell ⟨C,4,none⟩ (.string ps):=⟨_,rfl⟩
      have hkX:=hk2.set 4 (.string ps)
      have HBX:Hid (Below W0.heap.size W0 X):=by
       have hCe:=HC.out;have hCl:W0.heap.size≤C:=by omega
       rw[hX];exact hbX.setCell (p:=⟨C,4,none⟩) hCl _
      rw[←hX] at hkX;simp only[List.set_cons_zero,List.set_cons_succ] at hkX;go_wp2_with fail;simp only[←hX]
      clear hX hc2 hf2 hk2 hbX;refine (HSP.out _).mono ?_;rintro e w1 ⟨rfl,rfl⟩;have hcX:=hkX.cells;have hfX:=hkX.froz
      have HM:Hid (ms=(os++[(⟨op,⟨false,⟨#[]⟩,⟨#[]⟩⟩,ps⟩:Nd)],dp-o+1)):=by
       show _=_;rw[HMS.out,if_neg hlf,HND.out];rfl
      have HOX:=Lib.hid (own_below hown.out HBX.out);have HBB:=Lib.hid (hbr.trans (HBX.out.mono hbr.size));clear HBX hbr hown;go_wp2_with (at_builtin;go_must (refine wpList_push X #[.int .i64 op,.bool false,.string ⟨#[]⟩,.string ⟨#[]⟩,.string ps] rfl _ _ 22 rfl w.heap.size 33 _ 5 64 1 Tryz.underlying22 info_node rfl (by decide) u3 k (nds os) rfl HOX.out rfl rfl ?_ ?_ ?_ ?_ ?_))
      any_goals first|(unfold maxLen;omega)|omega
      ·first|exact⟨rfl,rfl,rfl,rfl,rfl⟩|(simp[Value.oneCell'];done)
      ·exact HBB.out.size
      intro v' w' hown' hb'
      have HOWN:Hid (w'.ownsRow w.heap.size 33 5 v' (k+1) (nds (os++[(⟨op,⟨false,⟨#[]⟩,⟨#[]⟩⟩,ps⟩:Nd)]))):=by
       show World.ownsRow _ _ _ _ _ _ _;rw[nds_append];exact hown'
      have HB:=Lib.hid (HBB.out.trans hb');clear hown' hb';have hsb2:IntKind.i64.wrap ((dp:Int)-o)=((dp-o:Nat):Int):=by rw[IntWalk.i64_in _ (by omega)];omega
      go_wp2
      go_roundg (l1-(k+1))
      case measure=>omega
      case rel=>exact⟨k+1,os++[(⟨op,⟨false,⟨#[]⟩,⟨#[]⟩⟩,ps⟩:Nd)],dp-o+1,by omega,by omega,by go_num,by first|go_num|(congr 1;omega),HOWN,by show _=_;rw[HT.out];exact HM.out.symm,by simp[hol],by omega,HB.out⟩
   ·have h30':decide ((k:Int)<30)=false:=by rw[decide_eq_false_iff_not];omega
    have hq9:(k:Int)<l1:=by omega
    have HD:Hid ((os,dp)=madeP (l.take 30)):=by show _=_;rw[hos.out,show k=30 from by omega]
    have HRE0:=Lib.hid (HFIN.out os dp HD.out);by_cases hd0:dp=0
    ·subst hd0
     have HRE:Hid (re=(os++[(⟨3,⟨one_a,one_u,one_d⟩,⟨#[]⟩⟩:Nd)])++List.replicate (1-1) (plN 9)):=by
      show _=_;rw[HRE0.out];unfold madeF;rw[if_pos rfl,HONE.out]
     clear HRE0 HFIN HD hos;go_wp2_with fail;refine (HON.out _).mono ?_;rintro e w2 ⟨rfl,hb2⟩;have HOX:=Lib.hid (own_below hown.out hb2);have HBB:=Lib.hid (bstep hbr hb2);clear hb2 hbr hown;go_wp2_with (at_builtin;go_must (refine wpList_push w2 #[.int .i64 3,.bool one_a,.string one_u,.string one_d,.string ⟨#[]⟩] rfl _ _ 22 rfl w.heap.size 33 _ 5 64 1 Tryz.underlying22 info_node rfl (by decide) u3 k (nds os) rfl HOX.out rfl rfl ?_ ?_ ?_ ?_ ?_))
     any_goals first|(unfold maxLen;omega)|omega
     ·first|exact⟨rfl,rfl,rfl,rfl,rfl⟩|(simp[Value.oneCell'];done)
     ·exact HBB.out.size
     intro v' w' hown' hb'
     have HOWN:Hid (w'.ownsRow w.heap.size 33 5 v' (k+1) (nds (os++[(⟨3,⟨one_a,one_u,one_d⟩,⟨#[]⟩⟩:Nd)]))):=by
      show World.ownsRow _ _ _ _ _ _ _;rw[nds_append];exact hown'
     have HB:=Lib.hid (HBB.out.trans hb');clear hown' hb';go_wp2
     go_loopg [3,4] (1-1) (fun g ov dv wr2=>∃j:Nat,j+g=1-1∧dv=.int .i64 ((1-j:Nat):Int)∧Hid (wr2.ownsRow w.heap.size 33 5 ov (k+1+j) (nds ((os++[(⟨3,⟨one_a,one_u,one_d⟩,⟨#[]⟩⟩:Nd)])++List.replicate j (plN 9))))∧Below w.heap.size w wr2)
     case atStart=>exact⟨0,by omega,by first|rfl|(congr 1),by simpa using HOWN,HB.out⟩
     case round=>
      obtain⟨j,hj,rfl,hown2,hb2⟩:=hrel;clear HB HOWN;by_cases hjl:j<1-1
      ·omega
      ·have hq3:decide ((1:Int)<((1-j:Nat):Int))=false:=by rw[decide_eq_false_iff_not];omega
       have hq4:¬(1:Int)<((1-j:Nat):Int):=by omega
       obtain⟨A,cp,rfl,g1,g2,g3,g4⟩:=own_rd hown2.out;have HBR:=Lib.hid hb2
       have HE:Hid (Es wr re A (k+1+j) cp):=by
        refine⟨?_,g1,g2,?_⟩
        ·rw[HRE.out];simp[hol];omega
        ·rw[HRE.out,show 1-1=j from by omega];exact g3
       clear hb2 g1 g2 g3 g4 hown2;go_wp2;go_ret;exact⟨A,k+1+j,cp,rfl,HE.out,HBR.out⟩
    ·have HRE:Hid (re=os++List.replicate (dp-1) (plN 9)):=by
      show _=_;rw[HRE0.out];unfold madeF;rw[if_neg hd0]
     have hq5:((dp:Int)==0)=false:=by rw[beq_eq_false_iff_ne];omega
     have HOWN:=hown;have HB:=Lib.hid hbr;clear HRE0 HFIN HD hos hown hbr;go_wp2
     go_loopg [3,4] (dp-1) (fun g ov dv wr2=>∃j:Nat,j+g=dp-1∧dv=.int .i64 ((dp-j:Nat):Int)∧Hid (wr2.ownsRow w.heap.size 33 5 ov (k+j) (nds (os++List.replicate j (plN 9))))∧Below w.heap.size w wr2)
     case atStart=>exact⟨0,by omega,by first|rfl|(congr 1),by simpa using HOWN,HB.out⟩
     case round=>
      obtain⟨j,hj,rfl,hown2,hb2⟩:=hrel;clear HB HOWN;by_cases hjl:j<dp-1
      ·have hq3:(1:Int)<((dp-j:Nat):Int):=by omega
       have HB2:=Lib.hid hb2;clear hb2;go_wp2_with (at_builtin;go_must (refine wpList_push wr #[.int .i64 9,.bool false,.string ⟨#[]⟩,.string ⟨#[]⟩,.string ⟨#[]⟩] rfl _ _ 22 rfl w.heap.size 33 _ 5 64 1 Tryz.underlying22 info_node rfl (by decide) u3 (k+j) (nds (os++List.replicate j (plN 9))) rfl hown2.out rfl rfl ?_ ?_ ?_ ?_ ?_))
       any_goals first|(unfold maxLen;omega)|omega
       ·first|exact⟨rfl,rfl,rfl,rfl,rfl⟩|(simp[Value.oneCell'];done)
       ·exact HB2.out.size
       intro v' w' hown' hb'
       have HOW3:Hid (w'.ownsRow w.heap.size 33 5 v' (k+(j+1)) (nds (os++List.replicate (j+1) (plN 9)))):=by
        show World.ownsRow _ _ _ _ _ _ _;rw[List.replicate_succ',←List.append_assoc,nds_append];exact hown'
       have HB3:=Lib.hid (HB2.out.trans hb');have hsb:IntKind.i64.wrap (((dp-j:Nat):Int)-1)=((dp-(j+1):Nat):Int):=by rw[IntWalk.i64_in _ (by omega)];omega
       clear hown' hb';go_wp2
       go_roundg (dp-1-(j+1))
       case measure=>omega
       case rel=>exact⟨j+1,by omega,by first|go_num|(congr 1;omega),HOW3,HB3.out⟩
      ·have hq3:decide ((1:Int)<((dp-j:Nat):Int))=false:=by rw[decide_eq_false_iff_not];omega
       have hq4:¬(1:Int)<((dp-j:Nat):Int):=by omega
       obtain⟨A,cp,rfl,g1,g2,g3,g4⟩:=own_rd hown2.out;have HBR:=Lib.hid hb2
       have HE:Hid (Es wr re A (k+j) cp):=by
        refine⟨?_,g1,g2,?_⟩
        ·rw[HRE.out];simp[hol];omega
        ·rw[HRE.out,show dp-1=j from by omega];exact g3
       clear hb2 g1 g2 g3 g4 hown2;go_wp2;go_ret;exact⟨A,k+j,cp,rfl,HE.out,HBR.out⟩
  ·have hq9:decide ((k:Int)<l1)=false:=by rw[decide_eq_false_iff_not];omega
   have HD:Hid ((os,dp)=madeP (l.take 30)):=by
    show _=_;rw[hos.out,List.take_of_length_le (by have:=HLN.out;omega),List.take_of_length_le (by have:=HLN.out;omega)]
   have HRE0:=Lib.hid (HFIN.out os dp HD.out);by_cases hd0:dp=0
   ·subst hd0
    have HRE:Hid (re=(os++[(⟨3,⟨one_a,one_u,one_d⟩,⟨#[]⟩⟩:Nd)])++List.replicate (1-1) (plN 9)):=by
     show _=_;rw[HRE0.out];unfold madeF;rw[if_pos rfl,HONE.out]
    clear HRE0 HFIN HD hos;go_wp2_with fail;refine (HON.out _).mono ?_;rintro e w2 ⟨rfl,hb2⟩;have HOX:=Lib.hid (own_below hown.out hb2);have HBB:=Lib.hid (bstep hbr hb2);clear hb2 hbr hown;go_wp2_with (at_builtin;go_must (refine wpList_push w2 #[.int .i64 3,.bool one_a,.string one_u,.string one_d,.string ⟨#[]⟩] rfl _ _ 22 rfl w.heap.size 33 _ 5 64 1 Tryz.underlying22 info_node rfl (by decide) u3 k (nds os) rfl HOX.out rfl rfl ?_ ?_ ?_ ?_ ?_))
    any_goals first|(unfold maxLen;omega)|omega
    ·first|exact⟨rfl,rfl,rfl,rfl,rfl⟩|(simp[Value.oneCell'];done)
    ·exact HBB.out.size
    intro v' w' hown' hb'
    have HOWN:Hid (w'.ownsRow w.heap.size 33 5 v' (k+1) (nds (os++[(⟨3,⟨one_a,one_u,one_d⟩,⟨#[]⟩⟩:Nd)]))):=by
     show World.ownsRow _ _ _ _ _ _ _;rw[nds_append];exact hown'
    have HB:=Lib.hid (HBB.out.trans hb');clear hown' hb';go_wp2
    go_loopg [3,4] (1-1) (fun g ov dv wr2=>∃j:Nat,j+g=1-1∧dv=.int .i64 ((1-j:Nat):Int)∧Hid (wr2.ownsRow w.heap.size 33 5 ov (k+1+j) (nds ((os++[(⟨3,⟨one_a,one_u,one_d⟩,⟨#[]⟩⟩:Nd)])++List.replicate j (plN 9))))∧Below w.heap.size w wr2)
    case atStart=>exact⟨0,by omega,by first|rfl|(congr 1),by simpa using HOWN,HB.out⟩
    case round=>
     obtain⟨j,hj,rfl,hown2,hb2⟩:=hrel;clear HB HOWN;by_cases hjl:j<1-1
     ·omega
     ·have hq3:decide ((1:Int)<((1-j:Nat):Int))=false:=by rw[decide_eq_false_iff_not];omega
      have hq4:¬(1:Int)<((1-j:Nat):Int):=by omega
      obtain⟨A,cp,rfl,g1,g2,g3,g4⟩:=own_rd hown2.out;have HBR:=Lib.hid hb2
      have HE:Hid (Es wr re A (k+1+j) cp):=by
       refine⟨?_,g1,g2,?_⟩
       ·rw[HRE.out];simp[hol];omega
       ·rw[HRE.out,show 1-1=j from by omega];exact g3
      clear hb2 g1 g2 g3 g4 hown2;go_wp2;go_ret;exact⟨A,k+1+j,cp,rfl,HE.out,HBR.out⟩
   ·have HRE:Hid (re=os++List.replicate (dp-1) (plN 9)):=by
     show _=_;rw[HRE0.out];unfold madeF;rw[if_neg hd0]
    have hq5:((dp:Int)==0)=false:=by rw[beq_eq_false_iff_ne];omega
    have HOWN:=hown;have HB:=Lib.hid hbr;clear HRE0 HFIN HD hos hown hbr;go_wp2
    go_loopg [3,4] (dp-1) (fun g ov dv wr2=>∃j:Nat,j+g=dp-1∧dv=.int .i64 ((dp-j:Nat):Int)∧Hid (wr2.ownsRow w.heap.size 33 5 ov (k+j) (nds (os++List.replicate j (plN 9))))∧Below w.heap.size w wr2)
    case atStart=>exact⟨0,by omega,by first|rfl|(congr 1),by simpa using HOWN,HB.out⟩
    case round=>
     obtain⟨j,hj,rfl,hown2,hb2⟩:=hrel;clear HB HOWN;by_cases hjl:j<dp-1
     ·have hq3:(1:Int)<((dp-j:Nat):Int):=by omega
      have HB2:=Lib.hid hb2;clear hb2;go_wp2_with (at_builtin;go_must (refine wpList_push wr #[.int .i64 9,.bool false,.string ⟨#[]⟩,.string ⟨#[]⟩,.string ⟨#[]⟩] rfl _ _ 22 rfl w.heap.size 33 _ 5 64 1 Tryz.underlying22 info_node rfl (by decide) u3 (k+j) (nds (os++List.replicate j (plN 9))) rfl hown2.out rfl rfl ?_ ?_ ?_ ?_ ?_))
      any_goals first|(unfold maxLen;omega)|omega
      ·first|exact⟨rfl,rfl,rfl,rfl,rfl⟩|(simp[Value.oneCell'];done)
      ·exact HB2.out.size
      intro v' w' hown' hb'
      have HOW3:Hid (w'.ownsRow w.heap.size 33 5 v' (k+(j+1)) (nds (os++List.replicate (j+1) (plN 9)))):=by
       show World.ownsRow _ _ _ _ _ _ _;rw[List.replicate_succ',←List.append_assoc,nds_append];exact hown'
      have HB3:=Lib.hid (HB2.out.trans hb');have hsb:IntKind.i64.wrap (((dp-j:Nat):Int)-1)=((dp-(j+1):Nat):Int):=by rw[IntWalk.i64_in _ (by omega)];omega
      clear hown' hb';go_wp2
      go_roundg (dp-1-(j+1))
      case measure=>omega
      case rel=>exact⟨j+1,by omega,by first|go_num|(congr 1;omega),HOW3,HB3.out⟩
     ·have hq3:decide ((1:Int)<((dp-j:Nat):Int))=false:=by rw[decide_eq_false_iff_not];omega
      have hq4:¬(1:Int)<((dp-j:Nat):Int):=by omega
      obtain⟨A,cp,rfl,g1,g2,g3,g4⟩:=own_rd hown2.out;have HBR:=Lib.hid hb2
      have HE:Hid (Es wr re A (k+j) cp):=by
       refine⟨?_,g1,g2,?_⟩
       ·rw[HRE.out];simp[hol];omega
       ·rw[HRE.out,show dp-1=j from by omega];exact g3
      clear hb2 g1 g2 g3 g4 hown2;go_wp2;go_ret;exact⟨A,k+j,cp,rfl,HE.out,HBR.out⟩
def cutS (k:Nat) (s:ByteArray):ByteArray:=s.extract 0 (min (s.size:Int) (k:Int)).toNat
theorem cutS_size (k:Nat) (s:ByteArray):(cutS k s).size≤k:=by unfold cutS;rw[ByteArray.size_extract];omega
def cutN (n:Nd):Nd:=⟨n.op,⟨n.num.neg,cutS 60 n.num.num,cutS 60 n.num.den⟩,cutS 30 n.name⟩
def cutL (e:List Nd):List Nd:=(e.take 64).map cutN
theorem cutL_fine (e:List Nd):∀n∈cutL e,Fine n:=by
 intro n hn;obtain⟨m,_,rfl⟩:=List.mem_map.1 hn;exact⟨Nat.le_trans (cutS_size 60 m.num.num) (by omega),Nat.le_trans (cutS_size 60 m.num.den) (by omega)⟩
set_option maxRecDepth 100000 in
set_option maxHeartbeats 3200000 in
theorem lcut_any (es:List Nd) (A1:Option Addr) (l1 c1:Nat) (w:World) (h1:Es w es A1 l1 c1):
  Calls Tryz.prog 13 #[.slice A1 l1 c1] w fun e w'=>∃A n c,e=.returned (.slice A n c)∧Es w' (cutL es) A n c∧Below w.heap.size w w':=by
 have H1:=Lib.hid h1;have hmx:l1≤maxLen:=Nat.le_trans h1.cap h1.max;unfold maxLen at hmx;clear h1;go_enter Tryz.func13,Tryz.ntmps13;go_wp2
 go_loopg [3,4] l1 (fun g ov iv wr=>∃(k:Nat) (os:List Nd),k+g=l1∧k≤64∧iv=.int .i64 k∧Hid (wr.ownsRow w.heap.size 33 5 ov k (nds os))∧Hid (os=(es.take k).map cutN)∧Below w.heap.size w wr)
 case atStart=>exact⟨0,[],by omega,by omega,rfl,World.ownsRow_nil _ _ _ _,rfl,Below.refl _ _⟩
 case round=>
  obtain⟨k,os,hk,hk64,rfl,hown,hos,hbr⟩:=hrel;by_cases hlt:k<l1
  ·by_cases h64:k<64
   ·have hke:k<es.length:=by rw[←H1.out.len];exact hlt
    have h64':(k:Int)<64:=by omega
    obtain⟨b,off,hA,hb,hc0,hc1,hc2,hc3,hc4⟩:=(H1.out.rd.below hbr).nd hke;subst hA
    have HT:Hid ((es.take (k+1)).map cutN=os++[cutN es[k]]):=by
     show _=_;rw[List.take_succ_eq_append_getElem hke,List.map_append,←hos.out];rfl
    generalize es[k]=n at*;obtain⟨op,⟨neg,num,den⟩,nm⟩:=n;simp only at hc0 hc1 hc2 hc3 hc4 HT;have HC:Hid (cutN ⟨op,⟨neg,num,den⟩,nm⟩=⟨op,⟨neg,num.extract 0 (min (num.size:Int) 60).toNat,den.extract 0 (min (den.size:Int) 60).toNat⟩,nm.extract 0 (min (nm.size:Int) 30).toNat⟩):=rfl;have HBA:Hid (Below w.heap.size w (wr.alloc (.cells #[.int .i64 op,.bool neg,.string (num.extract 0 (min (num.size:Int) 60).toNat),.string (den.extract 0 (min (den.size:Int) 60).toNat),.string (nm.extract 0 (min (nm.size:Int) 30).toNat)] 33))):=hbr.alloc hbr.size _;have HOA:=Lib.hid (hown.out.alloc (.cells #[.int .i64 op,.bool neg,.string (num.extract 0 (min (num.size:Int) 60).toNat),.string (den.extract 0 (min (den.size:Int) 60).toNat),.string (nm.extract 0 (min (nm.size:Int) 30).toNat)] 33));clear hos hbr hown;go_wp2_with (at_builtin;go_must (refine wpList_push (wr.alloc (.cells #[.int .i64 op,.bool neg,.string (num.extract 0 (min (num.size:Int) 60).toNat),.string (den.extract 0 (min (den.size:Int) 60).toNat),.string (nm.extract 0 (min (nm.size:Int) 30).toNat)] 33)) #[.int .i64 op,.bool neg,.string (num.extract 0 (min (num.size:Int) 60).toNat),.string (den.extract 0 (min (den.size:Int) 60).toNat),.string (nm.extract 0 (min (nm.size:Int) 30).toNat)] rfl _ _ 22 rfl w.heap.size 33 _ 5 64 1 Tryz.underlying22 info_node rfl (by decide) u3 k (nds os) rfl HOA.out (by rw[World.size_alloc];rfl) rfl ?_ ?_ ?_ ?_ ?_))
    any_goals first|(unfold maxLen;omega)|omega
    ·exact⟨rfl,rfl,rfl,rfl,rfl⟩
    ·exact HBA.out.size
    intro v' w' hown' hb'
    have HOWN:Hid (w'.ownsRow w.heap.size 33 5 v' (k+1) (nds (os++[cutN ⟨op,⟨neg,num,den⟩,nm⟩]))):=by
     show World.ownsRow _ _ _ _ _ _ _;rw[nds_append,HC.out];exact hown'
    have HB:=Lib.hid (HBA.out.trans hb');clear hown' hb' HBA HOA;go_wp2
    go_roundg (l1-(k+1))
    case measure=>omega
    case rel=>exact⟨k+1,os++[cutN ⟨op,⟨neg,num,den⟩,nm⟩],by omega,by omega,by go_num,HOWN,HT.out.symm,HB.out⟩
   ·have h64':decide ((k:Int)<64)=false:=by rw[decide_eq_false_iff_not];omega
    have hx1:(k:Int)<l1:=by omega
    have hT:Hid (os=cutL es):=by
     show _=_;rw[hos.out];unfold cutL;rw[show k=64 from by omega]
    have hlen:os.length=k:=by rw[hos.out,List.length_map,List.length_take];have:=H1.out.len;omega
    obtain⟨A,cp,rfl,g1,g2,g3,g4⟩:=own_rd hown.out;have HBR:=Lib.hid hbr;have G3:Hid (Es wr os A k cp):=⟨hlen.symm,g1,g2,g3⟩
    clear hbr g1 g2 g3 g4 hown hlen hos;go_wp2;go_ret;exact⟨A,k,cp,rfl,by rw[←hT.out];exact G3.out,HBR.out⟩
  ·have hkl:k=l1:=by omega
   have hx1:decide ((k:Int)<l1)=false:=by rw[decide_eq_false_iff_not];omega
   have hT:Hid (os=cutL es):=by
    show _=_;rw[hos.out];unfold cutL;rw[List.take_of_length_le (by have:=H1.out.len;omega),List.take_of_length_le (by have:=H1.out.len;omega)]
   have hlen:os.length=k:=by rw[hos.out,List.length_map,List.length_take];have:=H1.out.len;omega
   obtain⟨A,cp,rfl,g1,g2,g3,g4⟩:=own_rd hown.out;have HBR:=Lib.hid hbr;have G3:Hid (Es wr os A k cp):=⟨hlen.symm,g1,g2,g3⟩
   clear hbr g1 g2 g3 g4 hown hlen hos;go_wp2;go_ret;exact⟨A,k,cp,rfl,by rw[←hT.out];exact G3.out,HBR.out⟩
end Go.Proofs.YtbicehdehiakgaaGreatDoor
