/- A part of the proof: Qi Gf Wv. -/
import Derived.Test.YtimokmplkpbmdaaGreatDoorB36
import Derived.Test.YtimokmplkpbmdaaGreatDoorL03
import Derived.Test.YtimokmplkpbmdaaGreatDoorL04
set_option linter.all false
set_option maxRecDepth 100000
set_option maxHeartbeats 0
namespace Go.Proofs.YtimokmplkpbmdaaGreatDoor
open Go.RowKit
def delL (nm:ByteArray) (l:Lw):Lw:=⟨l.facts.filter fun d=>decide (d.name≠nm),l.schs.filter fun s=>decide (s.name≠nm),l.provs.filter fun p=>decide (p.name≠nm)⟩
theorem filter_del {α:Type} (f:α->ByteArray):∀(xs:List α) (k:Nat) (hk:k<xs.length),(xs.map f).Nodup->xs.filter (fun x=>decide (f x≠f xs[k]))=xs.take k++xs.drop (k+1)
 |a::xs,0,_,h=>by
  rw[List.map_cons,List.nodup_cons] at h;show (a::xs).filter (fun x=>decide (f x≠f a))=xs;rw[List.filter_cons,if_neg (by simp)];exact List.filter_eq_self.2 fun x hx=>decide_eq_true fun e=>h.1 (e ▸ List.mem_map.2 ⟨x,hx,rfl⟩)
 |a::xs,k+1,hk,h=>by
  rw[List.map_cons,List.nodup_cons] at h;have hk':k<xs.length:=by simpa using hk
  show (a::xs).filter (fun x=>decide (f x≠f xs[k]))=a::(xs.take k++xs.drop (k+1))
  have hne:f a≠f xs[k]:=fun e=>h.1 (by rw[e];exact List.mem_map.2 ⟨xs[k],List.getElem_mem hk',rfl⟩)
  rw[List.filter_cons,if_pos (decide_eq_true hne),filter_del f xs k hk' h.2]
theorem filter_all {α:Type} (f:α->ByteArray) {xs:List α} {nm:ByteArray} (h:nm∉xs.map f):xs.filter (fun x=>decide (f x≠nm))=xs:=
 List.filter_eq_self.2 fun x hx=>decide_eq_true fun e=>h (e ▸ List.mem_map.2 ⟨x,hx,rfl⟩)
theorem gone_filter (nm:ByteArray) (sg:List Sg):Gone nm sg (sg.filter fun s=>decide (s.name≠nm)):=by
 refine⟨fun n hn=>?_,fun n hn=>?_⟩
 ·unfold sigOf;rw[List.find?_filter];congr 2
  funext s
  by_cases hf:sigFit n s=true
  ·rw[hf];exact decide_eq_true ⟨decide_eq_true (fun e=>hn ((fit_key hf).2.symm.trans e)),rfl⟩
  ·rw[Bool.not_eq_true] at hf;rw[hf];exact decide_eq_false fun h=>by cases h.2
 ·unfold sigOf;rw[List.find?_filter,List.find?_eq_none.2];rfl;intro s _ h;have h:=of_decide_eq_true h;exact of_decide_eq_true h.1 ((fit_key h.2).2.trans hn)
theorem del_sigs (nm:ByteArray) (l:Lw):sigsL (delL nm l)=(sigsL l).filter fun s=>decide (s.name≠nm):=by
 unfold sigsL delL;simp only[List.filter_append,List.filter_map]
 rfl
theorem del_nm {nm:ByteArray} {l:Lw} (h:NmG l):NmG (delL nm l):=
 ⟨(List.filter_sublist.map _).trans h.f,(List.filter_sublist.map _).trans h.s,(List.filter_sublist.map _).trans h.p,fun d hd=>h.tf d ((List.mem_filter.1 hd).1),fun s hs=>h.ts s ((List.mem_filter.1 hs).1),fun p hp=>h.tp p ((List.mem_filter.1 hp).1),fun s hs=>h.b s ((List.mem_filter.1 hs).1)⟩
theorem del_fine {nm:ByteArray} {l:Lw} (h:MdG l):FineL (delL nm l):=by
 have hf:=h.fine;exact⟨Nat.le_trans (List.length_filter_le _ _) hf.fn,Nat.le_trans (List.length_filter_le _ _) hf.sn,Nat.le_trans (List.length_filter_le _ _) hf.pn,fun s hs=>hf.sb s ((List.mem_filter.1 hs).1),fun p hp=>hf.pb p ((List.mem_filter.1 hp).1)⟩
theorem nam_sig {n:Nd} (h:wrongN n=0):(shp n.op).nam=sigB n.op:=by
 obtain⟨h1,h2⟩:=wrongN_op h;generalize n.op=k at*;rcases (by omega:k=1∨k=2∨k=3∨k=4∨k=5∨k=6∨k=7∨k=8∨k=9∨k=10∨k=11∨k=12∨k=13∨k=14∨k=15∨k=16∨k=17∨k=18∨k=19∨k=20∨k=21∨k=22∨k=23∨k=24) with rfl|rfl|rfl|rfl|rfl|rfl|rfl|rfl|rfl|rfl|rfl|rfl|rfl|rfl|rfl|rfl|rfl|rfl|rfl|rfl|rfl|rfl|rfl|rfl<;>decide
def refB (nm:ByteArray) (e:List Nd):Bool:=(refsE e).any fun n=>decide (n.name=nm)
theorem ref_uses {nm:ByteArray} {e:List Nd} (h:checkE e=0):refB nm e=usesB nm e:=by
 rw[Bool.eq_iff_iff];unfold refB usesB;rw[List.any_eq_true,List.any_eq_true];constructor
 ·rintro⟨n,hn,e⟩;have hn:=List.mem_filter.1 (((refsE_spec h).2 n).1 hn);exact⟨n,hn.1,by rw[<-nam_sig (checkE_wr h n hn.1),hn.2,e];rfl⟩
 ·rintro⟨n,hn,e⟩;rw[Bool.and_eq_true] at e;exact⟨n,((refsE_spec h).2 n).2 (List.mem_filter.2 ⟨hn,by rw[nam_sig (checkE_wr h n hn)];exact e.1⟩),e.2⟩
theorem del_chk {nm:ByteArray} {l:Lw} (h:MdG l):checkL (delL nm l)=if ((delL nm l).provs.any fun p=>refB nm p.body)=true then 12 else 0:=by
 rw[(del_nm h.n).chk,del_sigs]
 have hv:∀p∈(delL nm l).provs,provE ((sigsL l).filter fun s=>decide (s.name≠nm)) p=if refB nm p.body=true then 12 else 0:=fun p hp=>by
  have g:=h.p p ((List.mem_filter.1 hp).1);rw[prov_gone (gone_filter nm _) g,ref_uses (g.b.chk g.n)]
 by_cases ha:((delL nm l).provs.any fun p=>refB nm p.body)=true
 ·rw[if_pos ha];obtain⟨p,hp,hr⟩:=List.any_eq_true.1 ha;refine first_one (by decide) (fun x hx=>?_) (List.mem_map.2 ⟨p,hp,by rw[hv p hp,if_pos hr]⟩);obtain⟨p,hp,rfl⟩:=List.mem_map.1 hx;rw[hv p hp];by_cases hb:refB nm p.body=true
  ·exact .inr (if_pos hb)
  ·exact .inl (if_neg hb)
 ·rw[if_neg ha];refine first_zero fun x hx=>?_
  obtain⟨p,hp,rfl⟩:=List.mem_map.1 hx;rw[hv p hp,if_neg fun hb=>ha (List.any_eq_true.2 ⟨p,hp,hb⟩)]
theorem NmG.apart {l:Lw} (h:NmG l):(l.facts.map Dc.name).Nodup/\(l.schs.map Sc.name).Nodup/\(l.provs.map Pv.name).Nodup/\(∀a∈l.facts.map Dc.name,a∉l.schs.map Sc.name/\a∉l.provs.map Pv.name)/\∀a∈l.schs.map Sc.name,a∉l.provs.map Pv.name:=by
 have hn:=List.nodup_append.1 (all_nodup.sublist (h.f.append (h.s.append h.p)));have hm:=List.nodup_append.1 hn.2.1;exact⟨hn.1,hm.1,hm.2.1,fun a ha=>⟨fun hb=>hn.2.2 a ha a (List.mem_append.2 (.inl hb)) rfl,fun hb=>hn.2.2 a ha a (List.mem_append.2 (.inr hb)) rfl⟩,fun a ha hb=>hm.2.2 a ha a hb rfl⟩
theorem del_fact {l:Lw} (h:NmG l) {k:Nat} (hk:k<l.facts.length):delL l.facts[k].name l=⟨l.facts.take k++l.facts.drop (k+1),l.schs,l.provs⟩:=by
 obtain⟨a1,_,_,a4,_⟩:=h.apart;have hm:l.facts[k].name∈l.facts.map Dc.name:=List.mem_map.2 ⟨_,List.getElem_mem hk,rfl⟩;unfold delL;rw[filter_del Dc.name l.facts k hk a1,filter_all Sc.name (a4 _ hm).1,filter_all Pv.name (a4 _ hm).2]
theorem del_sch {l:Lw} (h:NmG l) {k:Nat} (hk:k<l.schs.length):delL l.schs[k].name l=⟨l.facts,l.schs.take k++l.schs.drop (k+1),l.provs⟩:=by
 obtain⟨_,a2,_,a4,a5⟩:=h.apart;have hm:l.schs[k].name∈l.schs.map Sc.name:=List.mem_map.2 ⟨_,List.getElem_mem hk,rfl⟩;unfold delL;rw[filter_del Sc.name l.schs k hk a2,filter_all Dc.name (fun hb=>(a4 _ hb).1 hm),filter_all Pv.name (a5 _ hm)]
theorem del_prov {l:Lw} (h:NmG l) {k:Nat} (hk:k<l.provs.length):delL l.provs[k].name l=⟨l.facts,l.schs,l.provs.take k++l.provs.drop (k+1)⟩:=by
 obtain⟨_,_,a3,a4,a5⟩:=h.apart;have hm:l.provs[k].name∈l.provs.map Pv.name:=List.mem_map.2 ⟨_,List.getElem_mem hk,rfl⟩;unfold delL;rw[filter_del Pv.name l.provs k hk a3,filter_all Dc.name (fun hb=>(a4 _ hb).2 hm),filter_all Sc.name (fun hb=>a5 _ hb hm)]
theorem place_eq {os:List Nd} {n:Nd} {m:Nat} (h1:m<=os.length) (h2:∀x∈os.take m,befN x n=true) (h3:∀h:m<os.length,befN os[m] n=false):place os n=m:=by
 unfold place
 have e:os.takeWhile (befN · n)=os.take m:=by
  conv=>lhs;rw[<-List.take_append_drop m os]
  rw[List.takeWhile_append_of_pos h2]
  have:(os.drop m).takeWhile (befN · n)=[]:=by
   by_cases hm:m<os.length
   ·rw[List.drop_eq_getElem_cons hm,List.takeWhile_cons_of_neg (by rw[h3 hm];simp)]
   ·rw[List.drop_eq_nil_of_le (by omega)];rfl
  rw[this,List.append_nil]
 rw[e,List.length_take,Nat.min_eq_left h1]
theorem ins_at {os:List Nd} {n:Nd} {m:Nat} (h1:m<=os.length) (h2:∀x∈os.take m,befN x n=true) (h3:∀h:m<os.length,befN os[m] n=false):ins os n=if os[m]?=some n then os else os.take m++[n]++os.drop m:=by
 unfold ins;rw[place_eq h1 h2 h3]
theorem nds_take (os:List Nd) (m:Nat):nds (os.take m)=(nds os).take (m*5):=by
 have h:nds os=nds (os.take m)++nds (os.drop m):=by rw[<-nds_append,List.take_append_drop]
 by_cases hm:m<=os.length
 ·rw[h,List.take_left' (by rw[nds_length,List.length_take,Nat.min_eq_left hm])]
 ·rw[List.take_of_length_le (by omega),List.take_of_length_le (by rw[nds_length];omega)]
theorem nds_drop (os:List Nd) (m:Nat):nds (os.drop m)=(nds os).drop (m*5):=by
 have h:nds os=nds (os.take m)++nds (os.drop m):=by rw[<-nds_append,List.take_append_drop]
 by_cases hm:m<=os.length
 ·rw[h,List.drop_left' (by rw[nds_length,List.length_take,Nat.min_eq_left hm])]
 ·rw[List.drop_eq_nil_of_le (by omega),List.drop_eq_nil_of_le (by rw[nds_length];omega)];rfl
theorem gRefs_any (es:List Nd) (A1:Option Addr) (l1 c1:Nat) (w:World) (h1:Es w es A1 l1 c1) (hf1:∀n∈es,Fine n):
  Calls Tryz.prog 9 #[.slice A1 l1 c1] w fun e w'=>∃A n c,e=.returned (.slice A n c)/\Es w' (refsE es) A n c/\Below w.heap.size w w':=by
 have HC:=gCheck_any es A1 l1 c1 w h1.len h1.cap h1.max h1.rd hf1;have HRE:Hid (refsE es=if checkE es=0 then insL es [] else []):=rfl;have HK:Hid (checkE es=0->l1<=60):=fun hz=>by rw[h1.len];exact ((checkE_iff es).1 hz).1
 have H1:=zH h1;generalize refsE es=re at*;generalize checkE es=z at*;clear h1 hf1;go_enter Tryz.func9,Tryz.ntmps9;go_wp2_with fail;refine HC.mono ?_;rintro e w1 ⟨rfl,hb1⟩;clear HC;by_cases hz:z=0
 ·subst hz;rw[if_pos rfl] at HRE;have hk:=HK.out rfl;clear HK;go_wp2
  go_loopg [4,5] l1 (fun g ov iv wr=>∃(k:Nat) (os:List Nd) (A:Option Addr) (c:Nat),k+g=l1/\iv=.int .i64 k/\ov=.slice A os.length c/\Hid (Es wr os A os.length c)/\Hid (os=insL (es.take k) [])/\os.length<=k/\Below w.heap.size w wr)
  case atStart=>exact⟨0,[],none,0,by omega,rfl,rfl,Es.nil _,rfl,Nat.le_refl _,hb1⟩
  case round=>
   clear hb1;obtain⟨k,os,A,c,hk',rfl,rfl,hes,hos,hol,hbr⟩:=hrel;obtain⟨W0,rfl⟩:∃W0:World,W0=wr:=⟨_,rfl⟩
   by_cases hlt:k<l1
   ·have hke:k<es.length:=by rw[<-H1.out.len];exact hlt
    obtain⟨b,off,rfl,hb,x0,x1,x2,x3,x4⟩:=(H1.out.rd.below hbr).nd hke
    have HT:Hid (insL (es.take (k+1)) []=if (shp es[k].op).nam then ins os es[k] else os):=by
     show _=_;rw[List.take_succ_eq_append_getElem hke,insL_snoc,<-hos.out]
    have HBF:=zH (fun (x:Nd) W=>gBefore_any x es[k] W);generalize es[k]=n at*;have HNM:=gNamed_any n.op W0;generalize (shp n.op).nam=nd at*;obtain⟨op,⟨neg,num,den⟩,nm⟩:=n;simp only at x0 x1 x2 x3 x4 HNM;have hcE:=fun X (hX:Below W0.heap.size W0 X)=>And.intro ((hX.cell (p:=⟨b,off+k*5,none⟩) hb).trans x0) (And.intro ((hX.cell (p:=⟨b,off+k*5+1,none⟩) hb).trans x1) (And.intro ((hX.cell (p:=⟨b,off+k*5+2,none⟩) hb).trans x2) (And.intro ((hX.cell (p:=⟨b,off+k*5+3,none⟩) hb).trans x3) ((hX.cell (p:=⟨b,off+k*5+4,none⟩) hb).trans x4))))
    have k0:(0:Int)<=(k:Int):=by omega
    have k1:(k:Int)<(l1:Int):=by omega
    clear x1 x2 x3 x4 hos;go_wp2_with fail;refine HNM.mono ?_;rintro e w' ⟨rfl,rfl⟩;clear x0 HNM;cases nd
    ·go_wp2
     go_roundg (l1-(k+1))
     case measure=>omega
     case rel=>exact⟨k+1,os,A,c,by omega,by go_num,rfl,hes,HT.out.symm,by omega,hbr⟩
    ·rw[if_pos rfl] at HT;have hR:=Below.refl W0.heap.size W0;go_wp2
     go_loopg [7] os.length (fun g iv wq=>∃m:Nat,m+g=os.length/\iv=.int .i64 m/\Hid (∀x∈os.take m,befN x ⟨op,⟨neg,num,den⟩,nm⟩=true)/\Below W0.heap.size W0 wq)
     case atStart=>exact⟨0,by omega,rfl,fun x hx=>by simp at hx,hR⟩
     case round=>
      clear hR;obtain⟨m,hag,rfl,hall,hbq⟩:=hrel;have m0:(0:Int)<=(m:Int):=by omega
      have hml:m<=os.length:=by omega
      by_cases hao:m<os.length
      case' pos=>
       have m1:(m:Int)<(os.length:Int):=by omega
       obtain⟨b2,off2,rfl,hb2,y0,y1,y2,y3,y4⟩:=hes.out.rd.nd hao;have HTS:Hid (os.take (m+1)=os.take m++[os[m]]):=List.take_succ_eq_append_getElem hao;have HMG:Hid (os[m]?=some os[m]):=List.getElem?_eq_getElem hao;have HMB:Hid (∀h:m<os.length,befN os[m] ⟨op,⟨neg,num,den⟩,nm⟩=befN (os[m]'hao) ⟨op,⟨neg,num,den⟩,nm⟩):=fun _=>rfl
       have HB1:=zH (HBF.out os[m]);obtain⟨dq,hdq⟩:=zF (decide (os[m]=⟨op,⟨neg,num,den⟩,nm⟩));have HEQ:=fun W=>eql_nd os[m] ⟨op,⟨neg,num,den⟩,nm⟩ W
       rw[hdq] at HEQ;have HDQ:Hid (dq=true↔os[m]?=some ⟨op,⟨neg,num,den⟩,nm⟩):=by rw[HMG.out,<-hdq,decide_eq_true_iff];exact⟨fun h=>by rw[h],fun h=>Option.some.inj h⟩
       clear hdq HMG;generalize hbb:befN (os[m]'hao) ⟨op,⟨neg,num,den⟩,nm⟩=bb at HB1 HMB;have HBB:=zH hbb;clear hbb;generalize os[m]'hao=q at HTS HBB HB1 HEQ y0 y1 y2 y3 y4;obtain⟨op2,⟨neg2,num2,den2⟩,nm2⟩:=q;unfold Nd.v at HEQ HB1;simp only at y0 y1 y2 y3 y4 HEQ HB1;have hcO:=fun X (hX:Below W0.heap.size W0 X)=>And.intro (hcE X hX) (And.intro ((hX.cell (p:=⟨b2,off2+m*5,none⟩) hb2).trans y0) (And.intro ((hX.cell (p:=⟨b2,off2+m*5+1,none⟩) hb2).trans y1) (And.intro ((hX.cell (p:=⟨b2,off2+m*5+2,none⟩) hb2).trans y2) (And.intro ((hX.cell (p:=⟨b2,off2+m*5+3,none⟩) hb2).trans y3) ((hX.cell (p:=⟨b2,off2+m*5+4,none⟩) hb2).trans y4)))))
       clear y0 y1 y2 y3 y4
       go_upto_region 11 with fail
       refine reS (Below W0.heap.size W0) 99 hbq.drew (fun w3 _ hS=>?_)
       iterate 13 refine reA ?_
       refine reC 13 (HB1.out w3) ?_;rintro e w4 ⟨rfl,hb4⟩;refine⟨_,rfl,bstep hS hb4,fun hS=>?_⟩;refine reA ?_;refine reE ?_;cases bb;rotate_left
       ·have hA:∀x∈os.take (m+1),befN x ⟨op,⟨neg,num,den⟩,nm⟩=true:=fun x hx=>by
         rw[HTS.out] at hx;rcases List.mem_append.1 hx with hx|hx
         ·exact hall.out x hx
         ·rw[List.mem_singleton.1 hx];exact HBB.out
        go_wp2
        go_roundg (os.length-(m+1))
        case measure=>omega
        case rel=>exact⟨m+1,by omega,by go_num,hA,hS⟩
       go_upto_region 13 with fail
       refine reS (Below W0.heap.size W0) 99 hS.drew (fun wr _ hS=>?_)
       iterate 15 refine reA ?_
       refine reE ?_;obtain⟨A,hA⟩:=zE (some (⟨b2,off2,none⟩:Addr));rw[<-hA] at hes⊢;have HI:Hid (insL (es.take (k+1)) []=if os[m]?=some ⟨op,⟨neg,num,den⟩,nm⟩ then os else os.take m++[⟨op,⟨neg,num,den⟩,nm⟩]++os.drop m):=by show _=_;rw[HT.out,ins_at hml hall.out (fun h=>HMB.out h)]
       clear hA hcO HEQ HB1 HMB HTS HBB hall HT hb2;cases dq;rotate_left
       ·rw[if_pos (HDQ.out.1 rfl)] at HI;go_wp2
        go_roundg (l1-(k+1))
        case measure=>omega
        case rel=>exact⟨k+1,os,A,c,by omega,by go_num,rfl,hes.out.below hS,HI.out.symm,by omega,hbr.trans (hS.mono hbr.size)⟩
       rw[if_neg (fun h=>by cases HDQ.out.2 h)] at HI;clear HDQ
      case' neg=>
       have hm1:¬(m:Int)<(os.length:Int):=by omega
       have HI:Hid (insL (es.take (k+1)) []=os.take m++[⟨op,⟨neg,num,den⟩,nm⟩]++os.drop m):=by show _=_;rw[HT.out,ins_at hml hall.out (fun h=>absurd h hao),List.getElem?_eq_none (by omega),if_neg (by simp)]
       go_upto_region 11 with fail
       refine reS (Below W0.heap.size W0) 99 hbq.drew (fun w3 _ hS=>?_)
       iterate 5 refine reA ?_
       iterate 9 refine reB ?_
       refine reA ?_;refine reE ?_
       go_upto_region 13 with fail
       refine reS (Below W0.heap.size W0) 99 hS.drew (fun wr _ hS=>?_)
       iterate 5 refine reA ?_
       iterate 9 refine reB ?_
       refine reA ?_;refine reE ?_;clear hall HT
      all_goals
       have hcp:=hes.out.cap;have hmx:=hes.out.max;unfold maxLen at hmx;obtain⟨A8,hA8⟩:=zF (if c=m then A else Option.map (fun x=>x.add (m*5)) A);have HTK:Hid (Rd wr A (nds (os.take m))):=by show Rd _ _ _;rw[nds_take];exact (hes.out.below hS).rd.take _
       have HDR:Hid (Rd wr A8 (nds (os.drop m))):=by
        show Rd _ _ _;rw[<-hA8,nds_drop];split
        ·rw[List.drop_of_length_le (by rw[nds_length];omega)];exact .inl rfl
        ·exact (hes.out.below hS).rd.drop _
       go_wp2_with (at_builtin;go_must (refine wpList_append_rd _ rfl _ _ 40 rfl wr.heap.size 49 _ 5 64 Tryz.underlying40 info_node rfl (by decide) (.slice none 0 0) 0 [] rfl (World.ownsRow_nil _ _ _ _) _ m c (nds (os.take m)) rfl HTK.out (by rw[nds_length,List.length_take,Nat.min_eq_left hml]) (nds_one _) ?_ ?_ ?_ ?_))
       any_goals first|(unfold maxLen;omega)|omega
       intro v1 w1 ho1 hb1
       try simp only[Nat.zero_add,List.nil_append] at ho1
       have hq:=hcE w1 (hS.trans (hb1.mono hS.size));go_wp2_with (at_builtin;go_must (refine zP info_node Tryz.underlying40 ho1 (by omega) hb1.size ?_));intro v2 w2 ho2 hb2;have HD2:=zH (HDR.out.below (hb1.trans hb2));have hb12:=hb1.trans hb2;clear hq hb1 hb2;go_wp2_with (at_builtin;go_must (refine wpList_append_rd w2 rfl _ _ 40 rfl wr.heap.size 49 _ 5 64 Tryz.underlying40 info_node rfl (by decide) v2 (m+1) _ rfl ho2 _ (os.length-m) (c-m) (nds (os.drop m)) rfl HD2.out (by rw[nds_length,List.length_drop]) (nds_one _) ?_ ?_ hb12.size ?_))
       any_goals first|(unfold maxLen;omega)|omega
       intro v3 w3 ho3 hb3
       have ho4:w3.ownsRow wr.heap.size 49 5 v3 (m+1+(os.length-m)) (nds (os.take m++[(⟨op,⟨neg,num,den⟩,nm⟩:Nd)]++os.drop m)):=by
        rw[nds_append,nds_append,List.append_assoc];exact ho3
       obtain⟨A9,c9,rfl,g1,g2,g3,_⟩:=own_rd ho4
       have hlen:m+1+(os.length-m)=(os.take m++[(⟨op,⟨neg,num,den⟩,nm⟩:Nd)]++os.drop m).length:=by
        simp only[List.length_append,List.length_take,List.length_drop,List.length_singleton];omega
       have hend:=hbr.trans ((hS.trans ((hb12.trans hb3).mono hS.size)).mono hbr.size);have hol9:(os.take m++[(⟨op,⟨neg,num,den⟩,nm⟩:Nd)]++os.drop m).length<=k+1:=by rw[<-hlen];omega
       rw[hlen] at g1⊢;generalize os.take m++[(⟨op,⟨neg,num,den⟩,nm⟩:Nd)]++os.drop m=o9 at*;clear ho1 ho2 ho3 ho4 HTK HDR HD2 hS hA8 hlen hb12 hb3;go_wp2
       go_roundg (l1-(k+1))
       case measure=>omega
       case rel=>exact⟨k+1,o9,A9,c9,by omega,by go_num,rfl,⟨rfl,g1,g2,g3⟩,HI.out.symm,hol9,hend⟩
   ·obtain rfl:k=l1:=by omega
    obtain rfl:os=re:=by rw[HRE.out,hos.out,H1.out.len,List.take_length]
    go_wp2;go_ret;exact⟨A,_,c,rfl,hes.out,hbr⟩
 ·rw[if_neg hz] at HRE;have e1:(z !=0)=true:=by simp[hz]
  go_wp2;go_ret;exact⟨none,0,0,rfl,by rw[HRE.out];exact Es.nil _,hb1⟩
theorem cut_flat {α:Type} (enc:α->List Value) (m:Nat) (hm:∀a,(enc a).length=m) (xs:List α) (k:Nat):(xs.take k).flatMap enc=(xs.flatMap enc).take (k*m)/\(xs.drop k).flatMap enc=(xs.flatMap enc).drop (k*m):=by
 induction xs generalizing k with
 |nil=>simp
 |cons a xs ih=>
  cases k with
  |zero=>simp
  |succ k=>
   obtain⟨h1,h2⟩:=ih k;have e:(k+1)*m=(enc a).length+k*m:=by rw[hm,Nat.add_mul];omega
   rw[List.take_succ_cons,List.drop_succ_cons,List.flatMap_cons,List.flatMap_cons,e,List.take_length_add_append,List.drop_length_add_append,h1,h2];exact⟨rfl,rfl⟩
theorem flat_len {α:Type} {enc:α->List Value} {m:Nat} (hm:∀a,(enc a).length=m) (xs:List α):(xs.flatMap enc).length=xs.length*m:=by
 induction xs with
 |nil=>simp
 |cons a xs ih=>rw[List.flatMap_cons,List.length_append,ih,hm,List.length_cons,Nat.add_mul];omega
theorem row_take {α:Type} {W:World} {enc:α->List Value} {m:Nat} (hm:∀a,(enc a).length=m) {xs:List α} {z:Hd} (h:RowAt W enc xs z) (k:Nat):Rd W z.a ((xs.take k).flatMap enc):=by rw[(cut_flat enc m hm xs k).1];exact h.rd.take _
theorem row_drop {α:Type} {W:World} {enc:α->List Value} {m:Nat} (hm:∀a,(enc a).length=m) {xs:List α} {b off n c:Nat} (h:RowAt W enc xs ⟨some ⟨b,off,none⟩,n,c⟩) (k:Nat):Rd W (if c=k then some ⟨b,off,none⟩ else some ⟨b,off+k*m,none⟩) ((xs.drop k).flatMap enc):=by
 split
 ·rename_i e;have h1:=h.len;have h2:=h.cap;simp only at h1 h2;rw[List.drop_of_length_le (by omega)];exact .inl rfl
 ·rw[(cut_flat enc m hm xs k).2];exact Rd_drop h.rd _
theorem cells_one {α:Type} {enc:α->List Value} (h:∀a,∀u∈enc a,u.oneCell'=true) (xs:List α):∀u∈xs.flatMap enc,u.oneCell'=true:=by
 intro u hu;obtain⟨a,_,ha⟩:=List.mem_flatMap.1 hu;exact h a u ha
theorem any_snoc {α:Type} (f:α->Bool) (xs:List α) {j:Nat} (hj:j<xs.length):(xs.take (j+1)).any f=((xs.take j).any f||f xs[j]):=by
 rw[List.take_succ_eq_append_getElem hj,List.any_append];simp
theorem str_eq (a b:ByteArray):(a.toList==b.toList)=decide (a=b):=by
 by_cases h:a=b
 ·subst h;simp
 ·have h2:¬a.toList=b.toList:=fun e=>h (by rw[ByteArray.toList_eq,ByteArray.toList_eq] at e;exact ByteArray.ext (Array.toList_inj.1 e))
  rw[decide_eq_false h];exact beq_eq_false_iff_ne.2 h2
def w12 (b:Bool):Int:=if b then 12 else 0
theorem cut_mem {α:Type} {xs:List α} (k:Nat):∀x∈xs.take k++xs.drop (k+1),x∈xs:=fun x hx=>(List.mem_append.1 hx).elim List.mem_of_mem_take List.mem_of_mem_drop
theorem pv_one (a:Pv × Hd):∀u∈pvCells a,u.oneCell'=true:=by
 intro u hu;simp[pvCells] at hu;rcases hu with rfl|rfl|rfl|rfl|rfl|rfl|rfl|rfl|rfl|rfl|rfl|rfl<;>rfl
theorem less_core (xs:List (List Int × Hd)) (hh:Hd) (q0:Int) (h00:-9223372036854775808<=q0) (h01:q0<=9223372036854775807) (w:World) (hK:LaidK w) (hr:RowAt w rowV xs hh) (hq:∀r∈xs,IR w w.heap.size r)
  (hY:∀W,Below w.heap.size w W->Calls Tryz.prog 6 #[] W fun e w'=>e=.returned (.bool true)/\Below W.heap.size W w'):
  Calls Tryz.prog 3 #[.slice hh.a hh.n hh.c,.int .i64 q0] w fun e w'=>e=.returned (.bool true)/\Below w.heap.size w w':=by
 have HKK:Hid (∀W,Below w.heap.size w W->LaidK W):=fun W hb=>hK.below hb
 go_enter Tryz.func3,Tryz.ntmps3;go_wp2_with fail;refine (hY w (Below.refl _ _)).mono ?_;rintro e w1 ⟨rfl,hb1⟩;go_wp2_with fail;refine (wmade11_any xs hh w1 (hr.below hb1) (fun r hm=>((hq r hm).below hb1).lower hb1.size)).mono ?_;rintro e w2 ⟨l,ss,ps,f,s,p,rfl,hmd,hlo,hb2⟩;unfold lawV
 go_upto_region 3 with fail
 generalize hX:w2.alloc _=W2;obtain⟨hkC,hb3⟩:=zA hX;have h:GS w W2 w1.heap.size w2.heap.size l ss ps f s p:=⟨hkC,hlo.below hb3,bstep (bstep hb1 hb2) hb3,hb1.size,hb2.size⟩
 have HMD:=zH hmd;clear hX hkC hlo hb1 hb2 hb3 hq hr hK hY hmd;generalize w2.heap.size=C at h⊢;generalize w1.heap.size=B at h;obtain⟨fa,fn,fc⟩:=f;obtain⟨sa,sn,sc⟩:=s;obtain⟨pa,pn,pc⟩:=p;have HLF:Hid (fn=l.facts.length):=h.at.f.len;have HLS:Hid (sn=ss.length):=h.at.s.len;have HLP:Hid (pn=ps.length):=h.at.p.len;obtain⟨n1,n2,n3⟩:=HMD.out.n.len;have hfn:fn<=3:=by rw[HLF.out];exact n1
 have hsn:sn<=2:=by rw[HLS.out,<-List.length_map (f:=Prod.fst),h.o.sl];exact n2
 have hpn:pn<=6:=by rw[HLP.out,h.o.len];exact n3
 have hp0:0<pn:=by
  have:=HMD.out.ne;rw[HLP.out,h.o.len];exact List.length_pos_iff.2 this
 clear n1 n2 n3;have hc:=h.cells;simp only at hc;obtain⟨k,hk1,hk2⟩:∃k:Nat,k<fn+sn+pn/\q0 % ((fn:Int)+sn+pn)=k:=⟨(q0 % ((fn:Int)+sn+pn)).toNat,by have:=Int.emod_lt_of_pos q0 (show (0:Int)<(fn:Int)+sn+pn by omega);have:=Int.emod_nonneg q0 (show (fn:Int)+sn+pn≠0 by omega);omega,by have:=Int.emod_nonneg q0 (show (fn:Int)+sn+pn≠0 by omega);omega⟩
 have hM:=wMod_any q0 ((fn:Int)+sn+pn) W2 h00 h01 (by omega) (by omega);rw[hk2] at hM;clear hk2 h00 h01;go_wp2_with fail;refine hM.mono ?_;rintro e w4 ⟨rfl,rfl⟩;clear hM
 go_upto_if 33 with fail
 go_cut [7,8] from 33 to 113 (fun _ nv Y=>∃l' ss' ps' f' s' p' nm,nv=.string nm/\GS w Y B C l' ss' ps' f' s' p'/\Hid (l'=delL nm l))
 case first=>
  by_cases hlt:k<fn
  ·obtain⟨b,off,nm,t,m,d,rfl,_,hx,hxe,hcx⟩:=dc_at h.at.f hlt;have hl1:(k:Int)<(fn:Int):=by omega
   have k0:(0:Int)<=(k:Int):=by omega
   have hcap:=h.at.f.cap;have hmax:=h.at.f.max;simp only at hcap hmax;unfold maxLen at hmax;have hx0:=hcx W2 (Below.refl _ _)
   go_upto_region 7 with fail
   have hcS:=fun Y (hY:Below W2.heap.size W2 Y)=>(h.below hY).cells
   simp only at hcS;have hw:IntKind.i64.wrap ((k:Int)+1)=(k:Int)+1:=IntWalk.i64_in _ (by omega);have hk9:(k:Int)+1<=(fn:Int):=by omega
   have hk8:(0:Int)<=(k:Int)+1:=by omega
   have hk7:(k:Int)<=(fc:Int):=by omega
   clear hx0 hc;refine reS (Below W2.heap.size W2) 13 (drewN_below _ _ 1) (fun w5 _ hS=>?_);refine reZ 1 ?_;refine reZ 2 ?_;refine reZ 3 ?_;refine reZ 4 ?_;refine reZ 6 ?_;refine reZ 7 ?_;refine reZ 8 ?_;refine reZ 9 ?_;refine reZ 10 ?_;have ho:=own_new w5 #[] 36 4 0 w5.heap.size rfl (by omega) (Nat.le_refl _);refine reV 0 (fun _=>hS.alloc hS.size _) (fun hS1=>?_);have e1:((l.facts.take k).flatMap Dc.cells).length=k*4:=by rw[flat_len (m:=4) (fun _=>rfl),List.length_take,Nat.min_eq_left (Nat.le_of_lt hx)]
   refine rePd 5 jDecl Tryz.underlying24 ho (row_take (m:=4) (fun _=>rfl) (h.at.f.below hS1) k) e1 (cells_one (fun a u hu=>by simp[Dc.cells] at hu;rcases hu with rfl|rfl|rfl|rfl<;>rfl) _) (by omega) (by rw[World.size_alloc];omega) (fun v6 w6 ho6 hb6=>⟨hS1.trans (hb6.mono hS.size),fun hS6=>?_⟩);obtain⟨A6,c6,rfl,_⟩:=own_rd ho6;have e2:((l.facts.drop (k+1)).flatMap Dc.cells).length=(fn-(k+1))*4:=by rw[flat_len (m:=4) (fun _=>rfl),List.length_drop,HLF.out]
   refine rePd 11 jDecl Tryz.underlying24 ho6 (row_drop (m:=4) (fun _=>rfl) (h.at.f.below hS6) (k+1)) e2 (cells_one (fun a u hu=>by simp[Dc.cells] at hu;rcases hu with rfl|rfl|rfl|rfl<;>rfl) _) (by omega) (Nat.le_trans (by rw[World.size_alloc];omega) hb6.size) (fun v7 w7 ho7 hb7=>⟨hS6.trans (hb7.mono hS.size),fun hS7=>?_⟩);obtain⟨A7,c7,rfl,_⟩:=own_rd ho7;generalize (if fc=k+1 then some (⟨b,off,none⟩:Addr) else some ⟨b,off+(k+1)*4,none⟩)=A8;refine reZ 12 ?_;have g7:=h.below hS7;have cC:=g7.b.cells;have fC:=g7.b.froz;refine reW 13 (fun h=>absurd rfl h) (fun _=>?_);refine reE ?_;have e3:0+k+(fn-(k+1))=(l.facts.take k++l.facts.drop (k+1)).length:=by rw[List.length_append,List.length_take,List.length_drop,Nat.min_eq_left (Nat.le_of_lt hx),<-HLF.out];omega
   have g8:=g7.setF ⟨A7,0+k+(fn-(k+1)),c7⟩ (l.facts.take k++l.facts.drop (k+1)) (by rw[<-e3,List.flatMap_append];exact own_lower ho7 (Nat.le_trans h.hC (Nat.le_trans (Nat.le_of_lt h.b.lt) hS.size)));simp only[Nat.zero_add] at g8;clear h g7 cC fC ho ho6 ho7 hb6 hb7 hS hS1 hS6 hS7 e1 e2 hcS;go_wp2
   go_meet
   case rel=>exact⟨_,_,_,_,_,_,nm,rfl,g8,by show _=_;rw[<-del_fact HMD.out.n hx,hxe]⟩
  ·have hlf:¬(k:Int)<(fn:Int):=by omega
   have hws:IntKind.i64.wrap ((k:Int)-(fn:Int))=(k:Int)-(fn:Int):=IntWalk.i64_in _ (by omega);obtain⟨k2,hk2⟩:∃k2:Nat,(k:Int)-(fn:Int)=(k2:Int):=⟨k-fn,by omega⟩
   rw[hk2] at hws;by_cases hl2:k2<sn
   ·have hl3:(k2:Int)<(sn:Int):=by omega
    go_upto_region 9 with fail
    obtain⟨b,off,nm,m,d,bs,hb,rfl,_,hx,hxe,hcx⟩:=sc_at h.at.s hl2;have k0:(0:Int)<=(k2:Int):=by omega
    have hcap:=h.at.s.cap;have hmax:=h.at.s.max;simp only at hcap hmax;unfold maxLen at hmax;have hx0:=hcx W2 (Below.refl _ _)
    go_upto_region 11 with fail
    have hcS:=fun Y (hY:Below W2.heap.size W2 Y)=>(h.below hY).cells
    simp only at hcS;have hw:IntKind.i64.wrap ((k2:Int)+1)=(k2:Int)+1:=IntWalk.i64_in _ (by omega);have hk9:(k2:Int)+1<=(sn:Int):=by omega
    have hk8:(0:Int)<=(k2:Int)+1:=by omega
    have hk7:(k2:Int)<=(sc:Int):=by omega
    clear hx0 hc hws;refine reS (Below W2.heap.size W2) 13 (drewN_below _ _ 1) (fun w5 _ hS=>?_);refine reZ 1 ?_;refine reZ 2 ?_;refine reZ 3 ?_;refine reZ 4 ?_;refine reZ 6 ?_;refine reZ 7 ?_;refine reZ 8 ?_;refine reZ 9 ?_;refine reZ 10 ?_;have ho:=own_new w5 #[] 39 4 0 w5.heap.size rfl (by omega) (Nat.le_refl _);refine reV 0 (fun _=>hS.alloc hS.size _) (fun hS1=>?_);have e1:((ss.take k2).flatMap scCells).length=k2*4:=by rw[flat_len (m:=4) (fun _=>rfl),List.length_take,Nat.min_eq_left (Nat.le_of_lt hx)]
    refine rePd 5 jSched Tryz.underlying25 ho (row_take (m:=4) (fun _=>rfl) (h.at.s.below hS1) k2) e1 (cells_one (fun a u hu=>by simp[scCells] at hu;rcases hu with rfl|rfl|rfl|rfl<;>rfl) _) (by omega) (by rw[World.size_alloc];omega) (fun v6 w6 ho6 hb6=>⟨hS1.trans (hb6.mono hS.size),fun hS6=>?_⟩);obtain⟨A6,c6,rfl,_⟩:=own_rd ho6;have e2:((ss.drop (k2+1)).flatMap scCells).length=(sn-(k2+1))*4:=by rw[flat_len (m:=4) (fun _=>rfl),List.length_drop,HLS.out]
    refine rePd 11 jSched Tryz.underlying25 ho6 (row_drop (m:=4) (fun _=>rfl) (h.at.s.below hS6) (k2+1)) e2 (cells_one (fun a u hu=>by simp[scCells] at hu;rcases hu with rfl|rfl|rfl|rfl<;>rfl) _) (by omega) (Nat.le_trans (by rw[World.size_alloc];omega) hb6.size) (fun v7 w7 ho7 hb7=>⟨hS6.trans (hb7.mono hS.size),fun hS7=>?_⟩);obtain⟨A7,c7,rfl,_⟩:=own_rd ho7;generalize (if sc=k2+1 then some (⟨b,off,none⟩:Addr) else some ⟨b,off+(k2+1)*4,none⟩)=A8;refine reZ 12 ?_;have g7:=h.below hS7;have cC:=g7.b.cells;have fC:=g7.b.froz;refine reW 13 (fun h=>absurd rfl h) (fun _=>?_);refine reE ?_;have e3:0+k2+(sn-(k2+1))=(ss.take k2++ss.drop (k2+1)).length:=by rw[List.length_append,List.length_take,List.length_drop,Nat.min_eq_left (Nat.le_of_lt hx),<-HLS.out];omega
    have g8:=g7.setS ⟨A7,0+k2+(sn-(k2+1)),c7⟩ (ss.take k2++ss.drop (k2+1)) (cut_mem k2) (by rw[<-e3,List.flatMap_append];exact own_lower ho7 (Nat.le_trans h.hC (Nat.le_trans (Nat.le_of_lt h.b.lt) hS.size)));have hxl:k2<l.schs.length:=by rw[<-h.o.sl,List.length_map];exact hx
    have hnm:l.schs[k2].name=nm:=by
     have e:=congrArg (fun x=>x[k2]?) h.o.sl;simp only[List.getElem?_map,List.getElem?_eq_getElem hx,List.getElem?_eq_getElem hxl,Option.map_some,hxe] at e;exact (congrArg Sc.name (Option.some.inj e)).symm
    have he:Hid ((⟨l.facts,(ss.take k2++ss.drop (k2+1)).map Prod.fst,l.provs⟩:Lw)=delL nm l):=by
     show _=_;rw[<-hnm,del_sch HMD.out.n hxl,List.map_append,List.map_take,List.map_drop,h.o.sl]
    simp only[Nat.zero_add] at g8;clear h g7 cC fC ho ho6 ho7 hb6 hb7 hS hS1 hS6 hS7 e1 e2 hcS hxl hnm;go_wp2
    go_meet
    case rel=>exact⟨_,_,_,_,_,_,nm,rfl,g8,he⟩
   ·have hl3:¬(k2:Int)<(sn:Int):=by omega
    have hwt:IntKind.i64.wrap ((k2:Int)-(sn:Int))=(k2:Int)-(sn:Int):=IntWalk.i64_in _ (by omega);obtain⟨k3,hk3⟩:∃k3:Nat,(k2:Int)-(sn:Int)=(k3:Int):=⟨k2-sn,by omega⟩
    have hl4:k3<pn:=by omega
    have hl5:(k3:Int)<(pn:Int):=by omega
    rw[hk3] at hwt
    go_upto_region 13 with fail
    obtain⟨b,off,y,rfl,_,hx,hxe,hcx⟩:=pv_at h.at.p hl4;have k0:(0:Int)<=(k3:Int):=by omega
    have hcap:=h.at.p.cap;have hmax:=h.at.p.max;simp only at hcap hmax;unfold maxLen at hmax;have hx0:=hcx W2 (Below.refl _ _)
    go_upto_region 14 with fail
    have hcS:=fun Y (hY:Below W2.heap.size W2 Y)=>(h.below hY).cells
    simp only at hcS;have hw:IntKind.i64.wrap ((k3:Int)+1)=(k3:Int)+1:=IntWalk.i64_in _ (by omega);have hk9:(k3:Int)+1<=(pn:Int):=by omega
    have hk8:(0:Int)<=(k3:Int)+1:=by omega
    have hk7:(k3:Int)<=(pc:Int):=by omega
    clear hx0 hc hws hwt hk2 hk3;refine reS (Below W2.heap.size W2) 13 (drewN_below _ _ 1) (fun w5 _ hS=>?_);refine reZ 1 ?_;refine reZ 2 ?_;refine reZ 3 ?_;refine reZ 4 ?_;refine reZ 6 ?_;refine reZ 7 ?_;refine reZ 8 ?_;refine reZ 9 ?_;refine reZ 10 ?_;have ho:=own_new w5 #[] 45 12 0 w5.heap.size rfl (by omega) (Nat.le_refl _);refine reV 0 (fun _=>hS.alloc hS.size _) (fun hS1=>?_);have e1:((ps.take k3).flatMap pvCells).length=k3*12:=by rw[flat_len (m:=12) (fun _=>rfl),List.length_take,Nat.min_eq_left (Nat.le_of_lt hx)]
    refine rePd 5 jProv Tryz.underlying26 ho (row_take (m:=12) (fun _=>rfl) (h.at.p.below hS1) k3) e1 (cells_one pv_one _) (by omega) (by rw[World.size_alloc];omega) (fun v6 w6 ho6 hb6=>⟨hS1.trans (hb6.mono hS.size),fun hS6=>?_⟩);obtain⟨A6,c6,rfl,_⟩:=own_rd ho6;have e2:((ps.drop (k3+1)).flatMap pvCells).length=(pn-(k3+1))*12:=by rw[flat_len (m:=12) (fun _=>rfl),List.length_drop,HLP.out]
    refine rePd 11 jProv Tryz.underlying26 ho6 (row_drop (m:=12) (fun _=>rfl) (h.at.p.below hS6) (k3+1)) e2 (cells_one pv_one _) (by omega) (Nat.le_trans (by rw[World.size_alloc];omega) hb6.size) (fun v7 w7 ho7 hb7=>⟨hS6.trans (hb7.mono hS.size),fun hS7=>?_⟩);obtain⟨A7,c7,rfl,_⟩:=own_rd ho7;generalize (if pc=k3+1 then some (⟨b,off,none⟩:Addr) else some ⟨b,off+(k3+1)*12,none⟩)=A8;refine reZ 12 ?_;have g7:=h.below hS7;have cC:=g7.b.cells;have fC:=g7.b.froz;refine reW 13 (fun h=>absurd rfl h) (fun _=>?_);refine reE ?_;have e3:0+k3+(pn-(k3+1))=(ps.take k3++ps.drop (k3+1)).length:=by rw[List.length_append,List.length_take,List.length_drop,Nat.min_eq_left (Nat.le_of_lt hx),<-HLP.out];omega
    have g8:=g7.setP ⟨A7,0+k3+(pn-(k3+1)),c7⟩ (ps.take k3++ps.drop (k3+1)) (cut_mem k3) (by rw[<-e3,List.flatMap_append];exact own_lower ho7 (Nat.le_trans h.hC (Nat.le_trans (Nat.le_of_lt h.b.lt) hS.size)));have hxl:k3<l.provs.length:=by rw[<-h.o.len];exact hx
    have hnm:l.provs[k3].name=y.1.name:=by rw[<-h.o.get hx,hxe]
    have he:Hid ((⟨l.facts,l.schs,(ps.take k3++ps.drop (k3+1)).map Prod.fst⟩:Lw)=delL y.1.name l):=by
     show _=_;rw[<-hnm,del_prov HMD.out.n hxl,List.map_append,List.map_take,List.map_drop,h.o.pl]
    simp only[Nat.zero_add] at g8;clear h g7 cC fC ho ho6 ho7 hb6 hb7 hS hS1 hS6 hS7 e1 e2 hcS hxl hnm;go_wp2
    go_meet
    case rel=>exact⟨_,_,_,_,_,_,y.1.name,rfl,g8,he⟩
 case rest=>
  clear hc h;obtain⟨l2,ss2,ps2,f2,s2,p2,nm,rfl,h,HL⟩:=hcut;have HLN:Hid (∀p∈l2.provs,p∈l.provs):=by rw[HL.out];exact fun p hp=>(List.mem_filter.1 hp).1
  have HCK:Hid (checkL l2=w12 (l2.provs.any fun p=>refB nm p.body)):=by rw[HL.out];exact del_chk HMD.out
  have HFN:Hid (FineL l2):=by rw[HL.out];exact del_fine HMD.out
  obtain⟨pa2,pn2,pc2⟩:=p2;have HPN:Hid (pn2=ps2.length):=h.at.p.len;have hpn2:pn2<=1000:=by rw[HPN.out,h.o.len];exact HFN.out.pn
  have hc:=h.cells;simp only at hc;clear HL HLF HLS HLP;go_wp2
  go_loopg [9,10] pn2 (fun q wv iv wr=>∃j:Nat,j+q=pn2/\iv=.int .i64 j/\wv=.int .i64 (w12 ((ps2.take j).any fun x=>refB nm x.1.body))/\GS w wr B C l2 ss2 ps2 f2 s2 ⟨pa2,pn2,pc2⟩)
  case atStart=>exact⟨0,by omega,rfl,rfl,h⟩
  case round=>
   clear h hc;obtain⟨j,hj,rfl,rfl,g⟩:=hrel;have hc:=g.cells;simp only at hc;by_cases hlt:j<pn2
   ·obtain⟨b,off,y,rfl,_,hx,hxe,hcx⟩:=pv_at g.at.p hlt;have hc0:=hcx wr (Below.refl _ _);have hym:y∈ps2:=hxe ▸ List.getElem_mem hx;have hes:=g.at.pb y hym;have HV:=HMD.out.p _ (HLN.out _ (g.o.pl ▸ List.mem_map.2 ⟨y,hym,rfl⟩));have HT:=zH (any_snoc (fun x:Pv × Hd=>refB nm x.1.body) ps2 hx);rw[hxe] at HT;have HG:=zH (gRefs_any y.1.body y.2.a y.2.n y.2.c wr ⟨hes.len,hes.cap,hes.max,hes.rd⟩ (chk_fine (HV.b.chk HV.n)));have j0:(0:Int)<=(j:Int):=by omega
    have j1:(j:Int)<(pn2:Int):=by omega
    clear hcx hes hxe hym HV;go_wp2_with fail;refine HG.out.mono ?_;rintro e w4 ⟨A,n,c,rfl,hes4,hb4⟩;have g4:=g.below hb4;have HTN:Hid (refB nm y.1.body=((refsE y.1.body).take n).any fun x=>decide (x.name=nm)):=by show _=_;rw[List.take_of_length_le (by have:=hes4.len;omega)];rfl
    generalize refsE y.1.body=rs at*;generalize refB nm y.1.body=b1 at*;generalize ((ps2.take j).any fun x=>refB nm x.1.body)=b0 at*;have hn3:n<=9223372036854775807:=by have h1:=hes4.cap;have h2:=hes4.max;unfold maxLen at h2;omega
    have HN4:Hid (n=rs.length):=hes4.len;have HR4:=zH hes4.rd;clear hc0 hc g HG hes4 hb4;go_wp2_with fail
    go_loopg [9,12] n (fun q wv iv X=>∃i:Nat,i+q=n/\iv=.int .i64 i/\wv=.int .i64 (w12 (b0||(rs.take i).any fun x=>decide (x.name=nm)))/\Below w4.heap.size w4 X)
    case atStart=>exact⟨0,by omega,rfl,by simp,Below.refl _ _⟩
    case round=>
     obtain⟨i,hi,rfl,rfl,hbx⟩:=hrel;by_cases hli:i<n
     ·have hil:i<rs.length:=by rw[<-HN4.out];exact hli
      obtain⟨b9,o9,rfl,_,_,_,_,_,hn⟩:=(HR4.out.below hbx).nd hil;have HS:=zH (any_snoc (fun x:Nd=>decide (x.name=nm)) rs hil);have i0:(0:Int)<=(i:Int):=by omega
      have i1:(i:Int)<(n:Int):=by omega
      have heq:=str_eq rs[i].name nm;generalize rs[i].name=sn at*;generalize ((rs.take i).any fun x=>decide (x.name=nm))=b2 at*;by_cases he:sn=nm
      ·rw[decide_eq_true he] at heq HS;clear he;go_wp2
       go_roundg (n-(i+1))
       case measure=>omega
       case rel=>exact⟨i+1,by omega,by go_num,by rw[HS.out,Bool.or_true,Bool.or_true];rfl,hbx⟩
      ·rw[decide_eq_false he] at heq HS;clear he;go_wp2
       go_roundg (n-(i+1))
       case measure=>omega
       case rel=>exact⟨i+1,by omega,by go_num,by rw[HS.out,Bool.or_false],hbx⟩
     ·obtain rfl:i=n:=by omega
      rw[<-HTN.out,<-HT.out];go_wp2
      go_roundg (pn2-(j+1))
      case measure=>omega
      case rel=>exact⟨j+1,by omega,by go_num,rfl,g4.below hbx⟩
   ·obtain rfl:j=pn2:=by omega
    have HK2:Hid (checkL l2=w12 ((ps2.take j).any fun x=>refB nm x.1.body)):=by
     show _=_;rw[HCK.out,HPN.out,List.take_length,<-g.o.pl,List.any_map];rfl
    generalize w12 ((ps2.take j).any fun x=>refB nm x.1.body)=v at*;go_wp2_with fail;refine (uCheck_any l2 ss2 ps2 f2 s2 ⟨pa2,j,pc2⟩ wr (HKK.out wr g.on) g.at HFN.out).mono ?_;rintro e w9 ⟨rfl,hb⟩;rw[HK2.out];have hend:=bstep g.on hb;clear g hb hc;go_wp2;go_ret;exact⟨rfl,hend⟩
end Go.Proofs.YtimokmplkpbmdaaGreatDoor
