/- Part: Ue Uf Y9 Jh Jy Yd Yq Yr Ug Uh Yy Yx Jz J1 J2 Uj. -/
import Derived.Test.YtjpbmbgincdjaaaGreatDoorK33
set_option linter.all false
set_option maxRecDepth 100000
set_option maxHeartbeats 0
namespace Go.Proofs.YtjpbmbgincdjaaaGreatDoor
open Go.RowKit List World Tryz
section
set_option maxRecDepth 100000
def bD (l:List ByteArray):List UInt8:=l.flatMap fun s=>s.data.toList
theorem zJ (a b:List ByteArray):bD (a++b)=bD a++bD b:=flatMap_append
theorem Hy (a:ByteArray):bD [a]=a.data.toList:=by unfold bD;simp
theorem E5 (l:List ByteArray):strs l=l.map Value.string:=by
 unfold strs
 induction l with
 |nil=>rfl
 |cons a l ih=>rw[flatMap_cons,ih];rfl
theorem strs_get {l:List ByteArray} {w:World} {g:Nat} (h:aj w g 9 (strs l)) {i:Nat} (hi:i<l.length):w.cell? ⟨g,i,none⟩=some (.string l[i]):=by
 rw[h.cells i];have:strs l=l.map Value.string:=E5 l;rw[this,getElem?_map,getElem?_eq_getElem hi];rfl
theorem V6 (B b g n c:Nat) (bs:List UInt8) (l:List ByteArray) (w:World) (h:Lib.IsBuilder 95 5 B b (lc bs) w) (hg:aj w g 9 (strs l)) (hgb:g≠b) (hn:n=l.length) (hm:n<=1000) (h0:l≠[])
  (hlen:bs.length+(bD l).length<=100000000000000) (hBw:B<=w.heap.size):
  Calls prog 98 #[.pointer (some ⟨b,0,none⟩),.slice (some ⟨g,0,none⟩) n c] w fun e w'=>e=.returned (.tuple #[])/\(Lib.BuilderAt 95 5 B b (.pointer (some ⟨b,0,none⟩)) (lc (bs++bD l)) w'/\Below B w w'/\BF b w w'):=by
 have H:=zH h;have HG:=zH hg;have HN:=zH hn;clear h hg hn;go_enter func98,ntmps98;go_wp2_with fail
 go_loopg [8] n (fun q iv wr=>∃i:Nat,i+q=n/\iv=.int .i64 i/\Hid (Lib.IsBuilder 95 5 B b (lc (bs++bD (l.take i))) wr)/\Hid (0<i->Lib.BuilderAt 95 5 B b (.pointer (some ⟨b,0,none⟩)) (lc (bs++bD (l.take i))) wr)/\Hid (Below B w wr)/\Hid (BF b w wr))
 case atStart=>exact⟨0,by omega,rfl,(by show Lib.IsBuilder _ _ _ _ _ _;rw[take_zero,show bD []=[] from rfl,append_nil];exact H.out),(fun h=>absurd h (by omega)),Below.refl _ _,BF.refl _ _⟩
 case round=>
  obtain⟨i,hi,rfl,hib,hat,hbr,hbf⟩:=hrel;by_cases hlt:i<n
  ·have hil:i<l.length:=by rw[<-HN.out];exact hlt
   have hc:=strs_get (hbf.out.blk HG.out (by decide) hgb) hil;have O7:Hid (l.take (i+1)=l.take i++[l[i]]):=take_succ_eq_append_getElem hil
   have hle:(lc (bs++bD (l.take i))).length+l[i].size<=140737488355328:=by
    rw[Ot,length_append];have h1:(bD l).length=(bD (l.take (i+1))).length+(bD (l.drop (i+1))).length:=by rw[<-length_append,<-zJ,take_append_drop]
    rw[O7.out,zJ,Hy,length_append] at h1;have h2:l[i].size=l[i].data.toList.length:=by show l[i].data.size=_;rw[Array.length_toList]
    omega
   generalize l[i]=x at*;have HW:=zH (aex B b (lc (bs++bD (l.take i))) x wr hib.out hle (Nat.le_trans hBw hbr.out.size));clear hle hib hat;go_wp2_with fail;refine HW.out.mono ?_;rintro e w5 ⟨rfl,hx,hb5,hf5⟩
   have HX:Hid (Lib.BuilderAt 95 5 B b (.pointer (some ⟨b,0,none⟩)) (lc (bs++bD (l.take (i+1)))) w5):=by
    show Lib.BuilderAt _ _ _ _ _ _ _;rw[O7.out,zJ,Hy,<-append_assoc,Yq (bs++_)];exact hx
   have ku:=zH (hbr.out.trans hb5);have HF5:=zH (hbf.out.trans hf5);clear hx hb5 hf5 hbr hbf hc;go_wp2
   go_roundg (n-(i+1))
   case measure=>omega
   case rel=>exact⟨i+1,by omega,by go_num,.inr HX.out,(fun _=>HX.out),ku,HF5⟩
  ·have hin:i=l.length:=by have:=HN.out;omega
   have hpos:0<i:=by rw[hin];exact length_pos_iff.2 h0
   have hx:=hat.out hpos;rw[hin,take_length] at hx;have HX:=zH hx;clear hx hat hib;go_wp2;go_end0;exact⟨rfl,HX.out,hbr.out,hbf.out⟩
def bC (t:Ty):ByteArray:=if t.truth then ⟨#[116,114,117,116,104]⟩ else ⟨#[109]⟩++aU (aK t.aA)++⟨#[100]⟩++aU (aK t.days)
theorem ql (t:Ty) (w:World) (hL:bT w) (hm1:-1000<=t.aA/\t.aA<=1000) (hd1:-1000<=t.days/\t.days<=1000) (hz:(aK t.aA).num.size<=1048576/\(aK t.aA).den.size<=1048576) (hz2:(aK t.days).num.size<=1048576/\(aK t.days).den.size<=1048576):
  Calls prog 99 #[t.v] w fun e w'=>e=.returned (.string (bC t))/\Below w.heap.size w w':=by
 have c1:=cu (Ld:=DX) fun W _=>mV t.aA W (by omega) (by omega)
 have c2:=cu (Ld:=DX) fun W _=>mV t.days W (by omega) (by omega)
 have c3:=cu (Ld:=DX) fun W h=>jC (aK t.aA) W h hz.1 hz.2
 have c4:=cu (Ld:=DX) fun W h=>jC (aK t.days) W h hz2.1 hz2.2
 have z1:Sz (aU (aK t.aA)) 6291460:=⟨dJ _ hz.1 hz.2⟩
 have z2:Sz (aU (aK t.days)) 6291460:=⟨dJ _ hz2.1 hz2.2⟩
 unfold bC;refine iF (Ld:=DX) (us:=[t.v]) ?_ w hL.e.base (hs:=.ag (ws:=[_,_,_]) (by repeat constructor) .nil);refine dh func99 fun X=>?_
 obtain⟨tt,mo,da⟩:=t;cases tt
 all_goals
  refine run ?_;exact aF
end
def Dt:ByteArray:=⟨#[102,97,99,116,32]⟩
def Pm:ByteArray:=⟨#[115,99,104,101,100,117,108,101,32]⟩
def E8:ByteArray:=⟨#[112,114,111,118,105,115,105,111,110,32]⟩
def Cb:ByteArray:=⟨#[32,99,104,97,114,103,101]⟩
def Fa:ByteArray:=⟨#[32,115,116,101,112,32]⟩
def sCap:ByteArray:=⟨#[32,99,97,112,32]⟩
def mD:ByteArray:=⟨#[32]⟩
def rH:ByteArray:=⟨#[10]⟩
def Cc:ByteArray:=⟨#[58,32]⟩
def uO (k:Nat):ByteArray:=if k=0 then ⟨#[58]⟩ else ⟨#[44]⟩
def bodyT (e:List Nd):ByteArray:=⟨(if aX e=0 then textE e else []).toArray⟩
def LM (d:Dc):List ByteArray:=[Dt,d.name,mD,bC d.ty,rH]
def abA (s:Sc):List ByteArray:=[Pm,s.name,mD,bC ⟨false,s.aA,s.days⟩]
def bkW (k:Nat) (b:Bk):List ByteArray:=[uO k,mD,aU b.fr,mD,aU b.rt]
def xU:Nat->List Bk->List UInt8
 |_,[]=>[]
 |k,b::r=>bD (bkW k b)++xU (k+1) r
def uP (s:Sc):List UInt8:=bD (abA s)++xU 0 s.bJ++bD [rH]
def Zb (p:Pv):List ByteArray:=[E8,p.name,mD,bC p.ty]
def TN (p:Pv):List ByteArray:=[Fa,aU p.step,sCap,aU p.cap]
def uH (p:Pv):List UInt8:=bD (Zb p)++(if p.fH then bD [Cb] else [])++(if dX p then [] else bD (TN p))++bD [Cc,bodyT p.body,rH]
def vF (d:Dc):List UInt8:=bD (LM d)
def eu (l:Lw):List UInt8:=l.facts.flatMap vF++l.aH.flatMap uP++l.ay.flatMap uH
structure WS (B b:Nat) (w0 w:World) (bs:List UInt8):Prop where
 ib:Lib.IsBuilder 95 5 B b (lc bs) w
 bl:Below B w0 w
 hb:B<=w0.heap.size
theorem WS.size {B b:Nat} {w0 w:World} {bs:List UInt8} (h:WS B b w0 w bs):B<=w.heap.size:=Nat.le_trans h.hb h.bl.size
theorem WS.grow {B b:Nat} {w0 w w':World} {bs:List UInt8} (h:WS B b w0 w bs) (hb:Below w.heap.size w w'):WS B b w0 w' bs:=
 ⟨BI h.ib hb,h.bl.trans (hb.mono h.size),h.hb⟩
theorem WS.lt {B b:Nat} {w0 w:World} {bs:List UInt8} (h:WS B b w0 w bs):b<w.heap.size:=Yt h.ib
theorem WS.words {B b:Nat} {w0 w:World} {bs:List UInt8} (h:WS B b w0 w bs) (l:List ByteArray) (g n:Nat) (hg:aj w g 9 (strs l)) (hgb:b<g) (hn:n=l.length) (hm:n<=1000) (h0:l≠[]) (hlen:bs.length+(bD l).length<=100000000000000):
  Calls prog 98 #[.pointer (some ⟨b,0,none⟩),.slice (some ⟨g,0,none⟩) n n] w fun e w'=>e=.returned (.tuple #[])/\(WS B b w0 w' (bs++bD l)/\BF b w w'):=by
 refine (V6 B b g n n bs l w h.ib hg (by omega) hn hm h0 hlen h.size).mono ?_;rintro e w' ⟨rfl,hx,hb,hf⟩;exact⟨rfl,⟨.inr hx,h.bl.trans hb,h.hb⟩,hf⟩
def rJ (t:Ty):Prop:=(-1000<=t.aA/\t.aA<=1000)/\(-1000<=t.days/\t.days<=1000)/\dA (aK t.aA)/\dA (aK t.days)
theorem jB {t:Ty} (h:rJ t):(bC t).size<=12582925:=by
 obtain⟨_,_,h1,h2⟩:=h;have e1:=dJ _ h1.1 h1.2;have e2:=dJ _ h2.1 h2.2;unfold bC;split
 ·decide
 ·rw[ByteArray.size_append,ByteArray.size_append,ByteArray.size_append];show 1+_+1+_<=_;omega
def qm (d:Dc):ByteArray:=Dt++d.name++mD++bC d.ty
section
set_option maxRecDepth 100000
set_option maxHeartbeats 2000000
abbrev tS (l:List UInt8):ByteArray:=⟨l.toArray⟩
def Fb (n:Nd):ByteArray:=
 if n.op=4 then (if n.num.num=⟨#[]⟩ then ⟨#[110,111]⟩ else ⟨#[121,101,115]⟩)
 else if (aG n.op).lit then (if n.op=2 then tS (aG n.op).word++n.name++aU n.num++⟨#[100]⟩ else tS (aG n.op).word++n.name++aU n.num)
 else if (aG n.op).fQ then tS (aG n.op).word++n.name++⟨#[91]⟩++aU n.num++⟨#[93]⟩ else tS (aG n.op).word++n.name
theorem Pn (a b:List UInt8):tS a++tS b=tS (a++b):=ByteArray.ext (by rw[ByteArray.data_append];simp)
theorem ahv {l:List UInt8}:tS l=⟨#[]⟩↔l=[]:=⟨fun h=>by have:=congrArg (fun x:ByteArray=>x.data.toList) h;simpa using this,fun h=>by rw[h]⟩
theorem Ja (l:List UInt8):(tS l).size=l.length:=by show l.toArray.size=_;simp
theorem aey (n:Nd) (l:List (List UInt8)):tS (txt n l)=if (aG n.op).ops=0 then Fb n else Fb n++⟨#[40]⟩++tS (iI l)++⟨#[41]⟩:=by
 unfold txt Fb;by_cases h4:n.op=4
 ·have h0:(aG n.op).ops=0:=by rw[h4];rfl
  rw[if_pos h4,if_pos h0,if_pos h4];split<;>rfl
 rw[if_neg h4,if_neg h4,yD,Di];have e:∀a:ByteArray,(⟨a.data⟩:ByteArray)=a:=fun _=>rfl
 apply ByteArray.ext;apply Array.toList_inj.1;by_cases hl:1<=n.op/\n.op<=4
 ·have h0:(aG n.op).ops=0:=by
   rcases (by omega:n.op=1∨n.op=2∨n.op=3) with h|h|h<;>rw[h]<;>rfl
  have hs:¬(21<=n.op/\n.op<=23):=by omega
  have h22:(aG 2).ops=0:=rfl;by_cases h2:n.op=2<;>simp[h0,hl,hs,h2,h22,ByteArray.data_append]
 ·have h2:¬n.op=2:=by omega
  by_cases hs:21<=n.op/\n.op<=23<;>by_cases h0:(aG n.op).ops=0<;>simp[h0,hl,hs,h2,ByteArray.data_append]
variable {Ld:bU}
theorem Du (a:Ra) (h:dA a):PC prog Ld 135 [a.p] (·=sP (aU a)):=
 kT (.ag (by repeat constructor) .nil) rfl fun w _=>XW a w h.1 h.2
theorem ahw (n:Int):PC prog Ld 189 [iP n] (·=sP (tS (aG n).word)):=kT (.sc .nil) rfl fun w _=>U9 n w
theorem ahx (es:List Nd) (hf:∀n∈es,Fine n) (hl:es.length<=100000):PC prog Ld 136 [.sl 5 (es.map Nd.p)] (·=.tu [sP (bodyT es),iP (aX es)]):=by
 have h1:=Oe (Ld:=Ld) es hf hl;unfold bodyT;refine dh func136 fun X=>?_
 refine run ?_;refine bM (fun h=>?_) fun h=>?_
 ·have h:¬aX es=0:=by simpa using h
  refine run ?_;exact aF (hr:=by rw[if_neg h];rfl)
 have h:aX es=0:=by simpa using h
 obtain⟨hk,hw,_⟩:=(oZ es).1 h
 have hc:chk es 0=0:=by
  have:=h;unfold aX at this;rwa[if_neg (by omega)] at this
 rw[if_pos h,h];refine run ?_;refine Rq 5 5 9 1 rfl rfl (by decide) ?_
 refine Nw (fun b=>[(.s 6,.s (.v (nP b.1))),(.s 5,.s (.ox 5 (b.2.map fun l=>sP (tS l)).length b.1)),(.o 5,.o (.aW b.1 9 1 (b.2.map fun l=>sP (tS l))))]) [.s 0,.s 2]
  (fun b=>b.1<=es.length/\b.2.length<=b.1/\textE es=(runT (es.drop b.1) b.2.reverse).headD []/\chk (es.drop b.1) b.2.length=0/\(∀s∈b.2,s≠[])/\(b.2.map List.length).sum+2*b.2.length<=7000002*b.1) (fun b=>es.length-b.1) ((0,[]):Nat × List (List UInt8)) ?_ ?_
 ·exact⟨by omega,by simp,rfl,hc,fun s hs=>(by cases hs),by simp⟩
 intro⟨k,st⟩ ⟨hk,hst,hJ,hC,hne,hsz⟩;dsimp only at hk hst hJ hC hne hsz⊢;refine run ?_;refine aZ (fun hu=>?_) fun hu=>?_
 ·rw[drop_eq_getElem_cons hu] at hJ hC;obtain⟨hwr,ho,hC⟩:=y8 hC;have h2:=Oc (Ld:=Ld) es[k].op;have h3:=ahw (Ld:=Ld) es[k].op;have h4:=Oa (Ld:=Ld) es[k].op;have h5:=N9 (Ld:=Ld) es[k].op;have h6:=xk (Ld:=Ld) 1 (by omega) (by omega);have hfk:=hf es[k] (getElem_mem hu);have h7:=Du (Ld:=Ld) es[k].num hfk;have hJ:textE es=(runT (es.drop (k+1)) (txt es[k] (st.reverse.take (aG es[k].op).ops).reverse::st.reverse.drop (aG es[k].op).ops)).headD []:=hJ;have hm:∀l,tS (txt es[k] l)=if (aG es[k].op).ops=0 then Fb es[k] else Fb es[k]++⟨#[40]⟩++tS (iI l)++⟨#[41]⟩:=aey es[k]
  have hn:=agw hwr (st.drop (st.length-(aG es[k].op).ops));have hz:=RY hwr hfk (st.drop (st.length-(aG es[k].op).ops));have zw:Sz (tS (aG es[k].op).word) 7:=⟨by rw[Ja];exact vZ _⟩
  have zt:Sz (aU es[k].num) 6291460:=⟨dJ _ hfk.1 hfk.2⟩
  have zn:Sz es[k].name 1000000:=⟨by have:=EH hwr;omega⟩
  have hnk:=(wF hwr).2.2.2.1;have he1:=nM es[k].num (aK 1);unfold Ra.v at he1
  have hM:Fb es[k]=if es[k].op=4 then (if es[k].num.num=⟨#[]⟩ then ⟨#[110,111]⟩ else ⟨#[121,101,115]⟩)
   else if (aG es[k].op).lit then (if es[k].op=2 then tS (aG es[k].op).word++es[k].name++aU es[k].num++⟨#[100]⟩ else tS (aG es[k].op).word++es[k].name++aU es[k].num)
   else if (aG es[k].op).fQ then tS (aG es[k].op).word++es[k].name++⟨#[91]⟩++aU es[k].num++⟨#[93]⟩ else tS (aG es[k].op).word++es[k].name:=rfl
  generalize Fb es[k]=mB at*;generalize (aG es[k].op).ops=o at*;obtain⟨t,ht⟩:=zE (st.length-o);have hto:t+o=st.length:=by omega
  rw[take_reverse,reverse_reverse,drop_reverse,<-ht] at hJ;rw[<-ht] at hC hn hz;have hw2:IntKind.i64.wrap ((st.length:Int)-(o:Int))=(t:Int):=by rw[IntWalk.i64_in _ (by omega)];omega
  clear ht;have hs1:(st.map List.length).sum=((st.take t).map List.length).sum+((st.drop t).map List.length).sum:=by rw[<-sum_append,<-map_append,take_append_drop]
  have hl1:(st.drop t).length=o:=by rw[length_drop];omega
  have hl2:(st.take t).length=t:=by rw[length_take];omega
  have hd:∀s∈st.drop t,s≠[]:=fun s hs=>hne s (mem_of_mem_drop hs)
  refine run ?_;refine jr o (fun j=>[(.s 10,.s (.v (nP (t+j)))),(.s 9,.s (.v (sP (tS (qX ((st.drop t).take j))))))]) [.s 0,.s 2,.s 5,.o 5,.s 6,.s 7,.o 7,.s 8] ?_;intro j hj hw;have hs2:((st.drop t).map List.length).sum=(((st.drop t).take j).map List.length).sum+(((st.drop t).drop j).map List.length).sum:=by rw[<-sum_append,<-map_append,take_append_drop]
  have hl3:((st.drop t).take j).length=j:=by rw[length_take];omega
  have hq:=aaL ((st.drop t).take j) fun s hs=>hd s (mem_of_mem_take hs)
  have hq2:=JX ((st.drop t).take j);rw[<-hq,hl3] at hq2;have zO:Sz (tS (qX ((st.drop t).take j))) 500000000:=⟨by rw[Ja];omega⟩
  refine run ?_;refine aZ (fun hv=>?_) fun hv=>?_
  ·have hv2:t+j<st.length:=by omega
   have hv3:j<(st.drop t).length:=by omega
   have ht:=take_succ_eq_append_getElem hv3;have he:=GN ((st.drop t).take j) (st.drop t)[j];rw[<-ht] at he;have hx:(st.drop t)[j]=st[t+j]'(by omega):=getElem_drop;rw[hx] at he;have hx2:st[t+j].length<=(((st.drop t).drop j).map List.length).sum:=by rw[drop_eq_getElem_cons hv3,hx];simp
   have zx:Sz (tS (st[t+j]'(by omega))) 500000000:=⟨by rw[Ja];omega⟩
   have h8:((t:Int)+(j:Int)).toNat=t+j:=by omega
   have hw4:IntKind.i64.wrap ((t:Int)+(j:Int)+1)=((t+(j+1):Nat):Int):=by rw[IntWalk.i64_in _ (by omega)];omega
   generalize qX ((st.drop t).take j)=O at*;refine run ?_;refine qx [(.s 9,.s (.v (sP (tS (if O=[] then O else O++[44,32])))))] ?_ ?_
   ·refine bM (fun h=>?_) fun h=>?_
    ·refine run ?_;exact fA (by rw[if_neg fun e=>by simp[e] at h,<-Pn];exact eP)
    ·refine run ?_;exact fA (by rw[if_pos (ahv.1 (by simpa using h))];exact eP)
   have zQ:Sz (tS (if O=[] then O else O++[44,32])) 500000002:=by
    split
    ·exact Sz.up zO rfl
    ·rw[<-Pn];exact Sz.add zO (Sz.lit _)
   replace he:=congrArg tS he;rw[<-Pn] at he;clear hq hq2 zO hx hx2 ht;generalize (if O=[] then O else O++[44,32])=Q at*;refine run ?_;refine gq
  ·obtain rfl:j=o:=by omega
   have e1:(st.drop t).take j=st.drop t:=take_of_length_le (by omega);have e2:(st.map fun l=>sP (tS l)).take t=(st.take t).map fun l=>sP (tS l):=map_take.symm
   rw[e1] at hq zO⊢;have hm:=hm (st.drop t);rw[hq] at zO⊢;clear hq hq2 hs2 hl3 e1 hv hj hw;generalize iI (st.drop t)=J at*;have hw3:=wrap_succ k (by omega)
   have zB:Sz mB 10000000:=by
    rw[hM]
    repeat' split
    ·exact⟨by decide⟩
    ·exact⟨by decide⟩
    ·exact Sz.up (Sz.add (Sz.add (Sz.add zw zn) zt) (Sz.lit _)) rfl
    ·exact Sz.up (Sz.add (Sz.add zw zn) zt) rfl
    ·exact Sz.up (Sz.add (Sz.add (Sz.add (Sz.add zw zn) (Sz.lit _)) zt) (Sz.lit _)) rfl
    ·exact Sz.up (Sz.add zw zn) rfl
   refine run ?_;refine qx [(.s 11,.s (.v (sP mB)))] ?_ ?_
   ·refine aZ (fun h=>?_) fun h=>?_
    ·rw[if_pos h] at hM;unfold iC at hnk;rw[if_pos h] at hnk;refine run ?_;refine aZ (fun g=>?_) fun g=>?_
     ·rw[if_neg (by rw[g];decide)] at hM;refine run ?_;exact fA (by rw[hM];exact eP)
     ·rw[if_pos (by simp[g] at hnk;rw[hnk];rfl)] at hM;refine run ?_;exact fA (by rw[hM];exact eP)
    rw[if_neg h] at hM;refine run ?_;refine bM (fun h=>?_) fun h=>?_
    ·rw[h,if_pos rfl] at hM;refine run ?_;refine aZ (fun g=>?_) fun g=>?_
     ·rw[if_pos g] at hM;refine run ?_;exact fA (by rw[hM];exact eP)
     ·rw[if_neg g] at hM;refine run ?_;exact fA (by rw[hM];exact eP)
    rw[h,if_neg (by simp)] at hM;refine run ?_;refine bM (fun h=>?_) fun h=>?_
    ·rw[h,if_pos rfl] at hM;refine run ?_;exact fA (by rw[hM];exact eP)
    ·rw[h,if_neg (by simp)] at hM;refine run ?_;exact fA (by rw[hM];exact eP)
   clear hM h2 h3 h4 h5 h6 h7 zw zt zn he1;refine run ?_;refine qx [(.s 11,.s (.v (sP (tS (txt es[k] (st.drop t))))))] ?_ ?_
   ·refine aZ (fun h=>?_) fun h=>?_
    ·rw[if_neg (by omega)] at hm;refine run ?_;exact fA (by rw[hm];exact eP)
    ·rw[if_pos (by omega)] at hm;refine run ?_;exact fA (by rw[hm];exact eP)
   clear hm zB zO;refine run ?_;refine Ny (k+1,st.take t++[txt es[k] (st.drop t)]) ?_ ?_
   ·have e3:(st.take t++[txt es[k] (st.drop t)]).length=t+1:=by rw[length_append,hl2];rfl
    refine⟨by omega,by dsimp only;omega,by rw[hJ];simp,by dsimp only;rw[e3];exact hC,fun s hs=>?_,?_⟩
    ·rcases mem_append.1 hs with hs|hs
     ·exact hne s (mem_of_mem_take hs)
     ·rw[mem_singleton.1 hs];exact hn
    ·dsimp only
     rw[e3,map_append,sum_append,map_singleton,sum_singleton];omega
   ·dsimp only;omega
 ·rw[drop_of_length_le (by omega)] at hJ hC
  have h1:st.length=1:=by
   unfold chk at hC;split at hC
   ·assumption
   ·cases hC
  obtain⟨a,rfl⟩:=length_eq_one_iff.1 h1;have hJ:textE es=a:=hJ;refine run ?_;exact aF (hr:=by rw[hJ];rfl)
end
section
set_option maxRecDepth 100000
set_option maxHeartbeats 2000000
variable {Ld:bU}
theorem ahy (n:Int) (hn:-1000<=n/\n<=1000) (hf:dA (aK n)):PC prog Ld 185 [iP n] (·=sP (aU (aK n))):=by
 have c1:=xk (Ld:=Ld) n (by omega) (by omega);have c2:=Du (Ld:=Ld) (aK n) hf;refine dh func185 fun X=>?_
 refine run ?_;exact aF
theorem yType (t:Ty) (h:rJ t):PC prog Ld 134 [t.p] (·=sP (bC t)):=by
 obtain⟨h1,h2,h3,h4⟩:=h;have c1:=ahy (Ld:=Ld) t.aA h1 h3;have c2:=ahy (Ld:=Ld) t.days h2 h4;have z1:Sz (aU (aK t.aA)) 6291460:=⟨dJ _ h3.1 h3.2⟩
 have z2:Sz (aU (aK t.days)) 6291460:=⟨dJ _ h4.1 h4.2⟩
 unfold bC;refine dh func134 fun X=>?_
 obtain⟨tt,mo,da⟩:=t;cases tt
 ·refine run ?_;exact aF
 ·refine run ?_;exact aF
theorem aiN (d:Dc) (h:rJ d.ty) (hn:d.name.size<=1000000000):PC prog Ld 80 [d.p] (·=sP (qm d)):=by
 have c1:=yType (Ld:=Ld) d.ty h;have z1:Sz (bC d.ty) 12582925:=⟨jB h⟩
 have z2:Sz d.name 1000000000:=⟨hn⟩
 refine dh func80 fun X=>?_
 refine run ?_;exact aF
end
def rM:Nat->List Bk->List UInt8
 |_,[]=>[]
 |k,b::r=>(if k=0 then [] else [44,32])++((aU b.fr).data.toList++([32]++((aU b.rt).data.toList++rM (k+1) r)))
def Ce (s:Sc):List UInt8:=(Pm++s.name++mD++bC ⟨false,s.aA,s.days⟩++Cc).data.toList++rM 0 s.bJ
theorem Zc:∀(l:List Bk) (k:Nat),rM (k+1) l=xU (k+1) l:=by
 intro l
 induction l with
 |nil=>intro k;rfl
 |cons b r ih=>
  intro k;rw[rM,xU,ih,if_neg (by omega)];simp[bD,bkW,uO,mD]
theorem KJ {s:Sc} (h:s.bJ≠[]):Ce s++[10]=uP s:=by
 unfold Ce uP;cases hb:s.bJ with
 |nil=>exact absurd hb h
 |cons b r=>
  rw[rM,xU,Zc,if_pos rfl];simp[bD,bkW,uO,mD,abA,rH,Cc,ByteArray.data_append]
theorem Zd (l:List Bk) (k:Nat) (hf:∀b∈l,lH b):(rM k l).length<=12582923*l.length:=by
 induction l generalizing k with
 |nil=>exact Nat.zero_le _
 |cons b r ih=>
  have h1:=ih (k+1) (fun b hb=>hf b (by simp[hb]));obtain⟨⟨f1,f2⟩,f3,f4⟩:=hf b (by simp);have h2:=dJ b.fr f1 f2;have h3:=dJ b.rt f3 f4;rw[yE] at h2 h3;have h4:(if k=0 then ([]:List UInt8) else [44,32]).length<=2:=by split<;>simp
  rw[rM];simp only[length_append,length_cons,length_nil]
  omega
theorem aiO {s:ByteArray} {l:List UInt8} (h:s.data.toList=l):s=⟨l.toArray⟩:=by rw[<-h]
def Hz (p:Pv):List UInt8:=(E8++p.name++mD++bC p.ty).data.toList++((if p.fH then Cb.data.toList else [])++((if dX p then [] else Fa.data.toList++((aU p.step).data.toList++(sCap.data.toList++(aU p.cap).data.toList)))++(Cc.data.toList++(bodyT p.body).data.toList)))
theorem abB (p:Pv):Hz p++[10]=uH p:=by
 unfold Hz uH;cases p.fH<;>cases dX p<;>simp[bD,Zb,TN,rH,ByteArray.data_append]
theorem zK (e:List Nd) (hf:∀n∈e,Fine n):(bodyT e).size<=420000120:=by
 unfold bodyT;split
 ·next h=>
  have h1:=Kt 61 e (Kr h) hf;have h2:=(ru h).2;show (textE e).length<=_;omega
 ·exact Nat.zero_le _
structure adb (l:Lw):Prop where
 fl:lW l
 f:∀d∈l.facts,d.name.size<=1048576/\rJ d.ty
 s:∀x∈l.aH,x.name.size<=1048576/\rJ ⟨false,x.aA,x.days⟩/\x.bJ.length<=1000
 p:∀x∈l.ay,x.name.size<=1048576/\rJ x.ty
def ade (d:Dc):List UInt8:=(qm d).data.toList++[10]
def amG (x:Sc × Hd):List UInt8:=Ce x.1++[10]
def pvB (x:Pv × Hd):List UInt8:=Hz x.1++[10]
def Fe (fs:List Dc) (ss:List (Sc × Hd)) (ps:List (Pv × Hd)):List UInt8:=fs.flatMap ade++(ss.flatMap amG++ps.flatMap pvB)
def wK (t:Ty):Prop:=(-1000<=t.aA/\t.aA<=1000)/\(-1000<=t.days/\t.days<=1000)/\dA (aK t.aA)/\dA (aK t.days)
structure zL (l:Lw):Prop where
 f:∀d∈l.facts,wK d.ty
 s:∀x∈l.aH,wK ⟨false,x.aA,x.days⟩
 p:∀x∈l.ay,wK x.ty
 b:∀x∈l.aH,x.bJ.length<=1000
structure TX (b:Nat) (w0 W:World) (tot R:List UInt8) (X:World):Prop where
 t:∃t0,WS w0.heap.size b w0 X t0/\t0++R=tot
 f:BF b W X
section
variable {b:Nat} {w0 W W2 X X':World} {tot R R':List UInt8}
theorem TX.bl (h:TX b w0 W tot R X):Below w0.heap.size w0 X:=let ⟨_,h1,_⟩:=h.t;h1.bl
theorem TX.lt (h:TX b w0 W tot R X):b<X.heap.size:=let ⟨_,h1,_⟩:=h.t;h1.lt
theorem TX.grow (h:TX b w0 W tot R X) (hb:Below X.heap.size X X'):TX b w0 W tot R X':=let ⟨t0,h1,h2⟩:=h.t;⟨⟨t0,h1.grow hb,h2⟩,h.f.trans (BF.of_below hb)⟩
theorem TX.here (h:TX b w0 W tot R X):TX b w0 X tot R X:=⟨h.t,BF.refl _ _⟩
theorem TX.back (h:TX b w0 X tot R X') (hf:BF b W X):TX b w0 W tot R X':=⟨h.t,hf.trans h.f⟩
theorem TX.as (h:TX b w0 W tot R X) (e:R=R'):TX b w0 W tot R' X:=e ▸ h
theorem TX.words (l:List ByteArray) (h:TX b w0 W tot (bD l++R) X) (ht:tot.length<=10000000000000) (hm:l.length<=1000:=by simp) (h0:l≠[]:=by simp):
  Calls prog 98 #[.pointer (some ⟨b,0,none⟩),.slice (some ⟨X.heap.size,0,none⟩) l.length l.length] (X.alloc (.cells (strs l).toArray 9)) fun e X'=>e=.returned (.tuple #[])/\TX b w0 W tot R X'/\BF b X X':=by
 obtain⟨t0,h1,h2⟩:=h.t;have hb:=zB X (.cells (strs l).toArray 9);refine ((h1.grow hb).words l X.heap.size l.length (aj.new X _ _) h1.lt rfl hm h0 (by have:=congrArg List.length h2;simp only[length_append] at this;omega)).mono ?_;rintro e X' ⟨rfl,hx,hf⟩;have hf':=(BF.of_below (b:=b) hb).trans hf;exact⟨rfl,⟨⟨_,hx,by rw[append_assoc];exact h2⟩,h.f.trans hf'⟩,hf'⟩
end
theorem Jb {α:Type} (f:α->List UInt8) {l:List α} {j:Nat} (h:j<l.length):(l.drop j).flatMap f=f l[j]++(l.drop (j+1)).flatMap f:=by rw[drop_eq_getElem_cons h,flatMap_cons]
theorem aez {l:List Bk} {j:Nat} (h:j<l.length):xU j (l.drop j)=bD (bkW j l[j])++xU (j+1) (l.drop (j+1)):=by rw[drop_eq_getElem_cons h];rfl
theorem Ze (l:Lw) (ss:List (Sc × Hd)) (ps:List (Pv × Hd)) (f s p:Hd) (B b:Nat) (w0 w:World) (bs:List UInt8) (hS:WS B b w0 w bs) (hB0:B=w0.heap.size) (hL:bT w0) (h:iQ w0 l ss ps f s p) (hf:lW l) (hT:zL l) (hlen:bs.length+(eu l).length<=10000000000000):
  Calls prog 41 #[.pointer (some ⟨b,0,none⟩),nD f s p] w fun e w'=>e=.returned (.tuple #[])/\WS B b w0 w' (bs++eu l):=by
 subst hB0;obtain⟨fa,fn,fc⟩:=f;obtain⟨sa,sn,sc⟩:=s;obtain⟨pa,pn,pc⟩:=p;have hfn:fn<=1000:=by have:=h.f.len;have:=hf.fn;simp only at*;omega
 have hsn:sn<=1000:=by have h1:=h.s.len;have h2:=congrArg List.length h.sl;have:=hf.sn;rw[length_map] at h2;simp only at*;omega
 have hpn:pn<=1000:=by have h1:=h.p.len;have h2:=congrArg List.length h.pl;have:=hf.pn;rw[length_map] at h2;simp only at*;omega
 have hlt:(bs++eu l).length<=10000000000000:=by rw[length_append];exact hlen
 obtain⟨tot,htot⟩:=zE (bs++eu l);rw[<-htot] at hlt⊢;have hX:TX b w0 w tot (l.facts.flatMap vF++(l.aH.flatMap uP++l.ay.flatMap uH)) w:=⟨⟨bs,hS,by rw[htot];unfold eu;simp only[append_assoc]⟩,BF.refl _ _⟩
 clear htot hlen hS;unfold nD;go_enter func41,ntmps41
 go_upto_region 1 with fail
 generalize hW:w.alloc _=W;obtain⟨hQ,hg⟩:=zA hW;have hne:w.heap.size≠b:=by have:=hX.lt;omega
 replace hX:=(hX.grow hg).here;have hc:=fun (X:World) (k:BF b W X)=>show X.cell? ⟨w.heap.size,0,none⟩=some (Value.slice fa fn fc)/\X.cell? ⟨w.heap.size,1,none⟩=some (Value.slice sa sn sc)/\X.cell? ⟨w.heap.size,2,none⟩=some (Value.slice pa pn pc) from⟨(k.blk hQ (by decide) hne).cells 0,(k.blk hQ (by decide) hne).cells 1,(k.blk hQ (by decide) hne).cells 2⟩
 clear hW hQ hg hne;generalize w.heap.size=Q at hc⊢;have hW:=BF.refl b W;go_wp2
 go_loopg [17] fn (fun g iv wr=>∃j:Nat,j+g=fn/\iv=.int .i64 j/\TX b w0 W tot ((l.facts.drop j).flatMap vF++(l.aH.flatMap uP++l.ay.flatMap uH)) wr)
 case atStart=>exact⟨0,by omega,rfl,hX⟩
 case round=>
  clear hX hW;obtain⟨j,hj,rfl,hX⟩:=hrel;have hW:=hX.f;by_cases hlj:j<fn
  ·have hbl:=hX.bl;obtain⟨bb,off,nm,t,m,d,rfl,_,hx,hxe,hd⟩:=acX h.f hlj;have hty:=hT.f _ (getElem_mem hx);rw[hxe] at hty;replace hX:=hX.as (R':=bD [Dt,nm,mD,bC ⟨t,m,d⟩,rH]++((l.facts.drop (j+1)).flatMap vF++(l.aH.flatMap uP++l.ay.flatMap uH))) (by rw[Jb vF hx,hxe,append_assoc];rfl);clear hxe
   go_upto_region 4 with fail
   generalize hY:wr.alloc _=Y;obtain⟨hK,hg⟩:=zA hY;have hne:wr.heap.size≠b:=by have:=hX.lt;omega
   have hk:=fun (X:World) (k:BF b Y X)=>show X.cell? ⟨wr.heap.size,0,none⟩=some (.string nm)/\X.cell? ⟨wr.heap.size,1,none⟩=some (.bool t)/\X.cell? ⟨wr.heap.size,2,none⟩=some (.int .i64 m)/\X.cell? ⟨wr.heap.size,3,none⟩=some (.int .i64 d) from⟨(k.blk hK (by decide) hne).cells 0,(k.blk hK (by decide) hne).cells 1,(k.blk hK (by decide) hne).cells 2,(k.blk hK (by decide) hne).cells 3⟩
   replace hW:=hW.trans (BF.of_below hg);replace hX:=(hX.grow hg).here;clear hY hK hg hne hd hbl;generalize wr.heap.size=K at hk⊢;refine jL (BF b Y) 99 (BF.of_below (aI _ _ 1)) (fun w1 h1 hS=>?_);replace hX:=hX.grow h1
   iterate 5 refine dR ?_
   refine mg 5 (ql ⟨t,m,d⟩ w1 (hL.below hX.bl) hty.1 hty.2.1 hty.2.2.1 hty.2.2.2) ?_;rintro e w2 ⟨rfl,hb2⟩;replace hX:=hX.grow hb2;refine⟨_,rfl,hX.f,fun hS=>?_⟩;refine ng 6 (fun _=>hS.trans (BF.of_below (zB _ _))) (fun _=>?_);refine mg 7 (TX.words [Dt,nm,mD,bC ⟨t,m,d⟩,rH] hX hlt) ?_;rintro e w3 ⟨rfl,hX,_⟩;refine⟨_,rfl,hX.f,fun hS=>?_⟩;refine iW ?_;go_wp2
   go_roundg (fn-(j+1))
   case measure=>omega
   case rel=>exact⟨j+1,by omega,by go_num,hX.back hW⟩
  ·replace hX:=hX.as (R':=l.aH.flatMap uP++l.ay.flatMap uH) (by rw[drop_of_length_le (by have:=h.f.len;simp only at this;omega)];rfl);go_wp2
   go_loopg [33] sn (fun g iv wr=>∃j:Nat,j+g=sn/\iv=.int .i64 j/\TX b w0 W tot ((l.aH.drop j).flatMap uP++l.ay.flatMap uH) wr)
   case atStart=>exact⟨0,by omega,rfl,hX⟩
   case round=>
    clear hX hW;obtain⟨j,hj,rfl,hX⟩:=hrel;have hW:=hX.f;by_cases hlj:j<sn
    ·have hbl:=hX.bl;obtain⟨bb,off,nm,m,d,bJ,⟨ha,hn,hcc⟩,rfl,_,hx,hxe,hd⟩:=acY h.s hlj;have hxl:j<l.aH.length:=by rw[<-h.sl,length_map];exact hx
     have hle:l.aH[j]=⟨nm,m,d,bJ⟩:=by have e:=h.sl;simp[<-e,hxe]
     have hmem:=getElem_mem hxl;rw[hle] at hmem;have hty:=hT.s _ hmem;have hbn:=hT.b _ hmem;have hbf:=hf.sb _ hmem;have hbr:dB w0 Bk.cells bJ ⟨ha,hn,hcc⟩:=by have:=h.sb _ (getElem_mem hx);rw[hxe] at this;exact this
     have hhn:hn<=1000:=by have:=hbr.len;simp only at this hbn;omega
     simp only at hty hbn;obtain⟨R,hR⟩:=zE ((l.aH.drop (j+1)).flatMap uP++l.ay.flatMap uH);replace hX:=hX.as (R':=bD [Pm,nm,mD,bC ⟨false,m,d⟩]++(xU 0 (bJ.drop 0)++(bD [rH]++R))) (by rw[Jb uP hxl,hle,hR];unfold uP abA;simp only[append_assoc,drop_zero]);clear hxe hle hmem
     go_upto_region 9 with fail
     generalize hZ:wr.alloc _=Y;obtain⟨hK,hg⟩:=zA hZ;have hne:wr.heap.size≠b:=by have:=hX.lt;omega
     have hk:=fun (X:World) (k:BF b Y X)=>show X.cell? ⟨wr.heap.size,0,none⟩=some (.string nm)/\X.cell? ⟨wr.heap.size,1,none⟩=some (.int .i64 m)/\X.cell? ⟨wr.heap.size,2,none⟩=some (.int .i64 d)/\X.cell? ⟨wr.heap.size,3,none⟩=some (.slice ha hn hcc) from⟨(k.blk hK (by decide) hne).cells 0,(k.blk hK (by decide) hne).cells 1,(k.blk hK (by decide) hne).cells 2,(k.blk hK (by decide) hne).cells 3⟩
     replace hW:=hW.trans (BF.of_below hg);replace hX:=(hX.grow hg).here;clear hZ hK hg hne hd hbl;generalize wr.heap.size=K at hk⊢;refine jL (BF b Y) 99 (BF.of_below (aI _ _ 1)) (fun w1 h1 hS=>?_);replace hX:=hX.grow h1
     iterate 6 refine dR ?_
     refine mg 6 (ql ⟨false,m,d⟩ w1 (hL.below hX.bl) hty.1 hty.2.1 hty.2.2.1 hty.2.2.2) ?_;rintro e w2 ⟨rfl,hb2⟩;replace hX:=hX.grow hb2;refine⟨_,rfl,hX.f,fun hS=>?_⟩;refine ng 7 (fun _=>hS.trans (BF.of_below (zB _ _))) (fun _=>?_);refine mg 8 (TX.words [Pm,nm,mD,bC ⟨false,m,d⟩] hX hlt) ?_;rintro e w3 ⟨rfl,hX,_⟩;refine⟨_,rfl,hX.f,fun hS=>?_⟩;refine iW ?_;have hY:=hX.f;go_wp2
     go_loopg [49] hn (fun g iv wr=>∃q:Nat,q+g=hn/\iv=.int .i64 q/\TX b w0 Y tot (xU q (bJ.drop q)++(bD [rH]++R)) wr)
     case atStart=>exact⟨0,by omega,rfl,hX⟩
     case round=>
      clear hX hY;obtain⟨q,hq,rfl,hX⟩:=hrel;have hY:=hX.f;by_cases hlq:q<hn
      ·have hbl:=hX.bl;obtain⟨b2,off2,rfl,_,hx2,hd0⟩:=hbr.at 6 (fun _=>rfl) (by omega) hlq;obtain⟨x,hx⟩:=zE bJ[q]
       have hd:=fun (X:World) (k:Below w0.heap.size w0 X)=>show X.cell? ⟨b2,off2+q*6,none⟩=some (.bool x.fr.neg)/\X.cell? ⟨b2,off2+q*6+1,none⟩=some (.string x.fr.num)/\X.cell? ⟨b2,off2+q*6+2,none⟩=some (.string x.fr.den)/\X.cell? ⟨b2,off2+q*6+3,none⟩=some (.bool x.rt.neg)/\X.cell? ⟨b2,off2+q*6+4,none⟩=some (.string x.rt.num)/\X.cell? ⟨b2,off2+q*6+5,none⟩=some (.string x.rt.den) from by
        rw[hx];exact⟨hd0 X k 0 _ rfl,hd0 X k 1 _ rfl,hd0 X k 2 _ rfl,hd0 X k 3 _ rfl,hd0 X k 4 _ rfl,hd0 X k 5 _ rfl⟩
       have hfx:=hbf _ (getElem_mem hx2);rw[<-hx] at hfx;replace hX:=hX.as (R':=bD [uO q,mD,aU x.fr,mD,aU x.rt]++(xU (q+1) (bJ.drop (q+1))++(bD [rH]++R))) (by rw[aez hx2,<-hx,append_assoc];rfl);clear hd0 hx
       go_upto_region 13 with fail
       generalize hZ:wr.alloc _=Y2;obtain⟨hK,hg⟩:=zA hZ;have hne:wr.heap.size≠b:=by have:=hX.lt;omega
       have hk2:=fun (X:World) (k:BF b Y2 X)=>show X.cell? ⟨wr.heap.size,0,none⟩=some (.bool x.fr.neg)/\X.cell? ⟨wr.heap.size,1,none⟩=some (.string x.fr.num)/\X.cell? ⟨wr.heap.size,2,none⟩=some (.string x.fr.den)/\X.cell? ⟨wr.heap.size,3,none⟩=some (.bool x.rt.neg)/\X.cell? ⟨wr.heap.size,4,none⟩=some (.string x.rt.num)/\X.cell? ⟨wr.heap.size,5,none⟩=some (.string x.rt.den) from⟨(k.blk hK (by decide) hne).cells 0,(k.blk hK (by decide) hne).cells 1,(k.blk hK (by decide) hne).cells 2,(k.blk hK (by decide) hne).cells 3,(k.blk hK (by decide) hne).cells 4,(k.blk hK (by decide) hne).cells 5⟩
       replace hY:=hY.trans (BF.of_below hg);replace hX:=(hX.grow hg).here;clear hZ hK hg hne hd hbl
       obtain⟨mm,hmn,hm2,hsp⟩:∃mm:Nat,min (q:Int) 1=(mm:Int)/\mm<2/\([.string ⟨#[58]⟩,.string ⟨#[44]⟩]:List Value)[mm]?=some (.string (uO q)):=by
        by_cases h0:q=0
        ·subst h0;exact⟨0,rfl,by omega,rfl⟩
        ·exact⟨1,by omega,by omega,by unfold uO;rw[if_neg h0];rfl⟩
       have mm0:(0:Int)<=(mm:Int):=by omega
       have mm1:(mm:Int)<2:=by omega
       generalize wr.heap.size=K at hk2⊢;refine jL (BF b Y2) 99 (BF.of_below (aI _ _ 1)) (fun w1 h1 hS=>?_);replace hX:=hX.grow h1;clear h1;refine iM 0 ?_;refine iM 2 ?_;refine iM 3 ?_;refine iM 6 ?_;refine iM 7 ?_;refine iM 9 ?_;refine iM 10 ?_;refine FP 1 8 (Js (fun _=>hS.trans (BF.of_below (zB _ _))) (fun hS=>?_)) (opC (jC x.fr _ (hL.below hX.bl).e.base hfx.1.1 hfx.1.2) ?_)
       ·have hzb:w1.heap.size≠b:=by have:=hX.lt;omega
        generalize hZ:w1.alloc _=w9 at hS⊢;obtain⟨hk9,KL⟩:=zA hZ;replace hX:=hX.grow KL;have OL:=fun (X:World) (k:BF b Y2 X/\aj X w1.heap.size 9 [.string ⟨#[58]⟩,.string ⟨#[44]⟩])=>show X.cell? ⟨w1.heap.size,mm,none⟩=some (.string (uO q)) from by rw[k.2.cells mm];exact hsp
        refine reM (fun X=>BF b Y2 X/\aj X w1.heap.size 9 [.string ⟨#[58]⟩,.string ⟨#[44]⟩]) ⟨hS,hk9⟩ (fun _ h=>h.1) (fun hS=>?_);clear hZ hk9 KL;generalize w1.heap.size=Z at OL hS hzb⊢;refine iM 4 ?_;refine iM 5 ?_;refine mg 8 (jC x.fr _ (hL.below hX.bl).e.base hfx.1.1 hfx.1.2) ?_;rintro e w2 ⟨rfl,hb2⟩;replace hX:=hX.grow hb2;refine⟨_,rfl,⟨hS.1.trans (BF.of_below hb2),hS.2.below hb2 hS.2.lt⟩,fun hS=>?_⟩;clear hb2;refine mg 11 (jC x.rt _ (hL.below hX.bl).e.base hfx.2.1 hfx.2.2) ?_;rintro e w2 ⟨rfl,hb2⟩;replace hX:=hX.grow hb2;refine⟨_,rfl,⟨hS.1.trans (BF.of_below hb2),hS.2.below hb2 hS.2.lt⟩,fun hS=>?_⟩;clear hb2;refine ng 12 (fun _=>⟨hS.1.trans (BF.of_below (zB _ _)),hS.2.alloc _⟩) (fun _=>?_);refine mg 13 (TX.words [uO q,mD,aU x.fr,mD,aU x.rt] hX hlt) ?_;rintro e w5 ⟨rfl,hX,hf5⟩;refine⟨_,rfl,⟨hX.f,(hf5.blk (hS.2) (by decide) hzb)⟩,fun hS=>?_⟩;refine iW ?_;go_wp2
        go_roundg (hn-(q+1))
        case measure=>omega
        case rel=>exact⟨q+1,by omega,by go_num,hX.back hY⟩
       ·rintro e w2 ⟨rfl,hb2⟩;replace hX:=hX.grow hb2;refine⟨_,rfl,hS.trans (BF.of_below hb2),fun hS=>?_⟩;clear hb2;refine FP 1 11 (Js (fun _=>hS.trans (BF.of_below (zB _ _))) (fun hS=>?_)) (opC (jC x.rt _ (hL.below hX.bl).e.base hfx.2.1 hfx.2.2) ?_)
        ·have hzb:w2.heap.size≠b:=by have:=hX.lt;omega
         generalize hZ:w2.alloc _=w9 at hS⊢;obtain⟨hk9,KL⟩:=zA hZ;replace hX:=hX.grow KL;have OL:=fun (X:World) (k:BF b Y2 X/\aj X w2.heap.size 9 [.string ⟨#[58]⟩,.string ⟨#[44]⟩])=>show X.cell? ⟨w2.heap.size,mm,none⟩=some (.string (uO q)) from by rw[k.2.cells mm];exact hsp
         refine reM (fun X=>BF b Y2 X/\aj X w2.heap.size 9 [.string ⟨#[58]⟩,.string ⟨#[44]⟩]) ⟨hS,hk9⟩ (fun _ h=>h.1) (fun hS=>?_);clear hZ hk9 KL;generalize w2.heap.size=Z at OL hS hzb⊢;refine iM 4 ?_;refine iM 5 ?_;refine mg 11 (jC x.rt _ (hL.below hX.bl).e.base hfx.2.1 hfx.2.2) ?_;rintro e w2 ⟨rfl,hb2⟩;replace hX:=hX.grow hb2;refine⟨_,rfl,⟨hS.1.trans (BF.of_below hb2),hS.2.below hb2 hS.2.lt⟩,fun hS=>?_⟩;clear hb2;refine ng 12 (fun _=>⟨hS.1.trans (BF.of_below (zB _ _)),hS.2.alloc _⟩) (fun _=>?_);refine mg 13 (TX.words [uO q,mD,aU x.fr,mD,aU x.rt] hX hlt) ?_;rintro e w5 ⟨rfl,hX,hf5⟩;refine⟨_,rfl,⟨hX.f,(hf5.blk (hS.2) (by decide) hzb)⟩,fun hS=>?_⟩;refine iW ?_;go_wp2
         go_roundg (hn-(q+1))
         case measure=>omega
         case rel=>exact⟨q+1,by omega,by go_num,hX.back hY⟩
        ·rintro e w2 ⟨rfl,hb2⟩;replace hX:=hX.grow hb2;refine⟨_,rfl,hS.trans (BF.of_below hb2),fun hS=>?_⟩;clear hb2;refine ng 1 (fun _=>hS.trans (BF.of_below (zB _ _))) (fun hS=>?_);have hzb:w2.heap.size≠b:=by have:=hX.lt;omega
         generalize hZ:w2.alloc _=w9 at hS⊢;obtain⟨hk9,KL⟩:=zA hZ;replace hX:=hX.grow KL;have OL:=fun (X:World) (k:BF b Y2 X/\aj X w2.heap.size 9 [.string ⟨#[58]⟩,.string ⟨#[44]⟩])=>show X.cell? ⟨w2.heap.size,mm,none⟩=some (.string (uO q)) from by rw[k.2.cells mm];exact hsp
         refine reM (fun X=>BF b Y2 X/\aj X w2.heap.size 9 [.string ⟨#[58]⟩,.string ⟨#[44]⟩]) ⟨hS,hk9⟩ (fun _ h=>h.1) (fun hS=>?_);clear hZ hk9 KL;generalize w2.heap.size=Z at OL hS hzb⊢;refine iM 4 ?_;refine iM 5 ?_;refine ng 12 (fun _=>⟨hS.1.trans (BF.of_below (zB _ _)),hS.2.alloc _⟩) (fun _=>?_);refine mg 13 (TX.words [uO q,mD,aU x.fr,mD,aU x.rt] hX hlt) ?_;rintro e w5 ⟨rfl,hX,hf5⟩;refine⟨_,rfl,⟨hX.f,(hf5.blk (hS.2) (by decide) hzb)⟩,fun hS=>?_⟩;refine iW ?_;go_wp2
         go_roundg (hn-(q+1))
         case measure=>omega
         case rel=>exact⟨q+1,by omega,by go_num,hX.back hY⟩
      ·replace hX:=hX.as (R':=bD [rH]++R) (by rw[drop_of_length_le (by have:=hbr.len;simp only at this;omega)];rfl);go_wp2_with fail;refine (TX.words [rH] hX hlt).mono ?_;rintro e w3 ⟨rfl,hX,_⟩;go_wp2
       go_roundg (sn-(j+1))
       case measure=>omega
       case rel=>exact⟨j+1,by omega,by go_num,(hX.as hR).back hW⟩
    ·replace hX:=hX.as (R':=l.ay.flatMap uH) (by rw[drop_of_length_le (by have h1:=h.s.len;have h2:=congrArg List.length h.sl;rw[length_map] at h2;simp only at h1;omega)];rfl);go_wp2
     go_loopg [76] pn (fun g iv wr=>∃j:Nat,j+g=pn/\iv=.int .i64 j/\TX b w0 W tot ((l.ay.drop j).flatMap uH) wr)
     case atStart=>exact⟨0,by omega,rfl,hX⟩
     case round=>
      clear hX hW;obtain⟨j,hj,rfl,hX⟩:=hrel;have hW:=hX.f;by_cases hlj:j<pn
      ·have hbl:=hX.bl;obtain⟨bb,off,x,rfl,_,hx,hxe,hd⟩:=acZ h.p hlj;have hxl:j<l.ay.length:=by rw[<-h.pl,length_map];exact hx
       have hle:l.ay[j]=x.1:=by have e:=h.pl;simp[<-e,hxe]
       have hmem:=getElem_mem hxl;rw[hle] at hmem;have hty:=hT.p _ hmem;have hfp:=hf.pb _ hmem;have hbr:dB w0 Nd.cells x.1.body x.2:=by have:=h.pb _ (getElem_mem hx);rw[hxe] at this;exact this
       obtain⟨R,hR⟩:=zE ((l.ay.drop (j+1)).flatMap uH);replace hX:=hX.as (R':=bD [E8,x.1.name,mD,bC x.1.ty]++((if x.1.fH then bD [Cb] else [])++((if dX x.1 then [] else bD [Fa,aU x.1.step,sCap,aU x.1.cap])++(bD [Cc,bodyT x.1.body,rH]++R)))) (by rw[Jb uH hxl,hle,hR];unfold uH Zb TN;simp only[append_assoc]);clear hxe hle hmem
       go_upto_region 20 with fail
       generalize hZ:wr.alloc _=Y;obtain⟨hK,hg⟩:=zA hZ;have hne:wr.heap.size≠b:=by have:=hX.lt;omega
       have hk:=fun (X:World) (k:BF b Y X)=>show X.cell? ⟨wr.heap.size,0,none⟩=some (.string x.1.name)/\X.cell? ⟨wr.heap.size,1,none⟩=some (.bool x.1.ty.truth)/\X.cell? ⟨wr.heap.size,2,none⟩=some (.int .i64 x.1.ty.aA)/\X.cell? ⟨wr.heap.size,3,none⟩=some (.int .i64 x.1.ty.days)/\X.cell? ⟨wr.heap.size,4,none⟩=some (.slice x.2.a x.2.n x.2.c)/\X.cell? ⟨wr.heap.size,5,none⟩=some (.bool x.1.fH)/\X.cell? ⟨wr.heap.size,6,none⟩=some (.bool x.1.step.neg)/\X.cell? ⟨wr.heap.size,7,none⟩=some (.string x.1.step.num)/\X.cell? ⟨wr.heap.size,8,none⟩=some (.string x.1.step.den)/\X.cell? ⟨wr.heap.size,9,none⟩=some (.bool x.1.cap.neg)/\X.cell? ⟨wr.heap.size,10,none⟩=some (.string x.1.cap.num)/\X.cell? ⟨wr.heap.size,11,none⟩=some (.string x.1.cap.den) from⟨(k.blk hK (by decide) hne).cells 0,(k.blk hK (by decide) hne).cells 1,(k.blk hK (by decide) hne).cells 2,(k.blk hK (by decide) hne).cells 3,(k.blk hK (by decide) hne).cells 4,(k.blk hK (by decide) hne).cells 5,(k.blk hK (by decide) hne).cells 6,(k.blk hK (by decide) hne).cells 7,(k.blk hK (by decide) hne).cells 8,(k.blk hK (by decide) hne).cells 9,(k.blk hK (by decide) hne).cells 10,(k.blk hK (by decide) hne).cells 11⟩
       replace hW:=hW.trans (BF.of_below hg);replace hX:=(hX.grow hg).here;clear hZ hK hg hne hd hbl;generalize wr.heap.size=K at hk⊢;refine jL (BF b Y) 99 (BF.of_below (aI _ _ 1)) (fun w1 h1 hS=>?_);replace hX:=hX.grow h1
       iterate 5 refine dR ?_
       refine mg 5 (ql x.1.ty w1 (hL.below hX.bl) hty.1 hty.2.1 hty.2.2.1 hty.2.2.2) ?_;rintro e w2 ⟨rfl,hb2⟩;replace hX:=hX.grow hb2;refine⟨_,rfl,hX.f,fun hS=>?_⟩;refine ng 6 (fun _=>hS.trans (BF.of_below (zB _ _))) (fun _=>?_);refine mg 7 (TX.words [E8,x.1.name,mD,bC x.1.ty] hX hlt) ?_;rintro e w3 ⟨rfl,hX,_⟩;refine⟨_,rfl,hX.f,fun hS=>?_⟩;refine iW ?_;have hkw:=hk _ hX.f
       go_upto_if 89 with fail
       go_cut [] from 77 to 92 (fun X=>TX b w0 Y tot ((if dX x.1 then [] else bD [Fa,aU x.1.step,sCap,aU x.1.cap])++(bD [Cc,bodyT x.1.body,rH]++R)) X)
       case first=>
        cases hch:x.1.fH
        ·rw[hch] at hX;go_wp2
         go_meet
         case rel=>exact hX
        ·rw[hch] at hX;go_wp2_with fail;refine (TX.words [Cb] hX hlt).mono ?_;rintro e w4 ⟨rfl,hX,_⟩;go_wp2
         go_meet
         case rel=>exact hX
       case rest=>
        clear hX hkw;have hX:=hcut;clear hcut;have hkw:=hk _ hX.f;go_wp2_with fail;refine (G9 x wc).mono ?_;rintro e w4 ⟨rfl,hb4⟩;replace hX:=hX.grow hb4;clear hkw hb4
        go_upto_if 95 with fail
        go_cut [] from 93 to 104 (fun X=>TX b w0 Y tot (bD [Cc,bodyT x.1.body,rH]++R) X)
        case first=>
         cases hpl:dX x.1
         ·rw[hpl] at hX;go_wp2;refine jL (BF b Y) 99 (hX.f.trans (BF.of_below (aI _ _ 1))) (fun w1 h1 hS=>?_);replace hX:=hX.grow h1;refine iM 0 ?_;refine iM 1 ?_;refine iM 2 ?_;refine iM 4 ?_;refine iM 5 ?_;refine mg 3 (jC x.1.step _ (hL.below hX.bl).e.base hfp.1.1 hfp.1.2) ?_;rintro e w5 ⟨rfl,hb5⟩;replace hX:=hX.grow hb5;refine⟨_,rfl,hX.f,fun hS=>?_⟩;refine mg 6 (jC x.1.cap _ (hL.below hX.bl).e.base hfp.2.1.1 hfp.2.1.2) ?_;rintro e w6 ⟨rfl,hb6⟩;replace hX:=hX.grow hb6;refine⟨_,rfl,hX.f,fun hS=>?_⟩;refine ng 7 (fun _=>hS.trans (BF.of_below (zB _ _))) (fun _=>?_);refine mg 8 (TX.words [Fa,aU x.1.step,sCap,aU x.1.cap] hX hlt) ?_;rintro e w7 ⟨rfl,hX,_⟩;refine⟨_,rfl,hX.f,fun hS=>?_⟩;refine iW ?_;go_wp2
          go_meet
          case rel=>exact hX
         ·rw[hpl] at hX;go_wp2
          go_meet
          case rel=>exact hX
        case rest=>
         clear hX;have hX:=hcut;clear hcut;have hkw:=hk _ hX.f;go_wp2_with fail;refine ((Ku x.1.body x.2.a x.2.n x.2.c wc (hL.below hX.bl).e (let r:=hbr.below hX.bl;⟨r.len,r.cap,r.max,r.rd⟩) hfp.2.2).mono fun e w' h=>(⟨⟨_,h.1⟩,h.2⟩:(∃z,e=.returned (.tuple #[.string (bodyT x.1.body),.int .i64 z]))/\Below wc.heap.size wc w')).mono ?_;rintro e w5 ⟨⟨z,rfl⟩,hb5⟩;replace hX:=hX.grow hb5;go_wp2_with fail;refine (TX.words [Cc,bodyT x.1.body,rH] hX hlt).mono ?_;rintro e w6 ⟨rfl,hX,_⟩;go_wp2
         go_roundg (pn-(j+1))
         case measure=>omega
         case rel=>exact⟨j+1,by omega,by go_num,(hX.as hR).back hW⟩
      ·replace hX:=hX.as (R':=[]) (by rw[drop_of_length_le (by have h1:=h.p.len;have h2:=congrArg List.length h.pl;rw[length_map] at h2;simp only at h1;omega)];rfl);obtain⟨t0,h1,h2⟩:=hX.t;rw[append_nil] at h2;subst h2;go_wp2;go_end0;exact⟨rfl,h1⟩
def yI (l:Lw):Value:=.tuple #[.string ⟨(if aT l=0 then eu l else []).toArray⟩,.int .i64 (aT l)]
theorem WS.str {B b:Nat} {w0 w:World} {bs:List UInt8} (h:WS B b w0 w bs) (h0:bs≠[]):Calls prog 42 #[.pointer (some ⟨b,0,none⟩)] w fun e w'=>e=.returned (.string ⟨bs.toArray⟩)/\Below B w0 w':=by
 rcases h.ib with k|k<;>exact (abz B b _ bs w k h0).mono fun e w' r=>⟨r.1,h.bl.trans r.2⟩
theorem WS.fresh (w:World):WS w.heap.size w.heap.size w (w.alloc (.cells #[.pointer none,.slice none 0 0] 95)) []:=by
 refine⟨.inl ⟨Nat.le_refl _,.slice none 0 0,?_,ownsRow_nil _ _ _ _,fun e=>by cases e⟩,(Below.refl _ _).alloc (Nat.le_refl _) _,Nat.le_refl _⟩;exact aj.new w _ _
theorem Ci (l:Lw) (ss:List (Sc × Hd)) (ps:List (Pv × Hd)) (f s p:Hd) (w:World) (hL:bT w) (h:iQ w l ss ps f s p) (hf:lW l) (hT:aT l=0->zL l/\eu l≠[]/\(eu l).length<=1000000000000):
  Calls prog 16 #[nD f s p] w fun e w'=>e=.returned (yI l)/\Below w.heap.size w w':=by
 have HC:=zH (fun W hb=>vC l ss ps f s p W (hL.below hb) (h.below hb) hf)
 have HW:Hid (aT l=0->∀W,Below w.heap.size w W->Calls prog 41 #[.pointer (some ⟨W.heap.size,0,none⟩),nD f s p] (W.alloc (.cells #[.pointer none,.slice none 0 0] 95)) fun e w'=>e=.returned (.tuple #[])/\WS W.heap.size W.heap.size W w' (eu l)):=fun hz W hb=>by
  have k:=Ze l ss ps f s p W.heap.size W.heap.size W _ [] (WS.fresh W) rfl (hL.below hb) (h.below hb) hf (hT hz).1 (by rw[length_nil];have:=(hT hz).2.2;omega);rw[nil_append] at k;exact k
 have HN:Hid (aT l=0->eu l≠[]):=fun hz=>(hT hz).2.1
 unfold yI;obtain⟨z,hz⟩:=zE (aT l);rw[<-hz] at HC HW HN⊢;obtain⟨fa,fn,fc⟩:=f;obtain⟨sa,sn,sc⟩:=s;obtain⟨pa,pn,pc⟩:=p;unfold nD at HC HW⊢;simp only at HC HW⊢;clear hL h hf hT hz;obtain⟨W,hW⟩:=zE (w.alloc (.cells #[.slice fa fn fc,.slice sa sn sc,.slice pa pn pc] 29));obtain⟨Q,hQ⟩:=zE w.heap.size;have GU:Hid (aj W Q 29 [.slice fa fn fc,.slice sa sn sc,.slice pa pn pc]):=by show aj _ _ _ _;rw[hW,hQ];exact aj.new w _ _
 have bZ:Hid (Below w.heap.size w W):=by show Below _ _ _;rw[hW];exact zB _ _
 have hkc:=GU.out.cells;by_cases hz0:z=0
 ·subst hz0;rw[if_pos rfl];have HWW:=zH (HW.out rfl);have HNN:=zH (HN.out rfl);clear HW HN;generalize eu l=tl at*;go_enter func16,ntmps16
  go_upto_region 1 with fail
  simp only[<-hW,<-hQ]
  clear hW hQ;go_wp2_with fail;refine (HC.out _ bZ.out).mono ?_;rintro e w1 ⟨rfl,hb1⟩;have HB1:=zH (ah bZ.out hb1);have jl:Hid (aj w1 Q 29 [.slice fa fn fc,.slice sa sn sc,.slice pa pn pc]):=GU.out.below hb1 GU.out.lt;have HA1:Hid (Below w1.heap.size w1 (w1.alloc (.cells #[.pointer none,.slice none 0 0] 95))):=(Below.refl _ _).alloc (Nat.le_refl _) _;have hkd:=(jl.out.below HA1.out jl.out.lt).cells;clear hb1 hkc;go_wp2_with fail;refine (HWW.out _ HB1.out).mono ?_;rintro e w2 ⟨rfl,hws⟩;have HST:=zH (hws.str HNN.out);clear hws hkd;go_wp2_with fail;refine HST.out.mono ?_;rintro e w3 ⟨rfl,hb3⟩;have HB3:=zH (ah HB1.out hb3);clear hb3;go_wp2;go_ret2;exact⟨rfl,HB3.out⟩
 ·rw[if_neg hz0];have e1:(z !=0)=true:=by simp[hz0]
  clear HW HN hz0;go_enter func16,ntmps16
  go_upto_region 1 with fail
  simp only[<-hW,<-hQ]
  clear hW hQ;go_wp2_with fail;refine (HC.out _ bZ.out).mono ?_;rintro e w1 ⟨rfl,hb1⟩;have HB1:=zH (ah bZ.out hb1);clear hb1 hkc;go_wp2;go_ret2;exact⟨rfl,HB1.out⟩
structure Raw (l:Lw):Prop where
 fn:l.facts.length<=25
 sn:l.aH.length<=10
 pn:l.ay.length<=35
 f:∀d∈l.facts,d.name.size<=25
 s:∀x∈l.aH,x.name.size<=25/\x.bJ.length<=10/\∀b∈x.bJ,lH b
 p:∀x∈l.ay,x.name.size<=25/\dA x.step/\dA x.cap/\∀n∈x.body,Fine n
theorem Raw.fine {l:Lw} (h:Raw l):lW l:=⟨by have:=h.fn;omega,by have:=h.sn;omega,by have:=h.pn;omega,fun s hs=>(h.s s hs).2.2,fun p hp=>(h.p p hp).2⟩
theorem H6:∀{l:List Int},dY l=0->∀x∈l,x=0
 |[],_,x,hx=>by cases hx
 |z::r,h,x,hx=>by
  rw[nT] at h;by_cases hz:z=0
  ·rw[if_pos hz] at h;rcases mem_cons.1 hx with rfl|hx
   ·exact hz
   ·exact H6 h x hx
  ·rw[if_neg hz] at h;exact absurd h hz
theorem Cj {l:Lw} (h:aT l=0):jQ l=true/\∀s∈l.aH,eY s.bJ=0:=by
 unfold aT at h;split at h
 ·cases h
 split at h
 ·next h1=>exact absurd h h1
 split at h
 ·cases h
 ·next h1=>
  refine⟨by cases ht:jQ l<;>simp_all,fun s hs=>?_⟩;split at h
  ·next h2=>exact absurd h h2
  ·next h2=>exact H6 (l:=l.aH.map fun s=>eY s.bJ) (Classical.not_not.1 h2) _ (mem_map_of_mem hs)
theorem sH {n:Int} (h1:-3<=n) (h2:n<=3):(-1000<=n/\n<=1000)/\dA (aK n):=by
 refine⟨⟨by omega,by omega⟩,?_⟩;unfold dA;rcases (by omega:n= -3∨n= -2∨n= -1∨n=0∨n=1∨n=2∨n=3) with rfl|rfl|rfl|rfl|rfl|rfl|rfl<;>decide
theorem KN {m d:Int} (h:dU m d=true):wK ⟨false,m,d⟩:=by
 unfold dU at h;simp only[Bool.and_eq_true,decide_eq_true_eq] at h;have hm:=sH (n:=m) (by omega) (by omega);have hd:=sH (n:=d) (by omega) (by omega);exact⟨hm.1,hd.1,hm.2,hd.2⟩
theorem Ia {t:Ty} (h:aN t=true):wK t:=by
 unfold aN at h;split at h
 ·obtain rfl:=of_decide_eq_true h;exact⟨(sH (n:=0) (by omega) (by omega)).1,(sH (n:=0) (by omega) (by omega)).1,(sH (n:=0) (by omega) (by omega)).2,(sH (n:=0) (by omega) (by omega)).2⟩
 ·exact KN h
theorem Po {b:List Bk} (h:eY b=0):b≠[]:=by
 rintro rfl;cases h
theorem Raw.V7 {l:Lw} (h:Raw l) (hc:aT l=0):zL l:=by
 have ht:=(Cj hc).1;unfold jQ at ht;simp only[Bool.and_eq_true,all_eq_true] at ht;exact⟨fun d hd=>Ia (ht.1 d hd),fun x hx=>KN (ht.2.2 x hx),fun x hx=>Ia (ht.2.1 x hx),fun x hx=>by have:=(h.s x hx).2.1;omega⟩
theorem Raw.V8 {l:Lw} (h:Raw l) (hc:aT l=0):adb l:=by
 have ht:=h.V7 hc;exact⟨h.fine,fun d hd=>⟨by have:=h.f d hd;omega,ht.f d hd⟩,fun x hx=>⟨by have:=(h.s x hx).1;omega,ht.s x hx,ht.b x hx⟩,fun x hx=>⟨by have:=(h.p x hx).1;omega,ht.p x hx⟩⟩
theorem Fg {α β:Type} {f g:α->List β} {xs:List α} (h:∀x∈xs,f x=g x):xs.flatMap f=xs.flatMap g:=by
 induction xs with
 |nil=>rfl
 |cons x r ih=>rw[flatMap_cons,flatMap_cons,h x (by simp),ih fun y hy=>h y (by simp[hy])]
theorem abC {l:Lw} {ss:List (Sc × Hd)} {ps:List (Pv × Hd)} (hs:ss.map Prod.fst=l.aH) (hp:ps.map Prod.fst=l.ay) (hc:aT l=0):Fe l.facts ss ps=eu l:=by
 unfold Fe eu;rw[append_assoc];congr 1
 ·exact Fg fun d _=>by unfold ade qm vF LM;simp[bD,ByteArray.data_append,rH]
 congr 1
 ·rw[<-hs,flatMap_map];exact Fg fun x hx=>KJ (Po ((Cj hc).2 x.1 (by rw[<-hs];exact mem_map_of_mem hx)))
 ·rw[<-hp,flatMap_map];exact Fg fun x hx=>abB x.1
theorem Ib {α:Type} (f:α->List UInt8) (K:Nat):∀(xs:List α),(∀x∈xs,(f x).length<=K)->(xs.flatMap f).length<=K*xs.length
 |[],_=>Nat.zero_le _
 |x::r,h=>by
  have h1:=Ib f K r fun y hy=>h y (by simp[hy])
  have h2:=h x (by simp);rw[flatMap_cons,length_append,length_cons,Nat.mul_succ];omega
theorem Raw.text {l:Lw} (h:Raw l) (hc:aT l=0):(eu l).length<=1000000000000:=by
 have hT:=h.V7 hc
 have h1:=Ib vF 20000000 l.facts fun d hd=>by
  have a1:=jB (hT.f d hd);have a2:=h.f d hd;unfold vF LM bD;simp[Dt,mD,rH];omega
 have h2:=Ib uP 200000000 l.aH fun x hx=>by
  rw[<-KJ (Po ((Cj hc).2 x hx))];have a1:=jB (hT.s x hx);have a2:=(h.s x hx).1;have a3:=Zd x.bJ 0 (h.s x hx).2.2;have a4:=(h.s x hx).2.1;unfold Ce;simp[Pm,mD,Cc,ByteArray.data_append];omega
 have h3:=Ib uH 1000000000 l.ay fun x hx=>by
  obtain⟨b1,b2,b3,b4⟩:=h.p x hx;have a1:=jB (hT.p x hx);have a2:=dJ _ b2.1 b2.2;have a3:=dJ _ b3.1 b3.2;have a4:=zK x.body b4;unfold uH;have c1:(if x.fH then bD [Cb] else []).length<=7:=by split<;>simp[bD,Cb]
  have c2:(if dX x then [] else bD (TN x)).length<=12582933:=by
   split
   ·exact Nat.zero_le _
   ·unfold bD TN;simp[Fa,sCap];omega
  simp only[length_append]
  generalize (if x.fH then bD [Cb] else []).length=u1 at*;generalize (if dX x then [] else bD (TN x)).length=u2 at*;unfold bD Zb;simp[E8,mD,rH,Cc];omega
 unfold eu;simp only[length_append]
 have:=h.fn;have:=h.sn;have:=h.pn;omega
section
set_option maxRecDepth 100000
set_option maxHeartbeats 2000000
def nH (s:ByteArray) (l:List Bk):Nat->ByteArray
 |0=>s
 |k+1=>match l[k]? with
  |some b=>(if 0<k then nH s l k++⟨#[44,32]⟩ else nH s l k)++aU b.fr++⟨#[32]⟩++aU b.rt
  |none=>nH s l k
theorem zM {s:ByteArray} {l:List Bk} {k:Nat} (h:k<l.length):nH s l (k+1)=(if 0<k then nH s l k++⟨#[44,32]⟩ else nH s l k)++aU l[k].fr++⟨#[32]⟩++aU l[k].rt:=by
 rw[nH,getElem?_eq_getElem h]
theorem zN {s:ByteArray} {l:List Bk} (hf:∀b∈l,lH b):∀k,k<=l.length->(nH s l k).size<=s.size+12582923*k
 |0,_=>Nat.le_refl _
 |k+1,h=>by
  have h1:=zN (s:=s) hf k (by omega);have h2:=hf l[k] (getElem_mem h);have h3:=dJ _ h2.1.1 h2.1.2;have h4:=dJ _ h2.2.1 h2.2.2;rw[zM h]
  have h5:(if 0<k then nH s l k++⟨#[44,32]⟩ else nH s l k).size<=(nH s l k).size+2:=by
   split
   ·rw[ByteArray.size_append];exact Nat.le_refl _
   ·omega
  simp only[ByteArray.size_append]
  have h6:(⟨#[32]⟩:ByteArray).size=1:=rfl;omega
def wL (s:Sc):ByteArray:=nH (⟨#[115,99,104,101,100,117,108,101,32]⟩++s.name++⟨#[32]⟩++bC ⟨false,s.aA,s.days⟩++⟨#[58,32]⟩) s.bJ s.bJ.length
variable {Ld:bU}
theorem amH (m d:Int):PC prog Ld 56 [.ag [iP m,iP d]] (·=(⟨false,m,d⟩:Ty).p):=by
 refine dh func56 fun X=>?_
 refine run ?_;exact aF
theorem amI (s:Sc) (hf:∀b∈s.bJ,lH b) (hl:s.bJ.length<=1000) (hn:s.name.size<=1048576) (ht:rJ ⟨false,s.aA,s.days⟩):PC prog Ld 81 [s.p] (·=sP (wL s)):=by
 have c1:=amH (Ld:=Ld) s.aA s.days;have c2:=yType (Ld:=Ld) _ ht;have z1:Sz (bC ⟨false,s.aA,s.days⟩) 12582925:=⟨jB ht⟩
 have z2:Sz s.name 1048576:=⟨hn⟩
 have z3:(⟨#[115,99,104,101,100,117,108,101,32]⟩++s.name++⟨#[32]⟩++bC ⟨false,s.aA,s.days⟩++⟨#[58,32]⟩:ByteArray).size<=20000000:=Nat.le_trans ((((Sz.add (Sz.add (Sz.add (Sz.add (Sz.lit _) z2) (Sz.lit _)) z1) (Sz.lit _)).le))) (by decide);unfold wL;refine dh func81 fun X=>?_
 refine run ?_;clear c1 c2 z1 z2 hn ht;generalize (⟨#[115,99,104,101,100,117,108,101,32]⟩++s.name++⟨#[32]⟩++bC ⟨false,s.aA,s.days⟩++⟨#[58,32]⟩:ByteArray)=s0 at*;refine jr s.bJ.length (fun k=>[(.s 4,.s (.v (nP k))),(.s 3,.s (.v (sP (nH s0 s.bJ k))))]) [.s 1,.o 1] ?_;intro k hk hw;have zk:Sz (nH s0 s.bJ k) 20000000000:=⟨by have:=zN (s:=s0) hf k hk;omega⟩
 refine run ?_;refine aZ (fun hu=>?_) fun hu=>?_
 ·have e:=zM (s:=s0) hu;have hb:=hf s.bJ[k] (getElem_mem hu);have c1:=Du (Ld:=Ld) _ hb.1;have c2:=Du (Ld:=Ld) _ hb.2;have z1:Sz (aU s.bJ[k].fr) 6291460:=⟨dJ _ hb.1.1 hb.1.2⟩
  have z2:Sz (aU s.bJ[k].rt) 6291460:=⟨dJ _ hb.2.1 hb.2.2⟩
  refine run ?_;refine aZ (fun h=>?_) fun h=>?_
  ·rw[if_pos (by omega)] at e;refine run ?_;refine gq
  ·rw[if_neg (by omega)] at e;refine run ?_;refine gq
 ·have e1:k=s.bJ.length:=by omega
  subst e1;refine run ?_;exact aF
theorem aeA (s:Sc):(wL s).data.toList=Ce s:=by
 have key:∀(s0:ByteArray) (l:List Bk) (k:Nat),k<=l.length->(nH s0 l k).data.toList++rM k (l.drop k)=s0.data.toList++rM 0 l:=by
  intro s0 l k
  induction k with
  |zero=>intro _;rfl
  |succ k ih=>
   intro h;have hu:k<l.length:=by omega
   rw[<-ih (by omega),zM hu,drop_eq_getElem_cons hu,rM];by_cases hk:k=0
   ·rw[if_neg (by omega),if_pos hk];simp[ByteArray.data_append]
   ·rw[if_pos (by omega),if_neg hk];simp[ByteArray.data_append]
 have h:=key (⟨#[115,99,104,101,100,117,108,101,32]⟩++s.name++⟨#[32]⟩++bC ⟨false,s.aA,s.days⟩++⟨#[58,32]⟩) s.bJ s.bJ.length (Nat.le_refl _);rw[drop_length,show rM s.bJ.length []=[] from rfl,append_nil] at h;exact h
def vG (x:Pv):ByteArray:=if x.fH then ⟨#[112,114,111,118,105,115,105,111,110,32]⟩++x.name++⟨#[32]⟩++bC x.ty++⟨#[32,99,104,97,114,103,101]⟩ else ⟨#[112,114,111,118,105,115,105,111,110,32]⟩++x.name++⟨#[32]⟩++bC x.ty
def xC (x:Pv):ByteArray:=if dX x then vG x else vG x++⟨#[32,115,116,101,112,32]⟩++aU x.step++⟨#[32,99,97,112,32]⟩++aU x.cap
def xW (x:Pv):ByteArray:=xC x++⟨#[58,32]⟩++bodyT x.body
theorem aeB (x:Pv):(xW x).data.toList=Hz x:=by
 unfold xW xC vG Hz;cases x.fH<;>cases dX x<;>simp[ByteArray.data_append,E8,mD,Cb,Fa,sCap,Cc]
theorem amJ (x:Pv) (hs:dA x.step) (hc:dA x.cap) (hf:∀n∈x.body,Fine n) (hn:x.name.size<=1048576) (ht:rJ x.ty) (hT:PC prog Ld 136 [.sl 5 (x.body.map Nd.p)] (·=.tu [sP (bodyT x.body),iP (aX x.body)])):PC prog Ld 82 [x.p] (·=sP (xW x)):=by
 have c1:=YO (Ld:=Ld) x;have c2:=yType (Ld:=Ld) _ ht;have c3:=Du (Ld:=Ld) _ hs;have c4:=Du (Ld:=Ld) _ hc;have z1:Sz (bC x.ty) 12582925:=⟨jB ht⟩
 have z2:Sz x.name 1048576:=⟨hn⟩
 have z3:Sz (bodyT x.body) 420000120:=⟨zK _ hf⟩
 have z4:Sz (aU x.step) 6291460:=⟨dJ _ hs.1 hs.2⟩
 have z5:Sz (aU x.cap) 6291460:=⟨dJ _ hc.1 hc.2⟩
 have z6:Sz (vG x) 20000000:=by
  unfold vG;split
  all_goals
   apply Sz.up
   ·repeat (first|assumption|apply Sz.add|exact Sz.lit _)
   ·rfl
 have z7:Sz (xC x) 200000000:=by
  unfold xC;split
  all_goals
   apply Sz.up
   ·repeat (first|assumption|apply Sz.add|exact Sz.lit _)
   ·rfl
 refine dh func82 fun X=>?_
 refine run ?_;refine qx [(.s 3,.s (.v (sP (vG x))))] ?_ ?_
 ·refine bM (fun h=>?_) fun h=>?_
  ·refine run ?_;exact fA (by unfold vG;rw[if_pos h];exact eP)
  ·refine run ?_;exact fA (by unfold vG;rw[h,if_neg (by simp)];exact eP)
 refine run ?_;refine qx [(.s 3,.s (.v (sP (xC x))))] ?_ ?_
 ·refine bM (fun h=>?_) fun h=>?_
  ·refine run ?_;exact fA (by unfold xC;rw[if_neg (by simpa using h)];exact eP)
  ·refine run ?_;exact fA (by unfold xC;rw[if_pos (by simpa using h)];exact eP)
 refine run ?_;exact aF
end
section
variable {L:Nat->Option Nat} {w:World}
theorem RL.nU {us:List Value} (h:RL L w [] us):us=[]:=eq_nil_of_length_eq_zero h.1.symm
theorem RL.cons_inv {p:PV} {l:List PV} {us:List Value} (h:RL L w (p::l) us):∃u r,us=u::r/\RP L w p u/\RL L w l r:=by
 cases us with
 |nil=>cases h.1
 |cons u r=>exact⟨u,r,rfl,h.2 0 p u rfl rfl,by have:=h.1;simpa using this,fun i p' u' h1 h2=>h.2 (i+1) p' u' (by simpa using h1) (by simpa using h2)⟩
theorem RL.split:∀{l l':List PV} {us:List Value},RL L w (l++l') us->∃a b,us=a++b/\RL L w l a/\RL L w l' b
 |[],l',us,h=>⟨[],us,rfl,⟨rfl,fun i p u hp=>by cases hp⟩,h⟩
 |p::l,l',us,h=>by
  obtain⟨u,r,rfl,h1,h2⟩:=RL.cons_inv (l:=l++l') h;obtain⟨a,b,rfl,h3,h4⟩:=RL.split h2;refine⟨u::a,b,rfl,⟨by have:=h3.1;simp[this],fun i q x hq hx=>?_⟩,h4⟩;cases i with
  |zero=>cases hq;cases hx;exact h1
  |succ i=>exact h3.2 i q x (by simpa using hq) (by simpa using hx)
theorem RL.rows {α β:Type} {pv:α->PV} {g:β->α} {enc:β->List Value} {G:β->Prop} (d:∀x us,RL L w (pv x).cs us->∃y,g y=x/\us=enc y/\G y):∀(xs:List α) (us:List Value),RL L w ((xs.map pv).flatMap PV.cs) us->∃ys:List β,ys.map g=xs/\us=ys.flatMap enc/\∀y∈ys,G y
 |[],us,h=>⟨[],rfl,RL.nU h,fun y hy=>by cases hy⟩
 |x::xs,us,h=>by
  rw[map_cons,flatMap_cons] at h;obtain⟨a,b,rfl,h1,h2⟩:=h.split;obtain⟨y,rfl,rfl,hy⟩:=d x a h1;obtain⟨ys,rfl,rfl,hys⟩:=RL.rows d xs b h2;exact⟨y::ys,rfl,rfl,fun z hz=>(mem_cons.1 hz).elim (fun e=>e ▸ hy) (hys z)⟩
theorem RP.rowAt {α β:Type} {pv:α->PV} {g:β->α} {enc:β->List Value} {G:β->Prop} (d:∀x us,RL L w (pv x).cs us->∃y,g y=x/\us=enc y/\G y) {q:Nat} {xs:List α} {u:Value} (h:RP L w (.sl q (xs.map pv)) u):∃(ys:List β) (hd:Hd),ys.map g=xs/\u=.slice hd.a hd.n hd.c/\dB w enc ys hd/\∀y∈ys,G y:=by
 obtain⟨ps,hps⟩:=zE (xs.map pv);rw[<-hps] at h;cases h with
 |@sl _ _ us A c hq hc hm hl h1 h hA=>
  subst hps;obtain⟨ys,rfl,rfl,hG⟩:=RL.rows d xs us ⟨hl,h⟩;refine⟨ys,⟨A,_,c⟩,rfl,rfl,⟨by simp,hc,hm,?_⟩,hG⟩;rcases hA with hA|⟨b,off,e,hb,hA⟩
  ·exact .inl hA
  ·exact .inr ⟨b,off,e,hb,fun i hi=>(hA i hi).1⟩
theorem ahz (x:Nd) (us:List Value) (h:RL L w x.p.cs us):∃y:Nd,id y=x/\us=y.cells/\True:=by
 obtain⟨_,_,rfl,h1,h⟩:=h.cons_inv;obtain⟨_,_,rfl,h2,h⟩:=h.cons_inv;obtain⟨_,_,rfl,h3,h⟩:=h.cons_inv;obtain⟨_,_,rfl,h4,h⟩:=h.cons_inv;obtain⟨_,_,rfl,h5,h⟩:=h.cons_inv;cases h.nU;cases h1;cases h2;cases h3;cases h4;cases h5;exact⟨x,rfl,rfl,trivial⟩
theorem ahA (x:Bk) (us:List Value) (h:RL L w x.p.cs us):∃y:Bk,id y=x/\us=y.cells/\True:=by
 obtain⟨_,_,rfl,h1,h⟩:=h.cons_inv;obtain⟨_,_,rfl,h2,h⟩:=h.cons_inv;obtain⟨_,_,rfl,h3,h⟩:=h.cons_inv;obtain⟨_,_,rfl,h4,h⟩:=h.cons_inv;obtain⟨_,_,rfl,h5,h⟩:=h.cons_inv;obtain⟨_,_,rfl,h6,h⟩:=h.cons_inv;cases h.nU;cases h1;cases h2;cases h3;cases h4;cases h5;cases h6;exact⟨x,rfl,rfl,trivial⟩
theorem ahB (x:Dc) (us:List Value) (h:RL L w x.p.cs us):∃y:Dc,id y=x/\us=y.cells/\True:=by
 obtain⟨_,_,rfl,h1,h⟩:=h.cons_inv;obtain⟨_,_,rfl,h2,h⟩:=h.cons_inv;obtain⟨_,_,rfl,h3,h⟩:=h.cons_inv;obtain⟨_,_,rfl,h4,h⟩:=h.cons_inv;cases h.nU;cases h1;cases h2;cases h3;cases h4;exact⟨x,rfl,rfl,trivial⟩
theorem ahC (x:Sc) (us:List Value) (h:RL L w x.p.cs us):∃y:Sc × Hd,y.1=x/\us=kG y/\dB w Bk.cells y.1.bJ y.2:=by
 obtain⟨_,_,rfl,h1,h⟩:=h.cons_inv;obtain⟨_,_,rfl,h2,h⟩:=h.cons_inv;obtain⟨_,_,rfl,h3,h⟩:=h.cons_inv;obtain⟨_,_,rfl,h4,h⟩:=h.cons_inv;cases h.nU;obtain⟨ys,hd,e,rfl,hr,_⟩:=RP.rowAt (g:=id) ahA h4;rw[map_id] at e;subst e;cases h1;cases h2;cases h3;exact⟨(x,hd),rfl,rfl,hr⟩
theorem ahD (x:Pv) (us:List Value) (h:RL L w x.p.cs us):∃y:Pv × Hd,y.1=x/\us=cO y/\dB w Nd.cells y.1.body y.2:=by
 obtain⟨_,_,rfl,h1,h⟩:=h.cons_inv;obtain⟨_,_,rfl,h2,h⟩:=h.cons_inv;obtain⟨_,_,rfl,h3,h⟩:=h.cons_inv;obtain⟨_,_,rfl,h4,h⟩:=h.cons_inv;obtain⟨_,_,rfl,h5,h⟩:=h.cons_inv;obtain⟨_,_,rfl,h6,h⟩:=h.cons_inv;obtain⟨_,_,rfl,h7,h⟩:=h.cons_inv;obtain⟨_,_,rfl,h8,h⟩:=h.cons_inv;obtain⟨_,_,rfl,h9,h⟩:=h.cons_inv;obtain⟨_,_,rfl,ha,h⟩:=h.cons_inv;obtain⟨_,_,rfl,hb,h⟩:=h.cons_inv;obtain⟨_,_,rfl,hc,h⟩:=h.cons_inv;cases h.nU;obtain⟨ys,hd,e,rfl,hr,_⟩:=RP.rowAt (g:=id) ahz h5;rw[map_id] at e;subst e;cases h1;cases h2;cases h3;cases h4;cases h6;cases h7;cases h8;cases h9;cases ha;cases hb;cases hc;exact⟨(x,hd),rfl,rfl,hr⟩
theorem RP.aeC {l:List PV} {u:Value} (h:RP L w (.ag l) u):∃us:List Value,u=.agg us.toArray/\RL L w l us:=by
 cases h with
 |ag hl _ h=>exact⟨_,rfl,hl,h⟩
theorem RP.law {l:Lw} {u:Value} (h:RP L w l.p u):∃ss ps f s p,u=nD f s p/\iQ w l ss ps f s p:=by
 obtain⟨us,rfl,k⟩:=h.aeC;obtain⟨_,_,rfl,h1,k⟩:=k.cons_inv;obtain⟨_,_,rfl,h2,k⟩:=k.cons_inv;obtain⟨_,_,rfl,h3,k⟩:=k.cons_inv;cases k.nU;obtain⟨y1,d1,e1,rfl,r1,_⟩:=RP.rowAt (g:=id) ahB h1;obtain⟨y2,d2,e2,rfl,r2,g2⟩:=RP.rowAt (g:=Prod.fst) ahC h2;obtain⟨y3,d3,e3,rfl,r3,g3⟩:=RP.rowAt (g:=Prod.fst) ahD h3;rw[map_id] at e1;subst e1;exact⟨y2,y3,d1,d2,d3,rfl,⟨r1,r2,r3,e2,e3,g2,g3⟩⟩
end
section
set_option maxRecDepth 100000
set_option maxHeartbeats 2000000
def lN {α:Type} (f:α->ByteArray) (s:ByteArray) (l:List α):Nat->ByteArray
 |0=>s
 |k+1=>match l[k]? with
  |some b=>lN f s l k++f b++⟨#[10]⟩
  |none=>lN f s l k
section
variable {α:Type} {f:α->ByteArray} {s:ByteArray} {l:List α}
theorem uI {k:Nat} (h:k<l.length):lN f s l (k+1)=lN f s l k++f l[k]++⟨#[10]⟩:=by
 rw[lN,getElem?_eq_getElem h]
theorem xE {K:Nat} (hf:∀b∈l,Sz (f b) K):∀k,k<=l.length->(lN f s l k).size<=s.size+(K+1)*k
 |0,_=>Nat.le_refl _
 |k+1,h=>by
  have h1:=xE hf k (by omega);have h2:=(hf l[k] (getElem_mem h)).le;rw[uI h,ByteArray.size_append,ByteArray.size_append,Nat.mul_succ];have h6:(⟨#[10]⟩:ByteArray).size=1:=rfl;omega
theorem Dv:∀k,k<=l.length->(lN f s l k).data.toList=s.data.toList++(l.take k).flatMap fun x=>(f x).data.toList++[10]
 |0,_=>by simp[lN]
 |k+1,h=>by
  rw[uI h,take_succ_eq_append_getElem h,flatMap_append,ByteArray.data_append,ByteArray.data_append,Array.toList_append,Array.toList_append,Dv k (by omega)];simp
end
def V9 (l:Lw):ByteArray:=lN xW (lN wL (lN qm ⟨#[]⟩ l.facts l.facts.length) l.aH l.aH.length) l.ay l.ay.length
theorem KO {s:Sc} (hf:∀b∈s.bJ,lH b) (hl:s.bJ.length<=1000) (hn:s.name.size<=1048576) (ht:rJ ⟨false,s.aA,s.days⟩):Sz (wL s) 20000000000:=by
 have z1:Sz (bC ⟨false,s.aA,s.days⟩) 12582925:=⟨jB ht⟩
 have z2:Sz s.name 1048576:=⟨hn⟩
 have z3:=Nat.le_trans ((((Sz.add (Sz.add (Sz.add (Sz.add (Sz.lit #[115,99,104,101,100,117,108,101,32]) z2) (Sz.lit #[32])) z1) (Sz.lit #[58,32])).le))) (show _<=20000000 by decide);refine⟨Nat.le_trans (zN hf _ (Nat.le_refl _)) ?_⟩;omega
theorem KP {d:Dc} (h:rJ d.ty) (hn:d.name.size<=1048576):Sz (qm d) 20000000000:=by
 have z1:Sz (bC d.ty) 12582925:=⟨jB h⟩
 have z2:Sz d.name 1048576:=⟨hn⟩
 exact Sz.up (Sz.add (Sz.add (Sz.add (Sz.lit #[102,97,99,116,32]) z2) (Sz.lit #[32])) z1) rfl
theorem KQ {x:Pv} (hs:dA x.step) (hc:dA x.cap) (hf:∀n∈x.body,Fine n) (hn:x.name.size<=1048576) (ht:rJ x.ty):Sz (xW x) 20000000000:=by
 have z1:Sz (bC x.ty) 12582925:=⟨jB ht⟩
 have z2:Sz x.name 1048576:=⟨hn⟩
 have z3:Sz (bodyT x.body) 420000120:=⟨zK _ hf⟩
 have z4:Sz (aU x.step) 6291460:=⟨dJ _ hs.1 hs.2⟩
 have z5:Sz (aU x.cap) 6291460:=⟨dJ _ hc.1 hc.2⟩
 unfold xW xC vG;split<;>split
 all_goals
  apply Sz.up
  ·repeat (first|assumption|apply Sz.add|exact Sz.lit _)
  ·rfl
variable {Ld:bU}
theorem ahE (l:Lw) (h:adb l) (hB:∀p∈l.ay,p.body.length<=100000):PC prog Ld 32 [l.p] (·=sP (V9 l)):=by
 obtain⟨⟨fn,sn,pn,sb,pb⟩,hF,hS,hP⟩:=h;obtain⟨fs,ss,ps⟩:=l;unfold V9;dsimp only at*;have y1:=fun k (hk:k<=fs.length)=>xE (f:=qm) (s:=⟨#[]⟩) (fun d hd=>KP (hF d hd).2 (hF d hd).1) k hk
 have y2:=fun k (hk:k<=ss.length)=>xE (f:=wL) (s:=lN qm ⟨#[]⟩ fs fs.length) (fun x hx=>KO (sb x hx) (hS x hx).2.2 (hS x hx).1 (hS x hx).2.1) k hk
 have y3:=fun k (hk:k<=ps.length)=>xE (f:=xW) (s:=lN wL (lN qm ⟨#[]⟩ fs fs.length) ss ss.length) (fun x hx=>KQ (pb x hx).1 (pb x hx).2.1 (pb x hx).2.2 (hP x hx).1 (hP x hx).2) k hk
 have y0:(⟨#[]⟩:ByteArray).size=0:=rfl;refine dh func32 fun X=>?_
 refine run ?_;refine jr fs.length (fun k=>[(.s 4,.s (.v (nP k))),(.s 3,.s (.v (sP (lN qm ⟨#[]⟩ fs k))))]) [.s 1,.o 1] ?_;intro k hk hw;have zk:Sz (lN qm ⟨#[]⟩ fs k) 50000000000000:=⟨by have:=y1 k hk;omega⟩
 refine run ?_;refine aZ (fun hu=>?_) fun hu=>?_
 ·have e:=uI (f:=qm) (s:=⟨#[]⟩) hu;have hd:=hF fs[k] (getElem_mem hu);have c1:=aiN (Ld:=Ld) fs[k] hd.2 (by omega);have z1:=KP hd.2 hd.1;refine run ?_;refine gq
 have e1:k=fs.length:=by omega
 subst e1;refine run ?_;clear hu hw zk hk;have b1:=y1 _ (Nat.le_refl _);generalize lN qm ⟨#[]⟩ fs fs.length=s1 at*;refine jr ss.length (fun k=>[(.s 5,.s (.v (nP k))),(.s 3,.s (.v (sP (lN wL s1 ss k))))]) [.s 1,.o 1] ?_;intro k hk hw;have zk:Sz (lN wL s1 ss k) 100000000000000:=⟨by have:=y2 k hk;omega⟩
 refine run ?_;refine aZ (fun hu=>?_) fun hu=>?_
 ·have e:=uI (f:=wL) (s:=s1) hu;have hd:=hS ss[k] (getElem_mem hu);have hb:=sb ss[k] (getElem_mem hu);have c1:=amI (Ld:=Ld) ss[k] hb hd.2.2 hd.1 hd.2.1;have z1:=KO hb hd.2.2 hd.1 hd.2.1;refine run ?_;refine gq
 have e1:k=ss.length:=by omega
 subst e1;refine run ?_;clear hu hw zk hk;have b2:=y2 _ (Nat.le_refl _);generalize lN wL s1 ss ss.length=s2 at*;refine jr ps.length (fun k=>[(.s 6,.s (.v (nP k))),(.s 3,.s (.v (sP (lN xW s2 ps k))))]) [.s 1,.o 1] ?_;intro k hk hw;have zk:Sz (lN xW s2 ps k) 200000000000000:=⟨by have:=y3 k hk;omega⟩
 refine run ?_;refine aZ (fun hu=>?_) fun hu=>?_
 ·have e:=uI (f:=xW) (s:=s2) hu;have hd:=hP ps[k] (getElem_mem hu);have hb:=pb ps[k] (getElem_mem hu);have c1:=amJ (Ld:=Ld) ps[k] hb.1 hb.2.1 hb.2.2 hd.1 hd.2 (ahx _ hb.2.2 (hB _ (getElem_mem hu)));have z1:=KQ hb.1 hb.2.1 hb.2.2 hd.1 hd.2;refine run ?_;refine gq
 have e1:k=ps.length:=by omega
 subst e1;refine run ?_;exact aF
theorem aeD {l:Lw} (hc:aT l=0):V9 l=⟨(eu l).toArray⟩:=by
 refine aiO ?_;have h:=abC (l:=l) (ss:=l.aH.map fun s=>(s,⟨none,0,0⟩)) (ps:=l.ay.map fun s=>(s,⟨none,0,0⟩)) (by rw[map_map];exact map_id _) (by rw[map_map];exact map_id _) hc;rw[<-h];unfold V9 Fe;rw[Dv _ (Nat.le_refl _),Dv _ (Nat.le_refl _),Dv _ (Nat.le_refl _),take_length,take_length,take_length,flatMap_map,flatMap_map];simp only[aeA,aeB]
 rw[append_assoc];rfl
theorem aiP (l:Lw) (hl:BU l) (hr:Raw l) (hb:∀p∈l.ay,p.body.length<=100000):PC prog Ld 10 [l.p] (·=.tu [sP (if aT l=0 then ⟨(eu l).toArray⟩ else ⟨#[]⟩),iP (aT l)]):=by
 have c1:=Pj (Ld:=Ld) l hl hr.fine hb;by_cases hc:aT l=0
 ·have c2:=ahE (Ld:=Ld) l (hr.V8 hc) hb;rw[aeD hc] at c2;rw[if_pos hc];rw[hc] at c1⊢;refine dh func10 fun X=>?_
  refine run ?_;exact aF
 ·rw[if_neg hc];refine dh func10 fun X=>?_
  refine run ?_;refine bM (fun h=>?_) fun h=>?_
  ·refine run ?_;exact aF
  ·exact absurd (by simpa using h) hc
end
def Cm (t:Ty):Bool:=if t.truth then decide (t.aA=0)&&decide (t.days=0) else decide (-3<=t.aA)&&decide (t.aA<=3)&&(decide (-3<=t.days)&&decide (t.days<=3))
def seven:List Int:=[-3,-2,-1,0,1,2,3]
theorem ni {m:Int} (h:-3<=m) (k:m<=3):m∈seven:=by
 have:m= -3∨m= -2∨m= -1∨m=0∨m=1∨m=2∨m=3:=by omega
 unfold seven;simp only[mem_cons]
 omega
theorem Ic:∀m∈seven,(aK m).num.size<=1048576/\(aK m).den.size<=1048576:=by decide+kernel
theorem Zf:∀m∈seven,∀d∈seven,∀a∈seven,∀b∈seven,(bC ⟨false,m,d⟩).data.toList=(bC ⟨false,a,b⟩).data.toList->m=a/\d=b:=by decide+kernel
theorem QO:∀m∈seven,∀d∈seven,((bC ⟨false,m,d⟩).data.toList==[116,114,117,116,104])=false:=by decide+kernel
theorem xX (t:Ty) (w:World) (hL:bT w) (ht:Cm t=true):Calls prog 143 #[.string (bC t)] w fun e w'=>e=.returned t.v/\Below w.heap.size w w':=by
 obtain⟨tr,tm,td⟩:=t;obtain⟨W,hW⟩:=zE (w.alloc (.cells #[.bool false,.int .i64 0,.int .i64 0] 51));obtain⟨B,hB⟩:=zE w.heap.size;have HK:Hid (aj W B 51 [.bool false,.int .i64 0,.int .i64 0]):=by show aj _ _ _ _;rw[hW,hB];exact aj.new w _ _
 have bZ:Hid (Below w.heap.size w W):=by show Below _ _ _;rw[hW];exact zB _ _
 have kR:=zH (Nat.le_of_eq hB.symm);unfold Cm at ht;simp only at ht;unfold Ty.v;simp only
 cases tr
 ·simp only[Bool.false_eq_true,if_false,Bool.and_eq_true,decide_eq_true_eq] at ht;obtain⟨⟨hm1,hm2⟩,hd1,hd2⟩:=ht;have hst:((bC ⟨false,tm,td⟩).toList==[116,114,117,116,104])=false:=by rw[ByteArray.toList_eq];exact QO tm (ni hm1 hm2) td (ni hd1 hd2)
  have HIN:Hid (∀m d:Int,-3<=m->m<=3-> -3<=d->d<=3->bC ⟨false,m,d⟩=bC ⟨false,tm,td⟩->m=tm/\d=td):=fun m d h1 h2 h3 h4 e=>Zf m (ni h1 h2) d (ni h3 h4) tm (ni hm1 hm2) td (ni hd1 hd2) (by rw[e])
  have OA:Hid (∀(m d:Int) (W':World),-3<=m->m<=3-> -3<=d->d<=3->Below w.heap.size w W'->Calls prog 99 #[.agg #[.bool false,.int .i64 m,.int .i64 d]] W' fun e w'=>e=.returned (.string (bC ⟨false,m,d⟩))/\Below W'.heap.size W' w'):=fun m d W' h1 h2 h3 h4 hb=>
   ql ⟨false,m,d⟩ W' (hL.below hb) ⟨by show (-1000:Int)<=m;omega,by show m<=(1000:Int);omega⟩ ⟨by show (-1000:Int)<=d;omega,by show d<=(1000:Int);omega⟩ (Ic m (ni h1 h2)) (Ic d (ni h3 h4))
  have HEQ:Hid (bC ⟨false,tm,td⟩=bC ⟨false,tm,td⟩):=rfl;obtain⟨s,hs⟩:=zE (bC ⟨false,tm,td⟩);rw[<-hs] at hst HIN HEQ⊢;have HS:=zH hs;clear hL hs HEQ;go_enter func143,ntmps143
  go_upto_region 1 with fail
  simp only[<-hW,<-hB]
  clear hW hB;go_wp2_with fail
  go_loopg [3] 7 (fun g iv wr=>∃i:Nat,i+g=7/\iv=.int .i64 (-3+(i:Int))/\Hid (-3+(i:Int)<=tm)/\Hid (Below w.heap.size w wr)/\Hid (aj wr B 51 [.bool false,.int .i64 0,.int .i64 0]))
  case atStart=>exact⟨0,by omega,rfl,(by show-3+((0:Nat):Int)<=tm;omega),bZ,HK⟩
  case round=>
   obtain⟨i,hi,rfl,hle,hbr,hbk⟩:=hrel;have hlt:i<7:=by have:=hle.out;omega
   have h3:-3+(i:Int)<=3:=by omega
   clear HK bZ;go_wp2_with fail
   go_loopg [4] 7 (fun g iv wr=>∃k:Nat,k+g=7/\iv=.int .i64 (-3+(k:Int))/\Hid (-3+(i:Int)=tm-> -3+(k:Int)<=td)/\Hid (Below w.heap.size w wr)/\Hid (aj wr B 51 [.bool false,.int .i64 0,.int .i64 0]))
   case atStart=>exact⟨0,by omega,rfl,(fun _=>by omega),hbr,hbk⟩
   case round=>
    obtain⟨k,hk,rfl,hkd,hbr,hbk⟩:=hrel;by_cases hlk:k<7
    ·have h4:-3+(k:Int)<=3:=by omega
     obtain⟨W2,hW2⟩:=zE (wr.alloc (.cells #[.bool false,.int .i64 (-3+(i:Int)),.int .i64 (-3+(k:Int))] 51));obtain⟨C,hC⟩:=zE wr.heap.size;have HKC:Hid (aj W2 C 51 [.bool false,.int .i64 (-3+(i:Int)),.int .i64 (-3+(k:Int))]):=by show aj _ _ _ _;rw[hW2,hC];exact aj.new wr _ _
     have HBa:Below wr.heap.size wr W2:=by rw[hW2];exact zB _ _
     have HB2:=zH (ah hbr.out HBa);have kN:Hid (aj W2 B 51 [.bool false,.int .i64 0,.int .i64 0]):=hbk.out.below HBa hbk.out.lt;have Ai:Hid (B≠C):=by have:=hbk.out.lt;show B≠C;omega
     have oK:=zH (OA.out (-3+(i:Int)) (-3+(k:Int)) W2 (by omega) h3 (by omega) h4 HB2.out);have HE:Hid (bC ⟨false,-3+(i:Int),-3+(k:Int)⟩=s-> -3+(i:Int)=tm/\-3+(k:Int)=td):=HIN.out _ _ (by omega) h3 (by omega) h4;have HE2:Hid (-3+(i:Int)=tm/\-3+(k:Int)=td->bC ⟨false,-3+(i:Int),-3+(k:Int)⟩=s):=fun h=>by rw[HS.out,h.1,h.2]
     generalize bC ⟨false,-3+(i:Int),-3+(k:Int)⟩=x at*;have hkc:=HKC.out.cells;clear HBa hbr hbk
     go_upto_region 10 with fail
     simp only[<-hW2,<-hC]
     clear hW2 hC;go_wp2_with fail;refine oK.out.mono ?_;rintro e w5 ⟨rfl,hb5⟩;have ku:=zH (ah HB2.out hb5);have rG:Hid (aj w5 B 51 [.bool false,.int .i64 0,.int .i64 0]):=kN.out.below hb5 kN.out.lt;have HC5:Hid (aj w5 C 51 [.bool false,.int .i64 (-3+(i:Int)),.int .i64 (-3+(k:Int))]):=HKC.out.below hb5 HKC.out.lt;clear hb5 hkc oK kN HKC;by_cases hx:x=s
     ·subst hx;obtain⟨e1,e2⟩:=HE.out rfl;have hkc:=HC5.out.cells;have hkb:=rG.out.cells;have hfb:=rG.out.bH;have hne:¬B=C:=Ai.out;have hne':¬C=B:=fun e=>hne e.symm
      have HV:Hid (-3+(i:Int)=tm/\-3+(k:Int)=td):=⟨e1,e2⟩
      clear e1 e2;go_wp2;have Hw:=((rG.out.set 0 (.bool false)).set 1 (.int .i64 (-3+(i:Int)))).set 2 (.int .i64 (-3+(k:Int)));have hc:=Hw.cells;refine bodyPost_ret (v:=.agg #[.bool false,.int .i64 (-3+(i:Int)),.int .i64 (-3+(k:Int))]) (by simp[results,results143,go_sem,hc]) rfl ⟨by rw[HV.out.1,HV.out.2],?_⟩;exact ((ku.out.setCell (p:=⟨B,0,none⟩) kR.out _).setCell (p:=⟨B,1,none⟩) kR.out _).setCell (p:=⟨B,2,none⟩) kR.out _
     ·have hxe:(x.toList==s.toList)=false:=beq_eq_false_iff_ne.2 (fun h=>hx (toList_inj h))
      have HKD:Hid (-3+(i:Int)=tm-> -3+((k+1:Nat):Int)<=td):=fun h=>by
       have h1:=hkd.out h;have h2:¬(-3+(k:Int)=td):=fun h'=>hx (HE2.out ⟨h,h'⟩)
       omega
      clear HE HE2 hx hkd;go_wp2
      go_roundg (7-(k+1))
      case measure=>omega
      case rel=>exact⟨k+1,by omega,by go_num,HKD,ku,rG⟩
    ·have h4:¬(-3+(k:Int)<=3):=by omega
     have HLE:Hid (-3+((i+1:Nat):Int)<=tm):=by
      have h1:¬(-3+(i:Int)=tm):=fun h=>by have:=hkd.out h;omega
      have h2:=hle.out;show-3+((i+1:Nat):Int)<=tm;omega
     clear hkd hle;go_wp2
     go_roundg (7-(i+1))
     case measure=>omega
     case rel=>exact⟨i+1,by omega,by go_num,HLE,hbr,hbk⟩
 ·simp only[if_true,Bool.and_eq_true,decide_eq_true_eq] at ht;obtain⟨rfl,rfl⟩:=ht;have hs:bC ⟨true,0,0⟩=⟨#[116,114,117,116,104]⟩:=rfl;rw[hs];clear hL hs;have hst:((⟨#[116,114,117,116,104]⟩:ByteArray).toList==[116,114,117,116,104])=true:=by rw[ByteArray.toList_eq];rfl
  have hkb:=HK.out.cells;have hfb:=HK.out.bH;go_enter func143,ntmps143
  go_upto_region 1 with fail
  simp only[<-hW,<-hB]
  clear hW hB;go_wp2;have Hw:=((HK.out.set 0 (.bool true)).set 1 (.int .i64 0)).set 2 (.int .i64 0);have hc:=Hw.cells;refine bodyPost_ret (v:=.agg #[.bool true,.int .i64 0,.int .i64 0]) (by simp[results,results143,go_sem,hc]) rfl ⟨rfl,?_⟩;exact ((bZ.out.setCell (p:=⟨B,0,none⟩) kR.out _).setCell (p:=⟨B,1,none⟩) kR.out _).setCell (p:=⟨B,2,none⟩) kR.out _
end Go.Proofs.YtjpbmbgincdjaaaGreatDoor
