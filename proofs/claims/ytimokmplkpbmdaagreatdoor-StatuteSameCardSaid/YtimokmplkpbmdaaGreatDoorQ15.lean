/- A part of the proof: E1 S3. -/
import Derived.Test.YtimokmplkpbmdaaGreatDoorQ14
set_option linter.all false
set_option maxRecDepth 100000
set_option maxHeartbeats 0
namespace Go.Proofs.YtimokmplkpbmdaaGreatDoor
open Go.RowKit
structure Sh where
 word:List UInt8
 ops:Nat
 lit:Bool
 dF:Bool
 dJ:Bool
def vF:Sh:=⟨[],0,false,false,false⟩
def iQ:List Sh:=[vF,⟨[36],0,true,false,false⟩,⟨[],0,true,false,false⟩,⟨[],0,true,false,false⟩,⟨[],0,true,false,false⟩,
 ⟨[102,97,99,116,46],0,false,true,false⟩,⟨[111,119,110,46],0,false,true,false⟩,⟨[112,114,105,111,114,46],0,false,true,false⟩,⟨[115,112,111,117,115,101,46],0,false,true,false⟩,
 ⟨[97,100,100],2,false,false,false⟩,⟨[115,117,98],2,false,false,false⟩,⟨[109,117,108],2,false,false,false⟩,⟨[100,105,118],2,false,false,false⟩,⟨[109,105,110],2,false,false,false⟩,⟨[109,97,120],2,false,false,false⟩,
 ⟨[105,102],3,false,false,false⟩,⟨[108,101,115,115],2,false,false,false⟩,⟨[101,113,117,97,108],2,false,false,false⟩,⟨[97,110,100],2,false,false,false⟩,⟨[111,114],2,false,false,false⟩,⟨[110,111,116],1,false,false,false⟩,
 ⟨[100,111,119,110],1,false,false,true⟩,⟨[117,112],1,false,false,true⟩,⟨[110,101,97,114],1,false,false,true⟩,⟨[114,97,116,101,46],1,false,true,false⟩]
def aB (op:Int):Sh:=iQ.getD op.toNat vF
structure Nd where
 op:Int
 num:Ra
 name:ByteArray
deriving DecidableEq
def Nd.cells (n:Nd):List Value:=[.int .i64 n.op,.bool n.num.neg,.string n.num.num,.string n.num.den,.string n.name]
def Nd.v (n:Nd):Value:=.agg #[.int .i64 n.op,.bool n.num.neg,.string n.num.num,.string n.num.den,.string n.name]
def zR:Ra:=⟨false,⟨#[]⟩,⟨#[]⟩⟩
def nK (c:UInt8):Bool:=decide (97<=c.toNat)&&decide (c.toNat<=122)
def ad2 (c:UInt8):Bool:=decide (48<=c.toNat)&&decide (c.toNat<=57)
def GK (c:UInt8):Bool:=nK c||ad2 c||decide (c.toNat=95)
def nameB (l:List UInt8):Bool:=(match l with|[]=>false|c::_=>nK c)&&decide (l.length<=20)&&l.all GK
def aV (a:Ra):Bool:=okR a&&decide (nO (ay a.num)<=400)&&decide (nO (ay a.den)<=400)
def gX (n:Nd):Bool:=
 if n.op=4 then decide (n.num=aS 0)||decide (n.num=aS 1)
 else if (aB n.op).lit then aV n.num
 else if (aB n.op).dJ then aV n.num&&decide (0<eH n.num)
 else decide (n.num=zR)
def aQ (n:Nd):Int:=
 if n.op<1∨24<n.op∨((aB n.op).dF=false/\n.name≠⟨#[]⟩)∨gX n=false then 11
 else if (aB n.op).dF&& !nameB n.name.data.toList then 12 else 0
def chk:List Nd->Nat->Int
 |[],d=>if d=1 then 0 else 11
 |n::r,d=>if aQ n≠0 then aQ n else if d<(aB n.op).ops then 11 else chk r (d-(aB n.op).ops+1)
def bQ (e:List Nd):Int:=if 60<e.length then 2 else chk e 0
def Ex:Nat->List Nd->Prop
 |0,_=>False
 |k+1,e=>∃(cs:List (List Nd)) (n:Nd),e=cs.flatten++[n]/\aQ n=0/\cs.length=(aB n.op).ops/\∀a∈cs,Ex k a
theorem Ex.succ {k:Nat}:∀{e:List Nd},Ex k e->Ex (k+1) e:=by
 induction k with
 |zero=>intro e h;exact h.elim
 |succ k ih=>
  rintro e ⟨cs,n,he,hn,hl,ha⟩;exact⟨cs,n,he,hn,hl,fun a h=>ih (ha a h)⟩
theorem Ex.mono {k k':Nat} {e:List Nd} (h:Ex k e) (hk:k<=k'):Ex k' e:=by
 induction hk with
 |refl=>exact h
 |step _ ih=>exact ih.succ
theorem Zf (k:Nat) (ih:∀e:List Nd,Ex k e->∀r d,chk (e++r) d=chk r (d+1)) (cs:List (List Nd)) (ha:∀a∈cs,Ex k a) (r:List Nd) (d:Nat):
  chk (cs.flatten++r) d=chk r (d+cs.length):=by
 induction cs generalizing d with
 |nil=>rfl
 |cons a cs iha=>
  rw[List.flatten_cons,List.append_assoc,ih a (ha a (by simp)),iha (fun x hx=>ha x (by simp[hx]))];rw[List.length_cons];congr 1;omega
theorem ad3 (k:Nat):∀e:List Nd,Ex k e->∀r d,chk (e++r) d=chk r (d+1):=by
 induction k with
 |zero=>intro e h;exact h.elim
 |succ k ih=>
  rintro e ⟨cs,n,rfl,hn,hl,ha⟩ r d;rw[List.append_assoc,Zf k ih cs ha];show chk (n::r) _=_;rw[chk,if_neg (by rw[hn];simp),if_neg (by omega)];congr 1;omega
theorem ad4 (e:List Nd):∀(K:Nat) (st:List (List Nd)),(∀a∈st,Ex K a)->chk e st.length=0->∃k,Ex k (st.reverse.flatten++e):=by
 induction e with
 |nil=>
  intro K st hs h
  match st,h with
  |[a],_=>exact⟨K,by simpa using hs a (by simp)⟩
  |[],h=>simp[chk] at h
  |a::b::l,h=>simp[chk] at h
 |cons n r ih=>
  intro K st hs h;rw[chk] at h;split at h
  ·next h1=>exact absurd h h1
  ·next h1=>
   split at h
   ·cases h
   ·next h2=>
    have hn:aQ n=0:=by simpa using h1
    have hE:Ex (K+1) ((st.take (aB n.op).ops).reverse.flatten++[n]):=
     ⟨(st.take (aB n.op).ops).reverse,n,rfl,hn,by simp;omega,fun a ha=>hs a (List.mem_of_mem_take (by simpa using ha))⟩
    obtain⟨k,hk⟩:=ih (K+1) (((st.take (aB n.op).ops).reverse.flatten++[n])::st.drop (aB n.op).ops)
     (by intro a ha;rcases List.mem_cons.1 ha with rfl|ha
         ·exact hE
         ·exact (hs a (List.mem_of_mem_drop ha)).succ)
     (by rw[List.length_cons,List.length_drop];exact h)
    refine⟨k,?_⟩
    have e1:st.reverse.flatten=(st.drop (aB n.op).ops).reverse.flatten++(st.take (aB n.op).ops).reverse.flatten:=by
     rw[<-List.flatten_append,<-List.reverse_append,List.take_append_drop]
    rw[e1];simpa using hk
def IsE (e:List Nd):Prop:=∃k,Ex k e
theorem oU (e:List Nd):bQ e=0↔e.length<=60/\IsE e:=by
 unfold bQ;constructor
 ·intro h;split at h
  ·cases h
  ·next h1=>
   obtain⟨k,hk⟩:=ad4 e 0 [] (by simp) h;exact⟨by omega,k,by simpa using hk⟩
 ·rintro⟨h1,k,hk⟩;rw[if_neg (by omega)];have:=ad3 k e hk [] 0;rw[List.append_nil] at this;rw[this];rfl
def jk:List (List UInt8)->List UInt8
 |[]=>[]
 |a::l=>if l.isEmpty then a else a++[44,32]++jk l
def txt (n:Nd) (ops:List (List UInt8)):List UInt8:=
 if n.op=4 then (if n.num.num=⟨#[]⟩ then [110,111] else [121,101,115])
 else (aB n.op).word++n.name.data.toList++(if (aB n.op).lit then (aO n.num).data.toList else [])++(if n.op=2 then [100] else [])
  ++(if (aB n.op).dJ then [91]++(aO n.num).data.toList++[93] else [])++(if (aB n.op).ops=0 then [] else [40]++jk ops++[41])
def BX (st:List (List UInt8)) (n:Nd):List (List UInt8):=txt n (st.take (aB n.op).ops).reverse::st.drop (aB n.op).ops
def runT (e:List Nd) (st:List (List UInt8)):List (List UInt8):=e.foldl BX st
def textE (e:List Nd):List UInt8:=(runT e []).headD []
theorem Eo (a b:List Nd) (st:List (List UInt8)):runT (a++b) st=runT b (runT a st):=List.foldl_append
theorem JA (k:Nat) (ih:∀e:List Nd,Ex k e->∀st,runT e st=textE e::st) (cs:List (List Nd)) (ha:∀a∈cs,Ex k a) (st:List (List UInt8)):
  runT cs.flatten st=(cs.map textE).reverse++st:=by
 induction cs generalizing st with
 |nil=>rfl
 |cons a cs iha=>
  rw[List.flatten_cons,Eo,ih a (ha a (by simp)),iha (fun x hx=>ha x (by simp[hx]))];simp
theorem JB (cs:List (List Nd)) (n:Nd) (hl:cs.length=(aB n.op).ops) (h:∀st,runT cs.flatten st=(cs.map textE).reverse++st) (st:List (List UInt8)):
  runT (cs.flatten++[n]) st=txt n (cs.map textE)::st:=by
 rw[Eo,h];show BX ((cs.map textE).reverse++st) n=_;unfold BX;have h1:((cs.map textE).reverse).length=(aB n.op).ops:=by simp[hl]
 rw[List.take_left' h1,List.drop_left' h1,List.reverse_reverse]
theorem MB {cs:List (List Nd)} {n:Nd} (h:runT (cs.flatten++[n]) []=txt n (cs.map textE)::[]):textE (cs.flatten++[n])=txt n (cs.map textE):=by
 unfold textE at h⊢;rw[h];rfl
theorem acy (k:Nat):∀e:List Nd,Ex k e->∀st,runT e st=textE e::st:=by
 induction k with
 |zero=>intro e h;exact h.elim
 |succ k ih=>
  rintro e ⟨cs,n,rfl,hn,hl,ha⟩ st;have h1:=JB cs n hl (JA k ih cs ha);rw[h1,MB (h1 [])]
theorem zX {k:Nat} {cs:List (List Nd)} {n:Nd} (hl:cs.length=(aB n.op).ops) (ha:∀a∈cs,Ex k a):textE (cs.flatten++[n])=txt n (cs.map textE):=
 MB (JB cs n hl (JA k (acy k) cs ha) [])
def iJ:List Nd->Nat->List Nat->List (List Nat)
 |[],_,_=>[]
 |n::r,k,st=>(st.take (aB n.op).ops).reverse::iJ r (k+1) (k::st.drop (aB n.op).ops)
def lG (e:List Nd):List (List Nat):=iJ e 0 []
theorem pz (e:List Nd) (o:Nat) (st:List Nat):(iJ e o st).length=e.length:=by
 induction e generalizing o st with
 |nil=>rfl
 |cons n r ih=>rw[iJ,List.length_cons,ih,List.length_cons]
def roots:Nat->List (List Nd)->List Nat
 |_,[]=>[]
 |o,a::cs=>(o+a.length-1)::roots (o+a.length) cs
def nP:Nat->List (List Nd)->List (List Nat)
 |_,[]=>[]
 |o,a::cs=>iJ a o []++nP (o+a.length) cs
theorem oz (o:Nat) (cs:List (List Nd)):(roots o cs).length=cs.length:=by
 induction cs generalizing o with
 |nil=>rfl
 |cons a cs ih=>rw[roots,List.length_cons,ih,List.length_cons]
theorem JC (k:Nat) (ih:∀e:List Nd,Ex k e->∀o st r,iJ (e++r) o st=iJ e o []++iJ r (o+e.length) ((o+e.length-1)::st))
  (cs:List (List Nd)) (ha:∀a∈cs,Ex k a) (o:Nat) (st:List Nat) (r:List Nd):
  iJ (cs.flatten++r) o st=nP o cs++iJ r (o+cs.flatten.length) ((roots o cs).reverse++st):=by
 induction cs generalizing o st with
 |nil=>rfl
 |cons a cs iha=>
  rw[List.flatten_cons,List.append_assoc,ih a (ha a (by simp)),iha (fun x hx=>ha x (by simp[hx])),nP,roots,List.append_assoc,List.length_append,Nat.add_assoc];simp
theorem JD {cs:List (List Nd)} {n:Nd} (hl:cs.length=(aB n.op).ops) (o:Nat)
  (h:∀st r,iJ (cs.flatten++r) o st=nP o cs++iJ r (o+cs.flatten.length) ((roots o cs).reverse++st)) (st:List Nat) (r:List Nd):
  iJ (cs.flatten++[n]++r) o st=nP o cs++[roots o cs]++iJ r (o+(cs.flatten++[n]).length) ((o+(cs.flatten++[n]).length-1)::st):=by
 rw[List.append_assoc,h,List.append_assoc];congr 1;show iJ (n::r) _ _=_;have h1:((roots o cs).reverse).length=(aB n.op).ops:=by rw[List.length_reverse,oz,hl]
 rw[iJ,List.take_left' h1,List.drop_left' h1,List.reverse_reverse];simp only[List.length_append,List.length_cons,List.length_nil,List.cons_append,List.nil_append]
 rfl
theorem acz (k:Nat):∀e:List Nd,Ex k e->∀o st r,iJ (e++r) o st=iJ e o []++iJ r (o+e.length) ((o+e.length-1)::st):=by
 induction k with
 |zero=>intro e h;exact h.elim
 |succ k ih=>
  rintro e ⟨cs,n,rfl,hn,hl,ha⟩ o st r;have h1:=JD hl o (JC k ih cs ha o);have h2:=h1 [] [];rw[List.append_nil] at h2;rw[h1,h2];simp[iJ]
theorem Ep {k:Nat} {cs:List (List Nd)} {n:Nd} (hl:cs.length=(aB n.op).ops) (ha:∀a∈cs,Ex k a) (o:Nat):
  iJ (cs.flatten++[n]) o []=nP o cs++[roots o cs]:=by
 have h2:=JD hl o (JC k (acz k) cs ha o) [] [];rw[List.append_nil] at h2;rw[h2];simp[iJ]
theorem DI (s:ByteArray):s.toList.isEmpty=true↔s=⟨#[]⟩:=by
 have e0:(⟨#[]⟩:ByteArray).toList=[]:=by rw[ByteArray.toList_eq]
 rw[List.isEmpty_iff];exact⟨fun h=>toList_inj (by rw[h,e0]),fun h=>by rw[h,e0]⟩
end Go.Proofs.YtimokmplkpbmdaaGreatDoor
