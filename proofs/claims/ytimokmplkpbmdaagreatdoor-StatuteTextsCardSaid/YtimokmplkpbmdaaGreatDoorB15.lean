/- A part of the proof: W1 E1 S3. -/
import Derived.Test.YtimokmplkpbmdaaGreatDoorB14
set_option linter.all false
set_option maxRecDepth 100000
set_option maxHeartbeats 0
namespace Go.Proofs.YtimokmplkpbmdaaGreatDoor
open Go.RowKit
theorem wtmod_ways (a m:Int) (hm:0<m):(0<=a.tmod m/\a % m=a.tmod m)∨(a.tmod m<0/\a % m=a.tmod m+m):=by
 by_cases ha:0<=a
 ·left
  rw[Int.tmod_eq_emod_of_nonneg ha];exact⟨Int.emod_nonneg _ (by omega),rfl⟩
 ·have h1:a.tmod m= -((-a) % m):=by
   have h2:=Int.neg_tmod (-a) m;rw[Int.neg_neg] at h2;rw[h2,Int.tmod_eq_emod_of_nonneg (show 0<= -a by omega)]
  rw[h1];have hr0:=Int.emod_nonneg (-a) (show m≠0 by omega);have hr1:=Int.emod_lt_of_pos (-a) hm;have hd:=Int.mul_ediv_add_emod (-a) m;generalize (-a) % m=r at*;generalize (-a) / m=q at*;by_cases hz:r=0
  ·left
   refine⟨by omega,?_⟩;have:a=m*(-q):=by rw[Int.mul_neg];omega
   rw[this,Int.mul_emod_right];omega
  ·right
   refine⟨by omega,?_⟩;have:a=(m-r)+m*(-q-1):=by rw[Int.mul_sub,Int.mul_neg,Int.mul_one];omega
   rw[this,Int.add_mul_emod_self_left,Int.emod_eq_of_lt (by omega) (by omega)];omega
theorem wMod_any (a m:Int) (w:World) (h0:-9223372036854775808<=a) (h1:a<=9223372036854775807) (hm:0<m) (hm2:m<=9223372036854775807):
  Calls Tryz.prog 8 #[.int .i64 a,.int .i64 m] w fun e w'=>e=.returned (.int .i64 (a % m))/\w=w':=by
 have hb:-9223372036854775808<=a.tmod m/\a.tmod m<=9223372036854775807:=by
  have h2:=Int.emod_nonneg a (show m≠0 by omega);have h3:=Int.emod_lt_of_pos a hm;rcases wtmod_ways a m hm with⟨h4,h5⟩|⟨h4,h5⟩<;>omega
 have hmz:(m==0)=false:=by rw[beq_eq_false_iff_ne];omega
 have hmz':¬m=0:=by omega
 have hw:IntKind.i64.wrap (a.tmod m)=a.tmod m:=IntWalk.i64_in _ (by omega);have hlt:=Int.emod_lt_of_pos a hm;rcases wtmod_ways a m hm with⟨h4,h5⟩|⟨h4,h5⟩
 ·have HV:=zH h5;clear h5 hlt;go_enter Tryz.func8,Tryz.ntmps8;go_wp2;go_ret;exact⟨by rw[HV.out];rfl,rfl⟩
 ·have HV:=zH h5;have h6:=Int.emod_nonneg a (show m≠0 by omega);have hw2:IntKind.i64.wrap (a.tmod m+m)=a.tmod m+m:=IntWalk.i64_in _ (by omega);clear h5 hlt h6;go_enter Tryz.func8,Tryz.ntmps8;go_wp2;go_ret;exact⟨by rw[HV.out];rfl,rfl⟩
def zvs (l:List Int):List Value:=l.map (Value.int .i64)
structure Dw (w:World) (D:Nat) (A:Option Addr) (n c:Nat) (L:List Int) (k:Nat):Prop where
 blk:Blk w D 111 [.slice A n c,.int .i64 k]
 len:n=L.length
 max:n<=maxLen
 rd:Rd w A (zvs L)
 rng:∀x∈L,-9223372036854775808<=x/\x<=9223372036854775807
 ne:L≠[]->∀ad,A=some ad->ad.block≠D
 le:k<=n
def DS (w:World) (D u:Nat):Prop:=∃A n c L k,Dw w D A n c L k/\D<u/\(L≠[]->∀ad,A=some ad->ad.block<u)
theorem DS.lt {w:World} {D u:Nat} (h:DS w D u):D<w.heap.size:=by obtain⟨_,_,_,_,_,h,_⟩:=h;exact h.blk.lt
theorem DS.below {w w':World} {D u:Nat} (h:DS w D u) (hb:Below w.heap.size w w'):DS w' D u:=by
 obtain⟨A,n,c,L,k,h,hu⟩:=h;exact⟨A,n,c,L,k,⟨h.blk.below hb h.blk.lt,h.len,h.max,h.rd.below hb,h.rng,h.ne,h.le⟩,hu⟩
theorem DS.set {w:World} {D u B:Nat} (h:DS w D u) (hB:u<=B) (i:Nat) (x:Value):DS (w.setCell ⟨B,i,none⟩ x) D u:=by
 obtain⟨A,n,c,L,k,h,hu,ha⟩:=h;have ho:Onl B w (w.setCell ⟨B,i,none⟩ x):=(Onl.refl _ _).set i x;refine⟨A,n,c,L,k,⟨ho.blk h.blk (by omega),h.len,h.max,?_,h.rng,h.ne,h.le⟩,hu,ha⟩;rcases h.rd with h0|⟨b',off',e,hb,hc⟩
 ·exact .inl h0
 ·subst e;by_cases hL:L=[]
  ·exact .inl (by rw[hL];rfl)
  ·have h9:b'<u:=ha hL _ rfl;exact ho.rd (.inr ⟨b',off',rfl,hb,hc⟩) (by show b'≠B;omega)
theorem next_any (w:World) (D u:Nat) (m:Int) (h:DS w D u) (h1:1<=m) (h2:m<=1000000):Calls Tryz.prog 52 #[.pointer (some ⟨D,0,none⟩),.int .i64 m] w fun e w'=>∃r:Nat,(r:Int)<m/\e=.returned (.int .i64 r)/\DS w' D u/\Onl D w w':=by
 obtain⟨A,n,c,L,k,h,hu⟩:=h;have HU:=zH hu;clear hu;have HW:=zH h;have hkc:=h.blk.cells;have hkf:=h.blk.froz;have hmx:=h.max;have hkn:=h.le;unfold maxLen at hmx;by_cases hlt:k<n
 ·have hlen:=h.len;have hl:k<L.length:=by omega
  obtain⟨b,o,rfl,hb,hc⟩:=h.rd.at_ (k:=k) (by unfold zvs;rw[List.length_map];exact hl)
  have hcx:w.cell? ⟨b,o+k,none⟩=some (.int .i64 L[k]):=by
   have:=hc k (by unfold zvs;rw[List.length_map];exact hl);rw[this];unfold zvs;rw[List.getElem_map]
  have hne:=h.ne (by rintro rfl;exact absurd hl (by simp)) ⟨b,o,none⟩ rfl;have hrg:=h.rng _ (List.getElem_mem hl);have HM:=zH (fun W=>wMod_any L[k] m W hrg.1 hrg.2 (by omega) (by omega));have HR:Hid (∃r:Nat,(r:Int)<m/\L[k] % m=r):=⟨(L[k] % m).toNat,by have:=Int.emod_lt_of_pos L[k] (show 0<m by omega);have:=Int.emod_nonneg L[k] (show m≠0 by omega);omega,by have:=Int.emod_nonneg L[k] (show m≠0 by omega);omega⟩
  obtain⟨r,hr,hre⟩:=HR.out;rw[hre] at HM;have HRM:=zH hr;have HRE:=zH hre;have hlt':¬(k:Int)≥n:=by omega
  have hbD:¬b=D:=hne;have hbD':¬D=b:=fun e=>hne e.symm
  have hk0:(0:Int)<=(k:Int):=by omega
  have hk1:(k:Int)<n:=by omega
  have hkL:k+1<=L.length:=hl;clear hr hre h hc hne;obtain⟨x,hx⟩:=zF (L[k]);simp only[hx] at HM HRE hcx hrg;clear HR hrg hx hl hlen hkL;go_enter Tryz.func52,Tryz.ntmps52
  go_upto_region 1 with fail
  go_quiet (fail);generalize hwq:w.drewN _=wq;have HQ:Hid (Below w.heap.size w wq):=by show Below _ _ _;rw[<-hwq];exact drewN_below _ _ _
  have HKQ:Hid (Blk wq D 111 [.slice (some ⟨b,o,none⟩) n c,.int .i64 k]):=HW.out.blk.below HQ.out HW.out.blk.lt;have hbx:wq.cell? ⟨b,o+k,none⟩=some (.int .i64 x):=(HQ.out.cell (p:=⟨b,o+k,none⟩) hb).trans hcx;clear hwq hkc hkf hcx;have hkc:=HKQ.out.cells;have hkf:=HKQ.out.froz
  go_upto_region 4 with fail
  have hk2:Blk (wq.setCell ⟨D,1,none⟩ (.int .i64 ((k:Int)+1))) D 111 [.slice (some ⟨b,o,none⟩) n c,.int .i64 ((k:Int)+1)]:=HKQ.out.set 1 _;have hbx2:(wq.setCell ⟨D,1,none⟩ (.int .i64 ((k:Int)+1))).cell? ⟨b,o+k,none⟩=some (.int .i64 x):=by rw[World.cell?_setCell_other _ _ _ _ (by simp[hbD,hbD'])];exact hbx
  have HO2:Hid (Onl D w (wq.setCell ⟨D,1,none⟩ (.int .i64 ((k:Int)+1)))):=(Onl.of_below HQ.out).set 1 _;have HK2:=zH hk2
  have HDS:Hid (∀W,Below (wq.setCell ⟨D,1,none⟩ (.int .i64 ((k:Int)+1))).heap.size (wq.setCell ⟨D,1,none⟩ (.int .i64 ((k:Int)+1))) W->DS W D u):=fun W hW=>by
   refine DS.below ⟨some ⟨b,o,none⟩,n,c,L,k+1,⟨hk2,HW.out.len,HW.out.max,?_,HW.out.rng,HW.out.ne,by omega⟩,HU.out⟩ hW;exact HO2.out.rd HW.out.rd hbD
  generalize wq.setCell ⟨D,1,none⟩ (.int .i64 ((k:Int)+1))=w2 at*;clear hkc hkf hbx HQ HKQ hk2;have hkc:=HK2.out.cells;go_quiet ((go_at_call 8;refine Calls.quiet_of_same ((HM.out _).mono (fun _ _ h=>⟨h.1,h.2.symm⟩))));go_wp2;go_ret;exact⟨r,HRM.out,rfl,HDS.out _ (drewN_below _ _ _),HO2.out.drewN _⟩
 ·have hge:(n:Int)<=(k:Int):=by omega
  clear h;go_enter Tryz.func52,Tryz.ntmps52
  go_upto_region 1 with fail
  go_quiet (fail);go_wp2;go_ret;exact⟨0,by omega,rfl,DS.below ⟨A,n,c,L,k,HW.out,HU.out⟩ (drewN_below _ _ _),(Onl.refl _ _).drewN _⟩
structure Sh where
 word:List UInt8
 ops:Nat
 lit:Bool
 nam:Bool
 stp:Bool
def sh0:Sh:=⟨[],0,false,false,false⟩
def shs:List Sh:=[sh0,⟨[36],0,true,false,false⟩,⟨[],0,true,false,false⟩,⟨[],0,true,false,false⟩,⟨[],0,true,false,false⟩,
 ⟨[102,97,99,116,46],0,false,true,false⟩,⟨[111,119,110,46],0,false,true,false⟩,⟨[112,114,105,111,114,46],0,false,true,false⟩,⟨[115,112,111,117,115,101,46],0,false,true,false⟩,
 ⟨[97,100,100],2,false,false,false⟩,⟨[115,117,98],2,false,false,false⟩,⟨[109,117,108],2,false,false,false⟩,⟨[100,105,118],2,false,false,false⟩,⟨[109,105,110],2,false,false,false⟩,⟨[109,97,120],2,false,false,false⟩,
 ⟨[105,102],3,false,false,false⟩,⟨[108,101,115,115],2,false,false,false⟩,⟨[101,113,117,97,108],2,false,false,false⟩,⟨[97,110,100],2,false,false,false⟩,⟨[111,114],2,false,false,false⟩,⟨[110,111,116],1,false,false,false⟩,
 ⟨[100,111,119,110],1,false,false,true⟩,⟨[117,112],1,false,false,true⟩,⟨[110,101,97,114],1,false,false,true⟩,⟨[114,97,116,101,46],1,false,true,false⟩]
def shp (op:Int):Sh:=shs.getD op.toNat sh0
structure Nd where
 op:Int
 num:Ra
 name:ByteArray
deriving DecidableEq
def Nd.cells (n:Nd):List Value:=[.int .i64 n.op,.bool n.num.neg,.string n.num.num,.string n.num.den,.string n.name]
def Nd.v (n:Nd):Value:=.agg #[.int .i64 n.op,.bool n.num.neg,.string n.num.num,.string n.num.den,.string n.name]
def zR:Ra:=⟨false,⟨#[]⟩,⟨#[]⟩⟩
def letterC (c:UInt8):Bool:=decide (97<=c.toNat)&&decide (c.toNat<=122)
def digitC (c:UInt8):Bool:=decide (48<=c.toNat)&&decide (c.toNat<=57)
def nameC (c:UInt8):Bool:=letterC c||digitC c||decide (c.toNat=95)
def nameB (l:List UInt8):Bool:=(match l with|[]=>false|c::_=>letterC c)&&decide (l.length<=20)&&l.all nameC
def fitsR (a:Ra):Bool:=okR a&&decide (bitsN (vbs a.num)<=400)&&decide (bitsN (vbs a.den)<=400)
def numOk (n:Nd):Bool:=
 if n.op=4 then decide (n.num=ofI 0)||decide (n.num=ofI 1)
 else if (shp n.op).lit then fitsR n.num
 else if (shp n.op).stp then fitsR n.num&&decide (0<signR n.num)
 else decide (n.num=zR)
def wrongN (n:Nd):Int:=
 if n.op<1∨24<n.op∨((shp n.op).nam=false/\n.name≠⟨#[]⟩)∨numOk n=false then 11
 else if (shp n.op).nam&& !nameB n.name.data.toList then 12 else 0
def chk:List Nd->Nat->Int
 |[],d=>if d=1 then 0 else 11
 |n::r,d=>if wrongN n≠0 then wrongN n else if d<(shp n.op).ops then 11 else chk r (d-(shp n.op).ops+1)
def checkE (e:List Nd):Int:=if 60<e.length then 2 else chk e 0
def Ex:Nat->List Nd->Prop
 |0,_=>False
 |k+1,e=>∃(cs:List (List Nd)) (n:Nd),e=cs.flatten++[n]/\wrongN n=0/\cs.length=(shp n.op).ops/\∀a∈cs,Ex k a
theorem Ex.succ {k:Nat}:∀{e:List Nd},Ex k e->Ex (k+1) e:=by
 induction k with
 |zero=>intro e h;exact h.elim
 |succ k ih=>
  rintro e ⟨cs,n,he,hn,hl,ha⟩;exact⟨cs,n,he,hn,hl,fun a h=>ih (ha a h)⟩
theorem Ex.mono {k k':Nat} {e:List Nd} (h:Ex k e) (hk:k<=k'):Ex k' e:=by
 induction hk with
 |refl=>exact h
 |step _ ih=>exact ih.succ
theorem chk_flat (k:Nat) (ih:∀e:List Nd,Ex k e->∀r d,chk (e++r) d=chk r (d+1)) (cs:List (List Nd)) (ha:∀a∈cs,Ex k a) (r:List Nd) (d:Nat):
  chk (cs.flatten++r) d=chk r (d+cs.length):=by
 induction cs generalizing d with
 |nil=>rfl
 |cons a cs iha=>
  rw[List.flatten_cons,List.append_assoc,ih a (ha a (by simp)),iha (fun x hx=>ha x (by simp[hx]))];rw[List.length_cons];congr 1;omega
theorem chk_ex (k:Nat):∀e:List Nd,Ex k e->∀r d,chk (e++r) d=chk r (d+1):=by
 induction k with
 |zero=>intro e h;exact h.elim
 |succ k ih=>
  rintro e ⟨cs,n,rfl,hn,hl,ha⟩ r d;rw[List.append_assoc,chk_flat k ih cs ha];show chk (n::r) _=_;rw[chk,if_neg (by rw[hn];simp),if_neg (by omega)];congr 1;omega
theorem ex_chk (e:List Nd):∀(K:Nat) (st:List (List Nd)),(∀a∈st,Ex K a)->chk e st.length=0->∃k,Ex k (st.reverse.flatten++e):=by
 induction e with
 |nil=>
  intro K st hs h
  match st,h with
  |[a],_=>exact⟨K,by simpa using hs a (by simp)⟩
  |[],h=>simp[chk] at h
  |a::b::l,h=>simp[chk] at h
 |cons n r ih=>
  intro K st hs h;rw[chk] at h;split at h
  ·next h1=>exact absurd h h1
  ·next h1=>
   split at h
   ·cases h
   ·next h2=>
    have hn:wrongN n=0:=by simpa using h1
    have hE:Ex (K+1) ((st.take (shp n.op).ops).reverse.flatten++[n]):=
     ⟨(st.take (shp n.op).ops).reverse,n,rfl,hn,by simp;omega,fun a ha=>hs a (List.mem_of_mem_take (by simpa using ha))⟩
    obtain⟨k,hk⟩:=ih (K+1) (((st.take (shp n.op).ops).reverse.flatten++[n])::st.drop (shp n.op).ops)
     (by intro a ha;rcases List.mem_cons.1 ha with rfl|ha
         ·exact hE
         ·exact (hs a (List.mem_of_mem_drop ha)).succ)
     (by rw[List.length_cons,List.length_drop];exact h)
    refine⟨k,?_⟩
    have e1:st.reverse.flatten=(st.drop (shp n.op).ops).reverse.flatten++(st.take (shp n.op).ops).reverse.flatten:=by
     rw[<-List.flatten_append,<-List.reverse_append,List.take_append_drop]
    rw[e1];simpa using hk
def IsE (e:List Nd):Prop:=∃k,Ex k e
theorem checkE_iff (e:List Nd):checkE e=0↔e.length<=60/\IsE e:=by
 unfold checkE;constructor
 ·intro h;split at h
  ·cases h
  ·next h1=>
   obtain⟨k,hk⟩:=ex_chk e 0 [] (by simp) h;exact⟨by omega,k,by simpa using hk⟩
 ·rintro⟨h1,k,hk⟩;rw[if_neg (by omega)];have:=chk_ex k e hk [] 0;rw[List.append_nil] at this;rw[this];rfl
def joinC:List (List UInt8)->List UInt8
 |[]=>[]
 |a::l=>if l.isEmpty then a else a++[44,32]++joinC l
def txt (n:Nd) (ops:List (List UInt8)):List UInt8:=
 if n.op=4 then (if n.num.num=⟨#[]⟩ then [110,111] else [121,101,115])
 else (shp n.op).word++n.name.data.toList++(if (shp n.op).lit then (textR n.num).data.toList else [])++(if n.op=2 then [100] else [])
  ++(if (shp n.op).stp then [91]++(textR n.num).data.toList++[93] else [])++(if (shp n.op).ops=0 then [] else [40]++joinC ops++[41])
def pshT (st:List (List UInt8)) (n:Nd):List (List UInt8):=txt n (st.take (shp n.op).ops).reverse::st.drop (shp n.op).ops
def runT (e:List Nd) (st:List (List UInt8)):List (List UInt8):=e.foldl pshT st
def textE (e:List Nd):List UInt8:=(runT e []).headD []
theorem runT_append (a b:List Nd) (st:List (List UInt8)):runT (a++b) st=runT b (runT a st):=List.foldl_append
theorem runT_flat (k:Nat) (ih:∀e:List Nd,Ex k e->∀st,runT e st=textE e::st) (cs:List (List Nd)) (ha:∀a∈cs,Ex k a) (st:List (List UInt8)):
  runT cs.flatten st=(cs.map textE).reverse++st:=by
 induction cs generalizing st with
 |nil=>rfl
 |cons a cs iha=>
  rw[List.flatten_cons,runT_append,ih a (ha a (by simp)),iha (fun x hx=>ha x (by simp[hx]))];simp
theorem runT_node (cs:List (List Nd)) (n:Nd) (hl:cs.length=(shp n.op).ops) (h:∀st,runT cs.flatten st=(cs.map textE).reverse++st) (st:List (List UInt8)):
  runT (cs.flatten++[n]) st=txt n (cs.map textE)::st:=by
 rw[runT_append,h];show pshT ((cs.map textE).reverse++st) n=_;unfold pshT;have h1:((cs.map textE).reverse).length=(shp n.op).ops:=by simp[hl]
 rw[List.take_left' h1,List.drop_left' h1,List.reverse_reverse]
theorem textE_of {cs:List (List Nd)} {n:Nd} (h:runT (cs.flatten++[n]) []=txt n (cs.map textE)::[]):textE (cs.flatten++[n])=txt n (cs.map textE):=by
 unfold textE at h⊢;rw[h];rfl
theorem runT_ex (k:Nat):∀e:List Nd,Ex k e->∀st,runT e st=textE e::st:=by
 induction k with
 |zero=>intro e h;exact h.elim
 |succ k ih=>
  rintro e ⟨cs,n,rfl,hn,hl,ha⟩ st;have h1:=runT_node cs n hl (runT_flat k ih cs ha);rw[h1,textE_of (h1 [])]
theorem textE_node {k:Nat} {cs:List (List Nd)} {n:Nd} (hl:cs.length=(shp n.op).ops) (ha:∀a∈cs,Ex k a):textE (cs.flatten++[n])=txt n (cs.map textE):=
 textE_of (runT_node cs n hl (runT_flat k (runT_ex k) cs ha) [])
def runA:List Nd->Nat->List Nat->List (List Nat)
 |[],_,_=>[]
 |n::r,k,st=>(st.take (shp n.op).ops).reverse::runA r (k+1) (k::st.drop (shp n.op).ops)
def argsE (e:List Nd):List (List Nat):=runA e 0 []
theorem runA_length (e:List Nd) (o:Nat) (st:List Nat):(runA e o st).length=e.length:=by
 induction e generalizing o st with
 |nil=>rfl
 |cons n r ih=>rw[runA,List.length_cons,ih,List.length_cons]
def roots:Nat->List (List Nd)->List Nat
 |_,[]=>[]
 |o,a::cs=>(o+a.length-1)::roots (o+a.length) cs
def flatA:Nat->List (List Nd)->List (List Nat)
 |_,[]=>[]
 |o,a::cs=>runA a o []++flatA (o+a.length) cs
theorem roots_length (o:Nat) (cs:List (List Nd)):(roots o cs).length=cs.length:=by
 induction cs generalizing o with
 |nil=>rfl
 |cons a cs ih=>rw[roots,List.length_cons,ih,List.length_cons]
theorem runA_flat (k:Nat) (ih:∀e:List Nd,Ex k e->∀o st r,runA (e++r) o st=runA e o []++runA r (o+e.length) ((o+e.length-1)::st))
  (cs:List (List Nd)) (ha:∀a∈cs,Ex k a) (o:Nat) (st:List Nat) (r:List Nd):
  runA (cs.flatten++r) o st=flatA o cs++runA r (o+cs.flatten.length) ((roots o cs).reverse++st):=by
 induction cs generalizing o st with
 |nil=>rfl
 |cons a cs iha=>
  rw[List.flatten_cons,List.append_assoc,ih a (ha a (by simp)),iha (fun x hx=>ha x (by simp[hx])),flatA,roots,List.append_assoc,List.length_append,Nat.add_assoc];simp
theorem runA_node {cs:List (List Nd)} {n:Nd} (hl:cs.length=(shp n.op).ops) (o:Nat)
  (h:∀st r,runA (cs.flatten++r) o st=flatA o cs++runA r (o+cs.flatten.length) ((roots o cs).reverse++st)) (st:List Nat) (r:List Nd):
  runA (cs.flatten++[n]++r) o st=flatA o cs++[roots o cs]++runA r (o+(cs.flatten++[n]).length) ((o+(cs.flatten++[n]).length-1)::st):=by
 rw[List.append_assoc,h,List.append_assoc];congr 1;show runA (n::r) _ _=_;have h1:((roots o cs).reverse).length=(shp n.op).ops:=by rw[List.length_reverse,roots_length,hl]
 rw[runA,List.take_left' h1,List.drop_left' h1,List.reverse_reverse];simp only[List.length_append,List.length_cons,List.length_nil,List.cons_append,List.nil_append]
 rfl
theorem runA_ex (k:Nat):∀e:List Nd,Ex k e->∀o st r,runA (e++r) o st=runA e o []++runA r (o+e.length) ((o+e.length-1)::st):=by
 induction k with
 |zero=>intro e h;exact h.elim
 |succ k ih=>
  rintro e ⟨cs,n,rfl,hn,hl,ha⟩ o st r;have h1:=runA_node hl o (runA_flat k ih cs ha o);have h2:=h1 [] [];rw[List.append_nil] at h2;rw[h1,h2];simp[runA]
theorem argsAt_node {k:Nat} {cs:List (List Nd)} {n:Nd} (hl:cs.length=(shp n.op).ops) (ha:∀a∈cs,Ex k a) (o:Nat):
  runA (cs.flatten++[n]) o []=flatA o cs++[roots o cs]:=by
 have h2:=runA_node hl o (runA_flat k (runA_ex k) cs ha o) [] [];rw[List.append_nil] at h2;rw[h2];simp[runA]
theorem emp_nil (s:ByteArray):s.toList.isEmpty=true↔s=⟨#[]⟩:=by
 have e0:(⟨#[]⟩:ByteArray).toList=[]:=by rw[ByteArray.toList_eq]
 rw[List.isEmpty_iff];exact⟨fun h=>toList_inj (by rw[h,e0]),fun h=>by rw[h,e0]⟩
end Go.Proofs.YtimokmplkpbmdaaGreatDoor
