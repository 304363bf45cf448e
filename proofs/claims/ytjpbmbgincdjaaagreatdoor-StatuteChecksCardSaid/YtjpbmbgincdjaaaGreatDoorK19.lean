/- Part: FQ FS Q3 Q4 Q5 Q6 Q7 Q8 E1 S1 S2 S3 W1. -/
import Derived.Test.YtjpbmbgincdjaaaGreatDoorK14
import Derived.Test.YtjpbmbgincdjaaaGreatDoorK18
set_option linter.all false
set_option maxRecDepth 100000
set_option maxHeartbeats 0
namespace Go.Proofs.YtjpbmbgincdjaaaGreatDoor
open Go.RowKit List Tryz
abbrev iP (n:Int):PV:=.sc (.int .i64 n)
abbrev bP (b:Bool):PV:=.sc (.bool b)
abbrev sP (s:ByteArray):PV:=.sc (.string s)
abbrev Ra.p (a:Ra):PV:=.ag [bP a.neg,sP a.num,sP a.den]
abbrev bG:bU:=⟨fun _=>True,fun _ h=>h⟩
abbrev DX:bU:=⟨Laid,fun hb h=>h.below hb⟩
theorem Sz.up {a:ByteArray} {n m:Nat} (h:Sz a n) (hm:n.ble m=true):Sz a m:=⟨Nat.le_trans h.le (Nat.le_of_ble_eq_true hm)⟩
theorem qI.rp {L:Nat→Option Nat} {w:World} {l:List PV} {us:List Value} (h:qI l us):RL L w l us:=by
 induction h with
 |nil=>exact⟨rfl,fun i p u hp=>by cases hp⟩
 |cons _ ih=>
  refine⟨by simp[ih.1],fun i p u hp hu=>?_⟩;cases i with
  |zero=>cases hp;cases hu;exact .sc _
  |succ i=>exact ih.2 i p u hp hu
theorem jO.rp {L:Nat→Option Nat} {w:World} {l:List PV} {us:List Value} (h:jO l us) (h1:us.all vO=true):RL L w l us:=by
 induction h with
 |nil=>exact⟨rfl,fun i p u hp=>by cases hp⟩
 |sc _ ih=>
  rw[all_cons,Bool.and_eq_true] at h1;refine⟨by simp[(ih h1.2).1],fun i p u hp hu=>?_⟩;cases i with
  |zero=>cases hp;cases hu;exact .sc _
  |succ i=>exact (ih h1.2).2 i p u hp hu
 |@ag l ws _ _ hs _ ih=>
  rw[all_cons,Bool.and_eq_true] at h1;refine⟨by simp[(ih h1.2).1],fun i p u hp hu=>?_⟩;cases i with
  |zero=>
   cases hp;cases hu;exact .ag (hs.rp (L:=L) (w:=w)).1 (by simpa [vO] using h1.1) (hs.rp (L:=L) (w:=w)).2
  |succ i=>exact (ih h1.2).2 i p u hp hu
theorem jO.ra (a:Ra) {ps:List PV} {us:List Value} (h:jO ps us):jO (a.p::ps) (a.v::us):=.ag (.cons (.cons (.cons .nil))) h
section
variable {P:Program} {Ld:bU} {f:FuncId} {ps out:List PV} {us vs:List Value} {q:PV} {v:Value}
theorem mQ (hs:jO ps us) (ho:jO out vs) (h1:vs.all vO=true) (h:∀w,Ld.p w→Calls P f us.toArray w fun e w'=>e=.returned (.tuple vs.toArray)∧Below w.heap.size w w'):PC P Ld f ps (·=.tu out):=by
 intro w L us' hw hL hr;rw[hs.eq hr];exact (h w hw).mono fun e w' ⟨e1,hb⟩=>have k:RL L w' out vs:=ho.rp h1;⟨_,_,e1,rfl,.tu k.1 k.2,hb⟩
theorem cu (h:∀w,Ld.p w→Calls P f us.toArray w fun e w'=>e=.returned v∧Below w.heap.size w w') (hs:jO ps us:=by repeat (first|exact .nil|with_reducible apply jO.ra|apply jO.sc)) (hv:vO v=true:=by rfl):PC P Ld f ps (·=FV v):=kT hs hv h
theorem JI (h:∀w,Ld.p w→Calls P f us.toArray w fun e w'=>e=.returned v∧w=w') (hs:jO ps us:=by repeat (first|exact .nil|with_reducible apply jO.ra|apply jO.sc)) (hv:vO v=true:=by rfl):PC P Ld f ps (·=FV v):=kT hs hv fun w hw=>(h w hw).mono fun _ _ ⟨h1,h2⟩=>⟨h1,h2 ▸ Below.refl _ _⟩
theorem iF (h:PC P Ld f ps (·=q)) (w:World) (hw:Ld.p w) (hs:jO ps us:=by repeat (first|exact .nil|with_reducible apply jO.ra|apply jO.sc)) (ho:jO [q] [v]:=by repeat (first|exact .nil|with_reducible apply jO.ra|apply jO.sc)) (h1:us.all vO=true:=by rfl):Calls P f us.toArray w fun e w'=>e=.returned v∧Below w.heap.size w w':=
 (h w (fun _=>none) us hw (fun _ _=>rfl) (hs.rp h1)).mono fun e w' ⟨u,p,e1,e2,e3,hb⟩=>by
   subst e2
   have:=ho.eq (L:=fun _=>none) (w:=w') (vs:=[u]) ⟨rfl,fun i p' u' hp hu=>by cases i with
    |zero=>cases hp;cases hu;exact e3
    |succ i=>cases hp⟩
   cases this;exact⟨e1,hb⟩
theorem XQ (h:PC P Ld f ps (·=.tu out)) (w:World) (hw:Ld.p w) (hs:jO ps us:=by repeat (first|exact .nil|with_reducible apply jO.ra|apply jO.sc)) (ho:jO out vs:=by repeat (first|exact .nil|with_reducible apply jO.ra|apply jO.sc)) (h1:us.all vO=true:=by rfl):Calls P f us.toArray w fun e w'=>e=.returned (.tuple vs.toArray)∧Below w.heap.size w w':=
 (h w (fun _=>none) us hw (fun _ _=>rfl) (hs.rp h1)).mono fun e w' ⟨u,p,e1,e2,e3,hb⟩=>by
   subst e2;obtain⟨zs,rfl,k⟩:=e3.MF;rw[ho.eq ⟨k.1,k.2⟩] at e1;exact⟨e1,hb⟩
end
theorem U3 (d:Nat) (a b:Ra) (w:World):(Op.equalIn (d+2) 57 a.v b.v).run prog w=.ok (decide (a=b)) w:=by
 have u1:=underlying4;have u2:=underlying55;have hS:prog.underlying 57=some (.struct (prog.fieldsOf 57)):=by kernel_rfl
 have hp:prog.stoodInHeld 57=false:=by kernel_rfl
 rw[←Rl (fun b=>Result.ok b w) a b];simp only[Ra.v]
 rw[run_equalIn_agg w (d+1) 57 _ _ hS hp];simp only[Program.fieldsOf,underlying57]
 go_simp
theorem nM (a b:Ra) (w:World):(binOp .eql 57 a.v b.v).run prog w=.ok (.bool (decide (a=b))) w:=by
 have h:=U3 9998 a b w;simp only[Ra.v] at h⊢;rw[run_eql_struct,show (10000:Nat)=9998+2 from rfl,h];rfl
theorem rY (s:ByteArray):s.toList.isEmpty=true↔s=⟨#[]⟩:=by
 have e0:(⟨#[]⟩:ByteArray).toList=[]:=by rw[ByteArray.toList_eq]
 rw[isEmpty_iff];exact⟨fun h=>toList_inj (by rw[h,e0]),fun h=>by rw[h,e0]⟩
theorem IJ (s:ByteArray):s.toList.isEmpty=decide (s=⟨#[]⟩):=by rw[Bool.eq_iff_iff,decide_eq_true_iff];exact rY s
section
set_option maxRecDepth 100000
def aK (n:Int):Ra:=⟨decide (n<0),aC n.natAbs,aC 1⟩
theorem JJ (w:World):Calls prog 156 #[.int .i64 1] w fun e w'=>e=.returned (.string (aC 1))/\Below w.heap.size w w':=AP 1 w (by omega) (by omega)
theorem mV (n:Int) (w:World) (h0:-9223372036854775808<=n) (h1:n<=9223372036854775807):
  Calls prog 128 #[.int .i64 n] w fun e w'=>e=.returned (aK n).v/\Below w.heap.size w w':=by
 have c2:=cu (Ld:=bG) fun w _=>JJ w
 refine iF (Ld:=bG) (us:=[.int .i64 n]) ?_ w trivial;by_cases h:n<0
 ·have hw:IntKind.i64.wrap (-(n+1))= -(n+1):=IntWalk.i64_in _ (by omega);have hv:IntKind.i64.wrap (n+1)=n+1:=IntWalk.i64_in _ (by omega);have c1:=cu (Ld:=bG) fun w _=>AP (-(n+1)) w (by omega) (by omega)
  have c3:=cu (Ld:=bG) fun w _=>Gf (aC (-(n+1)).toNat) (aC 1) w (Nat.le_trans (aY _ 9 (by omega)) (by omega)) (Nat.le_trans (aY _ 9 (by omega)) (by omega))
  have e:aK n=⟨true,aC (ak (aC (-(n+1)).toNat)+ak (aC 1)),aC 1⟩:=by unfold aK;rw[aS,aS,decide_eq_true (by omega),show n.natAbs=(-(n+1)).toNat+1 by omega]
  rw[e];refine dh func128 fun X=>?_
  refine run ?_;exact aF
 ·have c1:=cu (Ld:=bG) fun w _=>AP n w (by omega) h1
  have e:aK n=⟨false,aC n.toNat,aC 1⟩:=by unfold aK;rw[decide_eq_false (by omega),show n.natAbs=n.toNat by omega]
  rw[e];refine dh func128 fun X=>?_
  refine run ?_;exact aF
end
section
set_option maxRecDepth 100000
def dI (a:Ra):Ra:=if okR a then a else aK 0
structure Two (w:World) (t1 t2:TypeId) (l1 l2:List Value) (W:World):Prop where
 one:aj W w.heap.size t1 l1
 two:aj W (w.heap.size+1) t2 l2
 below:Below w.heap.size w W
 size:W.heap.size=w.heap.size+2
theorem Two.new (w:World) (t1 t2:TypeId) (cs1 cs2:Array Value):Two w t1 t2 cs1.toList cs2.toList ((w.alloc (.cells cs1 t1)).alloc (.cells cs2 t2)):=by
 have h1:(w.alloc (.cells cs1 t1)).heap.size=w.heap.size+1:=by show (w.heap.push _).size=_;rw[Array.size_push]
 have hb1:Below w.heap.size w (w.alloc (.cells cs1 t1)):=(Below.refl _ _).alloc (Nat.le_refl _) _;have hb2:Below (w.alloc (.cells cs1 t1)).heap.size (w.alloc (.cells cs1 t1)) ((w.alloc (.cells cs1 t1)).alloc (.cells cs2 t2)):=(Below.refl _ _).alloc (Nat.le_refl _) _;have k1:=aj.new w t1 cs1;have k2:=aj.new (w.alloc (.cells cs1 t1)) t2 cs2;rw[h1] at k2;exact⟨k1.below hb2 k1.lt,k2,ah hb1 hb2,by show ((w.alloc (.cells cs1 t1)).heap.push _).size=_;rw[Array.size_push,h1]⟩
theorem oV (a:Ra) (w:World) (hn:a.num.size<=536870912) (hd:a.den.size<=536870912):
  Calls prog 154 #[a.v] w fun e w'=>e=.returned (dI a).v/\Below w.heap.size w w':=by
 have c1:=cu (Ld:=bG) fun w _=>qV a w hn hd
 have c2:=cu (Ld:=bG) fun w _=>mV 0 w (by omega) (by omega)
 unfold dI;generalize aK 0=z at*;refine iF (Ld:=bG) (us:=[a.v]) ?_ w trivial;refine dh func154 fun X=>?_
 refine run ?_;refine bM (fun h=>?_) fun h=>?_
 ·rw[if_neg (by simpa using h)];refine run ?_;exact aF
 ·rw[if_pos (by simpa using h)];refine run ?_;exact aF
end
def Gt (neg:Bool) (num den:ByteArray):Ra × Bool:=
 if dM den&&decide (0<ak den)&&dM num then (low neg (ak num) (ak den),true) else (⟨false,⟨#[]⟩,⟨#[]⟩⟩,false)
theorem XR (neg:Bool) (num den:ByteArray) (w:World) (hn:num.size<=536870912) (hd:den.size<=536870912):
  Calls prog 246 #[.bool neg,.string num,.string den] w fun e w'=>e=.returned (.tuple #[(Gt neg num den).1.v,.bool (Gt neg num den).2])/\Below w.heap.size w w':=by
 obtain⟨W,hW⟩:=zE (w.alloc (.cells #[.bool false,.string ⟨#[]⟩,.string ⟨#[]⟩] 57));have hba:Below w.heap.size w W:=by rw[hW];exact zB _ _
 have hblk:aj W w.heap.size 57 [.bool false,.string ⟨#[]⟩,.string ⟨#[]⟩]:=by rw[hW];exact aj.new w _ _
 have HP:=zH (fun w=>Nh den w (by omega));have HR:=zH (fun w=>vT num w);have HM:Hid (Gt neg num den=if dM den&&decide (0<ak den)&&dM num then (low neg (ak num) (ak den),true) else (⟨false,⟨#[]⟩,⟨#[]⟩⟩,false)):=rfl;cases hp:(dM den&&decide (0<ak den))
 ·rw[hp] at HP HM;clear hp;go_enter func246,ntmps246;go_wp2_with fail;simp only[<-hW]
  clear hW;refine (HP.out _).mono ?_;rintro e w1 ⟨rfl,hb1⟩;have hk3:=hblk.below hb1 hblk.lt;have hc0:=hk3.cell (i:=0) (by decide);have hc1:=hk3.cell (i:=1) (by decide);have hc2:=hk3.cell (i:=2) (by decide);have hf0:=hk3.frozen 0;have hf1:=hk3.frozen 1;have hf2:=hk3.frozen 2;simp only[getElem_cons_zero,getElem_cons_succ] at hc0 hc1 hc2;have hbw:=ah hba hb1;go_wp2;refine bodyPost_ret (v:=.tuple #[.agg #[.bool false,.string ⟨#[]⟩,.string ⟨#[]⟩],.bool false]) (by simp[results,results246,go_sem,hc0,hc1,hc2]) rfl ⟨?_,((hbw.setCell (Nat.le_refl _) _).setCell (Nat.le_refl _) _).setCell (Nat.le_refl _) _⟩;rw[HM.out];rfl
 ·rw[hp] at HP HM;cases hr:dM num
  ·rw[hr] at HR HM;clear hp hr;go_enter func246,ntmps246;go_wp2_with fail;simp only[<-hW]
   clear hW;refine (HP.out _).mono ?_;rintro e w1 ⟨rfl,hb1⟩;go_wp2_with fail;refine (HR.out _).mono ?_;rintro e w2 ⟨rfl,rfl⟩;have hk3:=hblk.below hb1 hblk.lt;have hc0:=hk3.cell (i:=0) (by decide);have hc1:=hk3.cell (i:=1) (by decide);have hc2:=hk3.cell (i:=2) (by decide);have hf0:=hk3.frozen 0;have hf1:=hk3.frozen 1;have hf2:=hk3.frozen 2;simp only[getElem_cons_zero,getElem_cons_succ] at hc0 hc1 hc2;have hbw:=ah hba hb1;go_wp2;refine bodyPost_ret (v:=.tuple #[.agg #[.bool false,.string ⟨#[]⟩,.string ⟨#[]⟩],.bool false]) (by simp[results,results246,go_sem,hc0,hc1,hc2]) rfl ⟨?_,((hbw.setCell (Nat.le_refl _) _).setCell (Nat.le_refl _) _).setCell (Nat.le_refl _) _⟩;rw[HM.out];rfl
  ·rw[hr] at HR HM;rw[Bool.and_eq_true,decide_eq_true_eq] at hp;have en:=(iH num).1 hr;have ed:=(iH den).1 hp.1;have hvn:=fE num;have hvd:=fE den;obtain⟨K,hK⟩:=zE 536870912;have HL:=zH (fun w=>nO neg (ak num) (ak den) K w (Nat.le_of_eq hK) (bV num K (by rw[hK];exact hn)) (bV den K (by rw[hK];exact hd)) hp.2);clear hK;rw[<-en,<-ed] at HL;obtain⟨lw,Nj⟩:=zF (low neg (ak num) (ak den));rw[Nj] at HL HM;obtain⟨ln,lu,ld⟩:=lw;clear hr hp en ed hvn hvd Nj;go_enter func246,ntmps246;go_wp2_with fail;simp only[<-hW]
   clear hW;refine (HP.out _).mono ?_;rintro e w1 ⟨rfl,hb1⟩;go_wp2_with fail;refine (HR.out _).mono ?_;rintro e w2 ⟨rfl,rfl⟩;go_wp2_with fail;refine (HL.out _).mono ?_;rintro e w3 ⟨rfl,hb3⟩;have AY:=ah hb1 hb3;have hk3:=hblk.below AY hblk.lt;have hc0:=hk3.cell (i:=0) (by decide);have hc1:=hk3.cell (i:=1) (by decide);have hc2:=hk3.cell (i:=2) (by decide);have hf0:=hk3.frozen 0;have hf1:=hk3.frozen 1;have hf2:=hk3.frozen 2;simp only[getElem_cons_zero,getElem_cons_succ] at hc0 hc1 hc2;have hbw:=ah hba AY;simp only[Ra.v]
   go_wp2;refine bodyPost_ret (v:=.tuple #[.agg #[.bool ln,.string lu,.string ld],.bool true]) (by simp[results,results246,go_sem,hc0,hc1,hc2]) rfl ⟨?_,((hbw.setCell (Nat.le_refl _) _).setCell (Nat.le_refl _) _).setCell (Nat.le_refl _) _⟩;rw[HM.out];rfl
section
set_option maxRecDepth 100000
def dD (a:Ra):Int:=if okR a then (if a=aK 0 then 0 else if a.neg then-1 else 1) else 0
theorem ug (a:Ra) (w:World) (hn:a.num.size<=536870912) (hd:a.den.size<=536870912):
  Calls prog 72 #[a.v] w fun e w'=>e=.returned (.int .i64 (dD a))/\Below w.heap.size w w':=by
 have c1:=cu (Ld:=bG) fun w _=>qV a w hn hd
 have c2:=cu (Ld:=bG) fun w _=>mV 0 w (by omega) (by omega)
 have hV:dD a=if !okR a||decide (a=aK 0) then 0 else if a.neg then-1 else 1:=by unfold dD;cases okR a<;>simp
 have he:=nM a (aK 0);unfold Ra.v at he;generalize aK 0=z at*;rw[hV];clear hV;refine iF (Ld:=bG) (us:=[a.v]) ?_ w trivial;refine dh func72 fun X=>?_
 refine run ?_;refine dH [(.s 3,.s (.v (bP (!okR a||decide (a=z)))))] ?_;refine run ?_;refine bM (fun h=>?_) fun h=>?_
 ·refine run ?_;exact aF (hr:=by rw[h];rfl)
 rw[h];refine run ?_;refine bM (fun h=>?_) fun h=>?_
 all_goals
  refine run ?_;exact aF (hr:=by rw[h];rfl)
end
def aU (a:Ra):ByteArray:=
 let s:=if (dI a).neg then ⟨#[45]⟩++kP (ak (dI a).num) else kP (ak (dI a).num)
 if (dI a).den=aC 1 then s else s++(⟨#[47]⟩++kP (ak (dI a).den))
theorem beq_toList (a b:ByteArray):(a.toList==b.toList)=decide (a=b):=by
 rw[Bool.eq_iff_iff,beq_iff_eq,decide_eq_true_iff];exact⟨toList_inj,fun h=>by rw[h]⟩
theorem XT (n K:Nat) (hK:0<K) (h:n<256 ^ K):(kP n).size<=3*K:=Gn n K hK h
theorem oW (s:ByteArray) (h:s.size<=1048576):(kP (ak s)).size<=3145728:=by
 obtain⟨K,hK⟩:=zE 1048576;rw[<-hK] at h;have:=XT (ak s) K (by omega) (bV s K h);omega
theorem Bh (a:Ra) (K:Nat) (hK:0<K) (hn:a.num.size<=K) (hd:a.den.size<=K):(dI a).num.size<=K/\(dI a).den.size<=K:=by
 unfold dI;split
 ·exact⟨hn,hd⟩
 ·exact⟨Nat.zero_le _,hK⟩
theorem jC (a:Ra) (w:World) (hL:Laid w) (hn:a.num.size<=1048576) (hd:a.den.size<=1048576):
  Calls prog 100 #[a.v] w fun e w'=>e=.returned (.string (aU a))/\Below w.heap.size w w':=by
 obtain⟨hvn,hvd⟩:=Bh a 1048576 (by omega) hn hd;have c1:=cu (Ld:=DX) fun w _=>oV a w (by omega) (by omega)
 have c2:=cu (Ld:=DX) fun w h=>DW (dI a).num w h hvn
 have c3:=cu (Ld:=DX) fun w h=>DW (dI a).den w h hvd
 have c4:=cu (Ld:=DX) fun w _=>JJ w
 have z1:Sz (kP (ak (dI a).num)) 3145728:=⟨oW _ hvn⟩
 have z2:Sz (kP (ak (dI a).den)) 3145728:=⟨oW _ hvd⟩
 unfold aU;generalize dI a=v at*;generalize kP (ak v.num)=sn at*;generalize kP (ak v.den)=sd at*;dsimp only
 refine iF (Ld:=DX) (us:=[a.v]) ?_ w hL;refine dh func100 fun X=>?_
 refine run ?_;refine qx [(.s 3,.s (.v (sP (if v.neg then ⟨#[45]⟩++sn else sn))))] ?_ ?_
 ·refine bM (fun h=>?_) fun h=>?_
  ·refine run ?_;exact fA (by rw[if_pos h];exact eP)
  ·refine run ?_;exact fA (by rw[if_neg (by rw[h];simp)];exact eP)
 have z3:Sz (if v.neg then ⟨#[45]⟩++sn else sn) 3145729:=by
  split
  ·exact Sz.up (Sz.add (Sz.lit _) z1) rfl
  ·exact Sz.up z1 rfl
 generalize (if v.neg then ⟨#[45]⟩++sn else sn)=s at*;refine run ?_;refine bM (fun h=>?_) fun h=>?_
 ·refine run ?_;exact aF (hr:=by rw[if_neg (by simpa using h)])
 ·refine run ?_;exact aF (hr:=by rw[if_pos (by simpa using h)])
def yY (s:List UInt8):Bool × List UInt8 × List UInt8:=
 let c:=Lib.cut (Lib.trimPrefix s [45]) [47]
 (Lib.hasPrefix s [45],c.1,if c.2.2 then c.2.1 else [49])
def fG (s:ByteArray):Ra × Bool:=
 let c:=yY s.data.toList
 let n:=fZ c.2.1
 let d:=fZ c.2.2
 let m:=Gt c.1 n.1 d.1
 if n.2&&d.2&&m.2&&decide (aU m.1=s) then (m.1,true) else (⟨false,⟨#[]⟩,⟨#[]⟩⟩,false)
theorem yx (s p:List UInt8):(Lib.trimPrefix s p).length<=s.length:=by
 unfold Lib.trimPrefix;split
 ·simp
 ·exact Nat.le_refl _
theorem RI (s p:List UInt8):(Lib.cut s p).1.length<=s.length/\(Lib.cut s p).2.1.length<=s.length:=by
 unfold Lib.cut;split<;>simp<;>omega
theorem qc (l:List UInt8):(fZ l).1.size<=l.length:=by
 unfold fZ;split
 ·next h=>
  simp only[rW,Bool.and_eq_true] at h;refine aY _ _ (Nat.lt_of_lt_of_le (AV l h.2) (Nat.pow_le_pow_left (by omega) _))
 ·show 0<=_;omega
theorem vY (neg:Bool) (n d K:Nat) (hn:n<256 ^ K) (hd:d<256 ^ K):(low neg n d).num.size<=K/\(low neg n d).den.size<=K:=
 ⟨aY _ _ (Nat.lt_of_le_of_lt (Nat.div_le_self _ _) hn),aY _ _ (Nat.lt_of_le_of_lt (Nat.div_le_self _ _) hd)⟩
theorem ND (neg:Bool) (n d:ByteArray) (K:Nat) (hn:n.size<=K) (hd:d.size<=K):(Gt neg n d).1.num.size<=K/\(Gt neg n d).1.den.size<=K:=by
 unfold Gt;split
 ·exact vY _ _ _ _ (Nat.lt_of_lt_of_le (fE n) (Nat.pow_le_pow_right (by omega) hn)) (Nat.lt_of_lt_of_le (fE d) (Nat.pow_le_pow_right (by omega) hd))
 ·exact⟨Nat.zero_le _,Nat.zero_le _⟩
theorem aj.cells {w:World} {b:Nat} {t:TypeId} {cs:List Value} (h:aj w b t cs):∀i,w.cell? ⟨b,i,none⟩=cs[i]?:=by
 intro i;unfold aj at h;simp[World.cell?,h]
theorem aj.bH {w:World} {b:Nat} {t:TypeId} {cs:List Value} (h:aj w b t cs):∀i,w.frozen? ⟨b,i,none⟩=false:=fun i=>h.frozen i
theorem Gu {B:Nat} {w w':World} (h:Below B w w') (x y z:Value):Below B w (((w'.setCell ⟨B,0,none⟩ x).setCell ⟨B,1,none⟩ y).setCell ⟨B,2,none⟩ z):=
 ((h.setCell (p:=⟨B,0,none⟩) (Nat.le_refl _) _).setCell (p:=⟨B,1,none⟩) (Nat.le_refl _) _).setCell (p:=⟨B,2,none⟩) (Nat.le_refl _) _
theorem Laid.drewN {w:World} (h:Laid w) (n:Nat):Laid (w.drewN n):=h.below (aI _ _ _)
theorem Gv (s:ByteArray) (w:World) (hL:Laid w) (hs:s.size<=1048576):
  Calls prog 198 #[.string s] w fun e w'=>e=.returned (.tuple #[(fG s).1.v,.bool (fG s).2])/\Below w.heap.size w w':=by
 have hP:∀c,yY s.data.toList=c->∀n,fZ c.2.1=n->∀d,fZ c.2.2=d->∀m,Gt c.1 n.1 d.1=m->
   fG s=if n.2&&d.2&&m.2&&decide (aU m.1=s) then (m.1,true) else (⟨false,⟨#[]⟩,⟨#[]⟩⟩,false):=by
  rintro c rfl n rfl d rfl m rfl;rfl
 unfold yY at hP;have yA:∀w:World,Calls prog 244 #[.string s,.string ⟨#[45]⟩] w fun e w'=>e=.returned (.tuple #[.string ⟨(Lib.trimPrefix s.data.toList [45]).toArray⟩,.bool (Lib.hasPrefix s.data.toList [45])])/\w'=w:=fun w=>Tryz.strings_CutPrefix s ⟨#[45]⟩ w
 have hrl:=yx s.data.toList [45];generalize Lib.hasPrefix s.data.toList [45]=neg at*;generalize Lib.trimPrefix s.data.toList [45]=rest at*;have alM:rest.length<=1048576:=Nat.le_trans hrl (by simpa using hs)
 have HC:∀(w:World) (m:Int),w.cell? ⟨2,0,none⟩=some (.int .i64 m)->Calls prog 88 #[.string ⟨rest.toArray⟩,.string ⟨#[47]⟩] w fun e w'=>e=.returned (.tuple #[.string ⟨(Lib.cut rest [47]).1.toArray⟩,.string ⟨(Lib.cut rest [47]).2.1.toArray⟩,.bool (Lib.cut rest [47]).2.2])/\∃n,w'=w.drewN n:=
  fun w m h=>Tryz.strings_Cut ⟨rest.toArray⟩ ⟨#[47]⟩ m w (by show rest.length<_;omega) h
 obtain⟨hnl,hdl⟩:=RI rest [47];generalize Lib.cut rest [47]=ct at*;obtain⟨nu,de0,fnd⟩:=ct;simp only at hP HC hnl hdl;have yA:=zH yA;have HC:=zH HC;obtain⟨de,hde⟩:∃d,(if fnd then de0 else [49])=d:=⟨_,rfl⟩
 have hdel:de.length<=1048576:=by subst hde;cases fnd<;>simp<;>omega
 rw[hde] at hP;obtain⟨⟨pn,bn⟩,hpn⟩:∃n,fZ nu=n:=⟨_,rfl⟩
 obtain⟨⟨pd,bd⟩,Gw⟩:∃n,fZ de=n:=⟨_,rfl⟩
 obtain⟨⟨m,bm⟩,hm⟩:∃n,Gt neg pn pd=n:=⟨_,rfl⟩
 have HP:=zH (hP _ rfl _ hpn _ Gw _ hm);have NG:=qc nu;have NH:=qc de;have hms:=ND neg pn pd 1048576 (by rw[hpn] at NG;simp only at NG;omega) (by rw[Gw] at NH;simp only at NH;omega);rw[hpn] at NG;rw[Gw] at NH;rw[hm] at hms;simp only at NG NH hms
 have HN:Hid (∀W,Calls prog 245 #[.string ⟨nu.toArray⟩] W fun e w'=>e=.returned (.tuple #[.string pn,.bool bn])/\Below W.heap.size W w'):=fun W=>
  (AX ⟨nu.toArray⟩ W (by show nu.length<=_;omega)).mono (by
    rintro e w' ⟨rfl,hb⟩;exact⟨by show Ending.returned (.tuple #[.string (fZ nu).1,.bool (fZ nu).2])=_;rw[hpn],hb⟩)
 have HD:Hid (∀W,Calls prog 245 #[.string ⟨de.toArray⟩] W fun e w'=>e=.returned (.tuple #[.string pd,.bool bd])/\Below W.heap.size W w'):=fun W=>
  (AX ⟨de.toArray⟩ W (by show de.length<=_;omega)).mono (by
    rintro e w' ⟨rfl,hb⟩;exact⟨by show Ending.returned (.tuple #[.string (fZ de).1,.bool (fZ de).2])=_;rw[Gw],hb⟩)
 have HM:=zH (fun W=>XR neg pn pd W (by omega) (by omega));rw[hm] at HM;have HT:=zH (fun W hL=>jC m W hL hms.1 hms.2);obtain⟨d,hd⟩:=zF (decide (aU m=s));generalize aU m=tx at*;rw[hd] at HP;have e1:(tx.toList==s.toList)=d:=by rw[beq_toList,hd]
 have e2:(tx.toList !=s.toList)= !d:=by rw[<-e1];rfl
 clear hP hpn Gw hm NG NH hms hrl alM hnl hdl hdel hs hd;obtain⟨mn,mu,md⟩:=m;unfold Ra.v at HM HT;simp only at HM HT HP;obtain⟨W,hW⟩:=zE (w.alloc (.cells #[.bool false,.string ⟨#[]⟩,.string ⟨#[]⟩] 57));have hba:Below w.heap.size w W:=by rw[hW];exact zB _ _
 have hblk:aj W w.heap.size 57 [.bool false,.string ⟨#[]⟩,.string ⟨#[]⟩]:=by rw[hW];exact aj.new w _ _
 obtain⟨B,hB⟩:=zE w.heap.size;rw[<-hB] at hblk;have HB:=zH hB;have mJ:=hL.below hba;obtain⟨ml,hml⟩:=mJ.cut.2;have kQ:=zH mJ;have HML:=zH hml;have bZ:=zH hba;have MV:=zH hblk;clear hL mJ hml hba hblk;cases fnd
 all_goals
  simp only[if_true,if_false,Bool.false_eq_true] at hde;subst hde;go_enter func198,ntmps198;go_wp2_with fail;simp only[<-hW,<-hB]
  clear hW hB;refine (yA.out _).mono ?_;rintro e w1 ⟨rfl,rfl⟩;go_wp2_with fail;refine (HC.out _ ml HML.out).mono ?_;rintro e w2 ⟨rfl,nn,rfl⟩;go_wp2_with fail;refine (HN.out _).mono ?_;rintro e w3 ⟨rfl,hb3⟩;go_wp2_with fail;refine (HD.out _).mono ?_;rintro e w4 ⟨rfl,hb4⟩;go_wp2_with fail;refine (HM.out _).mono ?_;rintro e w5 ⟨rfl,hb5⟩;have hbw:=ah (ah (ah (aI _ w1 nn) hb3) hb4) hb5;have hk5:=MV.out.below hbw MV.out.lt;have hl5:=kQ.out.below hbw;have hkB:=hk5.alloc (.cells #[.bool mn,.string mu,.string md] 57);have hc:=hkB.cells;have hf:=hkB.bH;have hl6:=hl5.below ((Below.refl _ _).alloc (Nat.le_refl _) (.cells #[.bool mn,.string mu,.string md] 57));have XU:=aj.new w5 57 #[.bool mn,.string mu,.string md];have RJ:Below B w (w5.alloc (.cells #[.bool mn,.string mu,.string md] 57)):=by rw[HB.out];exact (ah bZ.out hbw).alloc (by have:=bZ.out.size;have:=hbw.size;omega) _
  have kR:=zH RJ;have HAA:=zH XU;have HKB:=zH hkB;clear hbw hb3 hb4 hb5 hk5 XU RJ hkB hl5;cases bn<;>cases bd<;>cases bm
  all_goals
   go_wp2_with fail
   first
   |(refine bodyPost_ret (v:=.tuple #[.agg #[.bool false,.string ⟨#[]⟩,.string ⟨#[]⟩],.bool false]) (by simp[results,results198,go_sem,hc]) rfl ⟨?_,?_⟩
     ·rw[HP.out];rfl
     ·rw[<-HB.out];exact Gu kR.out _ _ _)
   |(refine (HT.out _ hl6).mono ?_
     rintro e w7 ⟨rfl,hb7⟩;clear hc hf;have hkB:=HKB.out.below hb7 HKB.out.lt;have XU:=HAA.out.below hb7 HAA.out.lt;have hbw:=kR.out.trans (hb7.mono (Nat.le_of_lt HKB.out.lt));have hc:=hkB.cells;have hf:=hkB.bH;have hcA:=XU.cells;have kR:=zH hbw;clear XU hkB hb7 hbw hl6;cases d
     all_goals
      go_wp2_with fail;refine bodyPost_ret (v:=.tuple #[(fG s).1.v,.bool (fG s).2]) (by rw[HP.out];simp[results,results198,go_sem,hc,Ra.v]) rfl ⟨rfl,?_⟩;rw[<-HB.out];exact Gu kR.out _ _ _)
structure Sh where
 word:List UInt8
 ops:Nat
 lit:Bool
 eH:Bool
 fQ:Bool
def uU:Sh:=⟨[],0,false,false,false⟩
def iV:List Sh:=[uU,⟨[36],0,true,false,false⟩,⟨[],0,true,false,false⟩,⟨[],0,true,false,false⟩,⟨[],0,true,false,false⟩,
 ⟨[102,97,99,116,46],0,false,true,false⟩,⟨[111,119,110,46],0,false,true,false⟩,⟨[112,114,105,111,114,46],0,false,true,false⟩,⟨[115,112,111,117,115,101,46],0,false,true,false⟩,
 ⟨[97,100,100],2,false,false,false⟩,⟨[115,117,98],2,false,false,false⟩,⟨[109,117,108],2,false,false,false⟩,⟨[100,105,118],2,false,false,false⟩,⟨[109,105,110],2,false,false,false⟩,⟨[109,97,120],2,false,false,false⟩,
 ⟨[105,102],3,false,false,false⟩,⟨[108,101,115,115],2,false,false,false⟩,⟨[101,113,117,97,108],2,false,false,false⟩,⟨[97,110,100],2,false,false,false⟩,⟨[111,114],2,false,false,false⟩,⟨[110,111,116],1,false,false,false⟩,
 ⟨[100,111,119,110],1,false,false,true⟩,⟨[117,112],1,false,false,true⟩,⟨[110,101,97,114],1,false,false,true⟩,⟨[114,97,116,101,46],1,false,true,false⟩]
def aG (op:Int):Sh:=iV.getD op.toNat uU
structure Nd where
 op:Int
 num:Ra
 name:ByteArray
deriving DecidableEq
def Nd.cells (n:Nd):List Value:=[.int .i64 n.op,.bool n.num.neg,.string n.num.num,.string n.num.den,.string n.name]
def Nd.v (n:Nd):Value:=.agg #[.int .i64 n.op,.bool n.num.neg,.string n.num.num,.string n.num.den,.string n.name]
def zR:Ra:=⟨false,⟨#[]⟩,⟨#[]⟩⟩
def jI (c:UInt8):Bool:=decide (97<=c.toNat)&&decide (c.toNat<=122)
def NI (c:UInt8):Bool:=decide (48<=c.toNat)&&decide (c.toNat<=57)
def ou (c:UInt8):Bool:=jI c||NI c||decide (c.toNat=95)
def nameB (l:List UInt8):Bool:=(match l with|[]=>false|c::_=>jI c)&&decide (l.length<=20)&&l.all ou
def bQ (a:Ra):Bool:=okR a&&decide (gQ (ak a.num)<=400)&&decide (gQ (ak a.den)<=400)
def iC (n:Nd):Bool:=
 if n.op=4 then decide (n.num=aK 0)||decide (n.num=aK 1)
 else if (aG n.op).lit then bQ n.num
 else if (aG n.op).fQ then bQ n.num&&decide (0<dD n.num)
 else decide (n.num=zR)
def aQ (n:Nd):Int:=
 if n.op<1∨24<n.op∨((aG n.op).eH=false/\n.name≠⟨#[]⟩)∨iC n=false then 11
 else if (aG n.op).eH&& !nameB n.name.data.toList then 12 else 0
def chk:List Nd->Nat->Int
 |[],d=>if d=1 then 0 else 11
 |n::r,d=>if aQ n≠0 then aQ n else if d<(aG n.op).ops then 11 else chk r (d-(aG n.op).ops+1)
def aX (e:List Nd):Int:=if 60<e.length then 2 else chk e 0
def Ex:Nat->List Nd->Prop
 |0,_=>False
 |k+1,e=>∃(cs:List (List Nd)) (n:Nd),e=cs.flatten++[n]/\aQ n=0/\cs.length=(aG n.op).ops/\∀a∈cs,Ex k a
theorem Ex.succ {k:Nat}:∀{e:List Nd},Ex k e->Ex (k+1) e:=by
 induction k with
 |zero=>intro e h;exact h.elim
 |succ k ih=>
  rintro e ⟨cs,n,he,hn,hl,ha⟩;exact⟨cs,n,he,hn,hl,fun a h=>ih (ha a h)⟩
theorem Ex.mono {k k':Nat} {e:List Nd} (h:Ex k e) (hk:k<=k'):Ex k' e:=by
 induction hk with
 |refl=>exact h
 |step _ ih=>exact ih.succ
theorem aav (k:Nat) (ih:∀e:List Nd,Ex k e->∀r d,chk (e++r) d=chk r (d+1)) (cs:List (List Nd)) (ha:∀a∈cs,Ex k a) (r:List Nd) (d:Nat):
  chk (cs.flatten++r) d=chk r (d+cs.length):=by
 induction cs generalizing d with
 |nil=>rfl
 |cons a cs iha=>
  rw[flatten_cons,append_assoc,ih a (ha a (by simp)),iha (fun x hx=>ha x (by simp[hx]))];rw[length_cons];congr 1;omega
theorem af8 (k:Nat):∀e:List Nd,Ex k e->∀r d,chk (e++r) d=chk r (d+1):=by
 induction k with
 |zero=>intro e h;exact h.elim
 |succ k ih=>
  rintro e ⟨cs,n,rfl,hn,hl,ha⟩ r d;rw[append_assoc,aav k ih cs ha];show chk (n::r) _=_;rw[chk,if_neg (by rw[hn];simp),if_neg (by omega)];congr 1;omega
theorem af9 (e:List Nd):∀(K:Nat) (st:List (List Nd)),(∀a∈st,Ex K a)->chk e st.length=0->∃k,Ex k (st.reverse.flatten++e):=by
 induction e with
 |nil=>
  intro K st hs h
  match st,h with
  |[a],_=>exact⟨K,by simpa using hs a (by simp)⟩
  |[],h=>simp[chk] at h
  |a::b::l,h=>simp[chk] at h
 |cons n r ih=>
  intro K st hs h;rw[chk] at h;split at h
  ·next h1=>exact absurd h h1
  ·next h1=>
   split at h
   ·cases h
   ·next h2=>
    have hn:aQ n=0:=by simpa using h1
    have hE:Ex (K+1) ((st.take (aG n.op).ops).reverse.flatten++[n]):=
     ⟨(st.take (aG n.op).ops).reverse,n,rfl,hn,by simp;omega,fun a ha=>hs a (mem_of_mem_take (by simpa using ha))⟩
    obtain⟨k,hk⟩:=ih (K+1) (((st.take (aG n.op).ops).reverse.flatten++[n])::st.drop (aG n.op).ops)
     (by intro a ha;rcases mem_cons.1 ha with rfl|ha
         ·exact hE
         ·exact (hs a (mem_of_mem_drop ha)).succ)
     (by rw[length_cons,length_drop];exact h)
    refine⟨k,?_⟩
    have e1:st.reverse.flatten=(st.drop (aG n.op).ops).reverse.flatten++(st.take (aG n.op).ops).reverse.flatten:=by
     rw[<-flatten_append,<-reverse_append,take_append_drop]
    rw[e1];simpa using hk
def IsE (e:List Nd):Prop:=∃k,Ex k e
theorem oZ (e:List Nd):aX e=0↔e.length<=60/\IsE e:=by
 unfold aX;constructor
 ·intro h;split at h
  ·cases h
  ·next h1=>
   obtain⟨k,hk⟩:=af9 e 0 [] (by simp) h;exact⟨by omega,k,by simpa using hk⟩
 ·rintro⟨h1,k,hk⟩;rw[if_neg (by omega)];have:=af8 k e hk [] 0;rw[append_nil] at this;rw[this];rfl
def iI:List (List UInt8)->List UInt8
 |[]=>[]
 |a::l=>if l.isEmpty then a else a++[44,32]++iI l
def txt (n:Nd) (ops:List (List UInt8)):List UInt8:=
 if n.op=4 then (if n.num.num=⟨#[]⟩ then [110,111] else [121,101,115])
 else (aG n.op).word++n.name.data.toList++(if (aG n.op).lit then (aU n.num).data.toList else [])++(if n.op=2 then [100] else [])
  ++(if (aG n.op).fQ then [91]++(aU n.num).data.toList++[93] else [])++(if (aG n.op).ops=0 then [] else [40]++iI ops++[41])
def aaw (st:List (List UInt8)) (n:Nd):List (List UInt8):=txt n (st.take (aG n.op).ops).reverse::st.drop (aG n.op).ops
def runT (e:List Nd) (st:List (List UInt8)):List (List UInt8):=e.foldl aaw st
def textE (e:List Nd):List UInt8:=(runT e []).headD []
theorem DY (a b:List Nd) (st:List (List UInt8)):runT (a++b) st=runT b (runT a st):=foldl_append
theorem JK (k:Nat) (ih:∀e:List Nd,Ex k e->∀st,runT e st=textE e::st) (cs:List (List Nd)) (ha:∀a∈cs,Ex k a) (st:List (List UInt8)):
  runT cs.flatten st=(cs.map textE).reverse++st:=by
 induction cs generalizing st with
 |nil=>rfl
 |cons a cs iha=>
  rw[flatten_cons,DY,ih a (ha a (by simp)),iha (fun x hx=>ha x (by simp[hx]))];simp
theorem JL (cs:List (List Nd)) (n:Nd) (hl:cs.length=(aG n.op).ops) (h:∀st,runT cs.flatten st=(cs.map textE).reverse++st) (st:List (List UInt8)):
  runT (cs.flatten++[n]) st=txt n (cs.map textE)::st:=by
 rw[DY,h];show aaw ((cs.map textE).reverse++st) n=_;unfold aaw;have h1:((cs.map textE).reverse).length=(aG n.op).ops:=by simp[hl]
 rw[take_left' h1,drop_left' h1,reverse_reverse]
theorem NJ {cs:List (List Nd)} {n:Nd} (h:runT (cs.flatten++[n]) []=txt n (cs.map textE)::[]):textE (cs.flatten++[n])=txt n (cs.map textE):=by
 unfold textE at h⊢;rw[h];rfl
theorem adS (k:Nat):∀e:List Nd,Ex k e->∀st,runT e st=textE e::st:=by
 induction k with
 |zero=>intro e h;exact h.elim
 |succ k ih=>
  rintro e ⟨cs,n,rfl,hn,hl,ha⟩ st;have h1:=JL cs n hl (JK k ih cs ha);rw[h1,NJ (h1 [])]
theorem Gx {k:Nat} {cs:List (List Nd)} {n:Nd} (hl:cs.length=(aG n.op).ops) (ha:∀a∈cs,Ex k a):textE (cs.flatten++[n])=txt n (cs.map textE):=
 NJ (JL cs n hl (JK k (adS k) cs ha) [])
def ig:List Nd->Nat->List Nat->List (List Nat)
 |[],_,_=>[]
 |n::r,k,st=>(st.take (aG n.op).ops).reverse::ig r (k+1) (k::st.drop (aG n.op).ops)
def iZ (e:List Nd):List (List Nat):=ig e 0 []
theorem lZ (e:List Nd) (o:Nat) (st:List Nat):(ig e o st).length=e.length:=by
 induction e generalizing o st with
 |nil=>rfl
 |cons n r ih=>rw[ig,length_cons,ih,length_cons]
def roots:Nat->List (List Nd)->List Nat
 |_,[]=>[]
 |o,a::cs=>(o+a.length-1)::roots (o+a.length) cs
def oz:Nat->List (List Nd)->List (List Nat)
 |_,[]=>[]
 |o,a::cs=>ig a o []++oz (o+a.length) cs
theorem oJ (o:Nat) (cs:List (List Nd)):(roots o cs).length=cs.length:=by
 induction cs generalizing o with
 |nil=>rfl
 |cons a cs ih=>rw[roots,length_cons,ih,length_cons]
theorem JM (k:Nat) (ih:∀e:List Nd,Ex k e->∀o st r,ig (e++r) o st=ig e o []++ig r (o+e.length) ((o+e.length-1)::st))
  (cs:List (List Nd)) (ha:∀a∈cs,Ex k a) (o:Nat) (st:List Nat) (r:List Nd):
  ig (cs.flatten++r) o st=oz o cs++ig r (o+cs.flatten.length) ((roots o cs).reverse++st):=by
 induction cs generalizing o st with
 |nil=>rfl
 |cons a cs iha=>
  rw[flatten_cons,append_assoc,ih a (ha a (by simp)),iha (fun x hx=>ha x (by simp[hx])),oz,roots,append_assoc,length_append,Nat.add_assoc];simp
theorem JO {cs:List (List Nd)} {n:Nd} (hl:cs.length=(aG n.op).ops) (o:Nat)
  (h:∀st r,ig (cs.flatten++r) o st=oz o cs++ig r (o+cs.flatten.length) ((roots o cs).reverse++st)) (st:List Nat) (r:List Nd):
  ig (cs.flatten++[n]++r) o st=oz o cs++[roots o cs]++ig r (o+(cs.flatten++[n]).length) ((o+(cs.flatten++[n]).length-1)::st):=by
 rw[append_assoc,h,append_assoc];congr 1;show ig (n::r) _ _=_;have h1:((roots o cs).reverse).length=(aG n.op).ops:=by rw[length_reverse,oJ,hl]
 rw[ig,take_left' h1,drop_left' h1,reverse_reverse];simp only[length_append,length_cons,length_nil,cons_append,nil_append]
 rfl
theorem adT (k:Nat):∀e:List Nd,Ex k e->∀o st r,ig (e++r) o st=ig e o []++ig r (o+e.length) ((o+e.length-1)::st):=by
 induction k with
 |zero=>intro e h;exact h.elim
 |succ k ih=>
  rintro e ⟨cs,n,rfl,hn,hl,ha⟩ o st r;have h1:=JO hl o (JM k ih cs ha o);have h2:=h1 [] [];rw[append_nil] at h2;rw[h1,h2];simp[ig]
theorem DZ {k:Nat} {cs:List (List Nd)} {n:Nd} (hl:cs.length=(aG n.op).ops) (ha:∀a∈cs,Ex k a) (o:Nat):
  ig (cs.flatten++[n]) o []=oz o cs++[roots o cs]:=by
 have h2:=JO hl o (JM k (adT k) cs ha o) [] [];rw[append_nil] at h2;rw[h2];simp[ig]
section
set_option maxRecDepth 100000
theorem RN (n m K:Nat) (w:World) (hK:K<=1073741824) (hn:n<256 ^ K) (hm:m<256 ^ K) (h0:0<m):
  Calls prog 172 #[.string (aC n),.string (aC m)] w fun e w'=>
   e=.returned (.tuple #[.string (aC (n / m)),.string (aC (n % m)),.bool true])/\Below w.heap.size w w':=by
 refine (Na (aC n) (aC m) w (Nat.le_trans (aY _ _ hn) hK) (Nat.le_trans (aY _ _ hm) hK)).mono ?_;rintro e w' ⟨rfl,hb⟩;rw[aS,aS];have p0:¬(m=0):=by omega
 rw[if_neg p0,if_neg p0,show (m !=0)=true from by simp[p0]];exact⟨rfl,hb⟩
theorem adU (n m K:Nat) (w:World) (hK:K<=1073741824) (hn:n<256 ^ K) (hm:m<256 ^ K):
  Calls prog 168 #[.string (aC n),.string (aC m)] w fun e w'=>e=.returned (.string (aC (Nat.gcd n m)))/\Below w.heap.size w w':=by
 have:=Nb (aC n) (aC m) w (Nat.le_trans (aY _ _ hn) hK) (Nat.le_trans (aY _ _ hm) hK);rwa[aS,aS] at this
theorem yB (w:World):Calls prog 43 #[.int .i64 1] w fun e w'=>e=.returned (.string (aC 1))/\Below w.heap.size w w':=oU 1 w (by omega) (by omega)
theorem pW (neg:Bool) (n d K:Nat) (w:World) (hK:K<=1073741824) (hn:n<256 ^ K) (hd:d<256 ^ K) (h0:0<d):
  Calls prog 121 #[.bool neg,.string (aC n),.string (aC d)] w fun e w'=>e=.returned (low neg n d).v/\Below w.heap.size w w':=by
 have hg:0<Nat.gcd n d:=Nat.gcd_pos_of_pos_right _ h0;have hgd:Nat.gcd n d<=d:=Nat.gcd_le_right _ h0;have c1:=cu (Ld:=bG) fun w _=>adU n d K w hK hn hd
 have c2:=mQ (Ld:=bG) (.sc (.sc .nil)) (.sc (.sc (.sc .nil))) rfl fun w _=>RN n (Nat.gcd n d) K w hK hn (by omega) hg
 have c3:=mQ (Ld:=bG) (.sc (.sc .nil)) (.sc (.sc (.sc .nil))) rfl fun w _=>RN d (Nat.gcd n d) K w hK hd (by omega) hg
 have c4:=cu (Ld:=bG) fun w _=>yB w
 have hz:aC n=⟨#[]⟩->low neg n d=⟨false,⟨#[]⟩,aC 1⟩:=fun h=>by
  rw[nC] at h;subst h;simp[low,Nat.div_self h0,nC]
 have hy:¬aC n=⟨#[]⟩->low neg n d=⟨neg,aC (n / Nat.gcd n d),aC (d / Nat.gcd n d)⟩:=fun h=>by
  rw[nC] at h;simp[low,h]
 generalize low neg n d=r at*;clear hn hd h0 hg hgd;refine iF (Ld:=bG) (us:=[.bool neg,.string (aC n),.string (aC d)]) ?_ w trivial;refine dh func121 fun X=>?_
 refine run ?_;refine aZ (fun h=>?_) fun h=>?_
 ·rw[hz h];refine run ?_;exact aF
 ·rw[hy h];refine run ?_;exact aF
theorem adV (a:Ra):okR a=(dM a.num&&dM a.den&& !a.den.toList.isEmpty&&(if a.num.toList.isEmpty then !a.neg&&decide (fD (ak a.den) (ak (aC 1))=0) else decide (fD (ak (aC (Nat.gcd (ak a.num) (ak a.den)))) (ak (aC 1))=0))):=by
 obtain⟨neg,num,den⟩:=a;unfold okR;simp only
 cases hn:dM num
 ·simp
 cases hd:dM den
 ·simp
 have en:=(iH num).1 hn;have ed:=(iH den).1 hd;rw[aS,aS];generalize ak num=n at*;generalize ak den=d at*;subst en ed
 have hcz:∀x:Nat,(fD x 1=0)↔x=1:=by
  intro x;unfold fD;split
  ·omega
  ·split<;>omega
 rw[xM,xM];simp only[hcz,Bool.true_and,Bool.and_true]
 rcases Nat.eq_zero_or_pos d with h0|h0
 ·subst h0;simp
 ·have hd0:¬d=0:=by omega
  simp only[h0,hd0,decide_true,decide_false,Bool.not_false,Bool.true_and]
  have hg:0<Nat.gcd n d:=Nat.gcd_pos_of_pos_right _ h0;by_cases hz:n=0
  ·subst hz;simp only[decide_true,if_true]
   have:low neg 0 d=⟨false,aC 0,aC 1⟩:=by unfold low;simp[Nat.div_self h0]
   rw[this,Bool.eq_iff_iff,decide_eq_true_eq,Bool.and_eq_true,decide_eq_true_eq];constructor
   ·intro h;injection h with h1 h2 h3;exact⟨by rw[<-h1];rfl,(C9 h3).symm⟩
   ·rintro⟨h1,h2⟩;cases neg
    ·rw[h2]
    ·cases h1
  ·simp only[hz,decide_false,Bool.false_eq_true,if_false]
   rw[decide_eq_decide];unfold low;constructor
   ·intro h;injection h with h1 h2 h3;have h4:=C9 h2;have h5:n / Nat.gcd n d*Nat.gcd n d=n:=Nat.div_mul_cancel (Nat.gcd_dvd_left n d);rw[h4] at h5;have h6:n*Nat.gcd n d=n*1:=by rw[h5,Nat.mul_one]
    exact Nat.eq_of_mul_eq_mul_left (by omega) h6
   ·intro h;rw[h,Nat.div_one,Nat.div_one];simp[hz]
theorem aax {a b:ByteArray} {K:Nat} (ha:a.size<=K) (hb:b.size<=K):(aC (Nat.gcd (ak a) (ak b))).size<=K:=by
 refine aY _ _ ?_;have h1:=bV a K ha;rcases Nat.eq_zero_or_pos (ak a) with h|h
 ·rw[h,Nat.gcd_zero_left];exact bV b K hb
 ·exact Nat.lt_of_le_of_lt (Nat.gcd_le_left _ h) h1
theorem yZ (a:Ra) (w:World) (hn:a.num.size<=536870912) (hd:a.den.size<=536870912):
  Calls prog 113 #[a.v] w fun e w'=>e=.returned (.bool (okR a))/\Below w.heap.size w w':=by
 have hV:=adV a;simp only[IJ] at hV;have k:(aC 1).size=1/\(aC (Nat.gcd (ak a.num) (ak a.den))).size<=536870912:=⟨by decide,aax hn hd⟩
 have c1:=JI (Ld:=bG) fun w _=>Gh a.num w
 have c2:=JI (Ld:=bG) fun w _=>Gh a.den w
 have c3:=cu (Ld:=bG) fun w _=>yB w
 have c4:=JI (Ld:=bG) fun w _=>vU a.den (aC 1) w (by omega) (by omega)
 have c5:=cu (Ld:=bG) fun w _=>Nb a.num a.den w (by omega) (by omega)
 have c6:=JI (Ld:=bG) fun w _=>vU (aC (Nat.gcd (ak a.num) (ak a.den))) (aC 1) w (by omega) (by omega)
 rw[hV];clear hV k;generalize dM a.num=r1 at*;generalize dM a.den=r2 at*;refine iF (Ld:=bG) (us:=[a.v]) ?_ w trivial;refine dh func113 fun X=>?_
 refine run ?_;refine dH [(.s 21,.s (.v (bP (!r1|| !r2||decide (a.den=⟨#[]⟩)))))] ?_;refine run ?_;refine bM (fun h=>?_) fun h=>?_
 ·refine run ?_;exact aF (hr:=congrArg bP (by revert h;cases r1<;>cases r2<;>simp+contextual))
 have h:r1=true/\r2=true/\decide (a.den=⟨#[]⟩)=false:=by revert h;cases r1<;>cases r2<;>simp
 rw[h.1,h.2.1,h.2.2];refine run ?_;refine aZ (fun h=>?_) fun h=>?_
 ·rw[decide_eq_true h,if_pos rfl];refine run ?_;refine dH [(.s 2,.s (.v (bP (!a.neg&&decide (fD (ak a.den) (ak (aC 1))=0)))))] ?_;refine run ?_;exact aF
 ·rw[decide_eq_false h,if_neg (by simp)];refine run ?_;exact aF
end
section
set_option maxRecDepth 100000
structure Three (w:World) (t1 t2 t3:TypeId) (l1 l2 l3:List Value) (W:World):Prop where
 one:aj W w.heap.size t1 l1
 two:aj W (w.heap.size+1) t2 l2
 three:aj W (w.heap.size+2) t3 l3
 below:Below w.heap.size w W
 size:W.heap.size=w.heap.size+3
theorem Three.new (w:World) (t1 t2 t3:TypeId) (cs1 cs2 cs3:Array Value):Three w t1 t2 t3 cs1.toList cs2.toList cs3.toList (((w.alloc (.cells cs1 t1)).alloc (.cells cs2 t2)).alloc (.cells cs3 t3)):=by
 obtain⟨h1,h2,h3,h4⟩:=Two.new w t1 t2 cs1 cs2;have k:=aj.new ((w.alloc (.cells cs1 t1)).alloc (.cells cs2 t2)) t3 cs3;rw[h4] at k;exact⟨h1.alloc _,h2.alloc _,k,h3.alloc (by omega) _,by show (Array.push _ _).size=_;rw[Array.size_push,h4]⟩
theorem jT (a:Ra) (w:World) (hn:a.num.size<=536870912) (hd:a.den.size<=536870912):
  Calls prog 120 #[a.v] w fun e w'=>e=.returned (dI a).v/\Below w.heap.size w w':=by
 have c1:=cu (Ld:=bG) fun w _=>yZ a w hn hd
 have c2:=cu (Ld:=bG) fun w _=>yB w
 have hV:dI a=if okR a then a else ⟨false,⟨#[]⟩,aC 1⟩:=rfl
 generalize dI a=v at*;refine iF (Ld:=bG) (us:=[a.v]) ?_ w trivial;refine dh func120 fun X=>?_
 refine run ?_;refine bM (fun h=>?_) fun h=>?_
 ·have h:¬okR a=true:=by simpa using h
  rw[if_neg h] at hV;subst hV;refine run ?_;exact aF
 ·have h:okR a=true:=by simpa using h
  rw[if_pos h] at hV;subst hV;refine run ?_;exact aF
theorem adW (n:Int) (w:World) (h0:-9223372036854775808<=n) (h1:n<=9223372036854775807):
  Calls prog 18 #[.int .i64 n] w fun e w'=>e=.returned (aK n).v/\Below w.heap.size w w':=by
 have c2:=cu (Ld:=bG) fun w _=>yB w
 refine iF (Ld:=bG) (us:=[.int .i64 n]) ?_ w trivial;by_cases h:0<=n
 ·have c1:=cu (Ld:=bG) fun w _=>oU n w h0 h1
  have e:aK n=⟨false,aC n.toNat,aC 1⟩:=by unfold aK;rw[decide_eq_false (by omega),show n.natAbs=n.toNat by omega]
  rw[e];refine dh func18 fun X=>?_
  refine run ?_;exact aF
 ·have hw:IntKind.i64.wrap (-(n+1))= -(n+1):=IntWalk.i64_in _ (by omega);have hv:IntKind.i64.wrap (n+1)=n+1:=IntWalk.i64_in _ (by omega);have c1:=cu (Ld:=bG) fun w _=>oU (-(n+1)) w (by omega) (by omega)
  have c3:=cu (Ld:=bG) fun w _=>MR (aC (-(n+1)).toNat) (aC 1) w (Nat.le_trans (aY _ 9 (by omega)) (by omega)) (Nat.le_trans (aY _ 9 (by omega)) (by omega))
  have e:aK n=⟨true,aC (ak (aC (-(n+1)).toNat)+ak (aC 1)),aC 1⟩:=by unfold aK;rw[aS,aS,decide_eq_true (by omega),show n.natAbs=(-(n+1)).toNat+1 by omega]
  rw[e];refine dh func18 fun X=>?_
  refine run ?_;exact aF
end
section
set_option maxRecDepth 100000
theorem aay {a:Ra} (h:okR a=true) (h0:a.num=⟨#[]⟩):a=aK 0:=by
 unfold okR at h;simp only[Bool.and_eq_true,decide_eq_true_eq] at h;obtain⟨⟨⟨h1,h2⟩,h3⟩,h4⟩:=h;rw[<-h4,h0];show low a.neg 0 _=_;unfold low;rw[Nat.gcd_zero_left,Nat.div_self h2];simp[aK]
theorem XV (a:Ra):dD a=if (dI a).num.toList.isEmpty then 0 else if (dI a).neg then-1 else 1:=by
 unfold dD dI;cases h:okR a
 ·simp only[Bool.false_eq_true,if_false]
  rw[if_pos (show (aK 0).num.toList.isEmpty=true from (rY _).2 rfl)]
 ·simp only[if_true]
  by_cases h0:a.num=⟨#[]⟩
  ·rw[if_pos ((rY _).2 h0),if_pos (aay h h0)]
  ·rw[if_neg (fun hh=>h0 ((rY _).1 hh)),if_neg (fun hh=>h0 (by rw[hh];rfl))]
theorem aaz (a:Ra):dM (dI a).den=true/\0<ak (dI a).den:=by
 unfold dI;split
 ·next h=>
  unfold okR at h;simp only[Bool.and_eq_true,decide_eq_true_eq] at h;exact⟨h.1.1.1,h.1.1.2⟩
 ·exact⟨by decide,by decide⟩
def negR (a:Ra):Ra:=if (dI a).num.toList.isEmpty then dI a else ⟨!(dI a).neg,(dI a).num,(dI a).den⟩
theorem JQ (a:Ra) (w:World) (hn:a.num.size<=536870912) (hd:a.den.size<=536870912):
  Calls prog 114 #[a.v] w fun e w'=>e=.returned (.int .i64 (dD a))/\Below w.heap.size w w':=by
 have c1:=cu (Ld:=bG) fun w _=>jT a w hn hd
 have hV:=XV a;rw[IJ] at hV;generalize dI a=v at*;rw[hV];clear hV;refine iF (Ld:=bG) (us:=[a.v]) ?_ w trivial;refine dh func114 fun X=>?_
 refine run ?_;refine aZ (fun h=>?_) fun h=>?_
 ·refine run ?_;exact aF (hr:=by rw[decide_eq_true h];rfl)
 rw[decide_eq_false h];refine run ?_;refine bM (fun h=>?_) fun h=>?_
 all_goals
  refine run ?_;exact aF (hr:=by rw[h];rfl)
theorem aaA (a:Ra) (w:World) (hn:a.num.size<=536870912) (hd:a.den.size<=536870912):
  Calls prog 215 #[a.v] w fun e w'=>e=.returned (negR a).v/\Below w.heap.size w w':=by
 have c1:=cu (Ld:=bG) fun w _=>jT a w hn hd
 have hV:negR a=if (dI a).num.toList.isEmpty then dI a else ⟨!(dI a).neg,(dI a).num,(dI a).den⟩:=rfl
 rw[IJ] at hV;generalize dI a=v at*;rw[hV];clear hV;refine iF (Ld:=bG) (us:=[a.v]) ?_ w trivial;refine dh func215 fun X=>?_
 refine run ?_;refine bM (fun h=>?_) fun h=>?_
 ·rw[if_neg (by simpa using h)];refine run ?_;exact aF
 ·rw[if_pos (by simpa using h)];refine run ?_;exact aF
theorem adX (d:ByteArray) (h:dM d=true) (b:Bool) (hb:decide (d=aC 1)=b):(fD (ak d) (ak (aC 1)) !=0)= !b:=by
 rw[<-hb,aS];have e:=(iH d).1 h
 have h1:(d=aC 1)↔ak d=1:=by
  constructor
  ·intro h;rw[h,aS]
  ·intro h;rw[h] at e;exact e
 simp only[h1]
 unfold fD;by_cases h2:ak d=1
 ·rw[h2];rfl
 ·simp only[h2,decide_false,Bool.not_false]
  split
  ·first|rfl|(exfalso;omega)
  ·split
   ·first|rfl|(exfalso;omega)
   ·first|rfl|(exfalso;omega)
theorem XW (a:Ra) (w:World) (hn:a.num.size<=1048576) (hd:a.den.size<=1048576):
  Calls prog 135 #[a.v] w fun e w'=>e=.returned (.string (aU a))/\Below w.heap.size w w':=by
 obtain⟨hvn,hvd⟩:=Bh a 1048576 (by omega) hn hd
 have hq:fD (ak (dI a).den) (ak (aC 1))=0↔(dI a).den=aC 1:=by
  have h:=congrArg not (adX (dI a).den (aaz a).1 _ rfl);rw[bne,Bool.not_not,Bool.not_not,Bool.beq_eq_decide_eq,decide_eq_decide] at h;exact h
 have c1:=cu (Ld:=bG) fun w _=>jT a w (by omega) (by omega)
 have c2:=cu (Ld:=bG) fun w _=>JC (dI a).num w hvn
 have c3:=cu (Ld:=bG) fun w _=>JC (dI a).den w hvd
 have c4:=cu (Ld:=bG) fun w _=>yB w
 have c5:=JI (Ld:=bG) fun w _=>vU (dI a).den (aC 1) w (by omega) (by decide)
 have z1:Sz (kP (ak (dI a).num)) 3145728:=⟨oW _ hvn⟩
 have z2:Sz (kP (ak (dI a).den)) 3145728:=⟨oW _ hvd⟩
 unfold aU;generalize dI a=v at*;generalize kP (ak v.num)=sn at*;generalize kP (ak v.den)=sd at*;generalize fD (ak v.den) (ak (aC 1))=q at*;dsimp only
 refine iF (Ld:=bG) (us:=[a.v]) ?_ w trivial;refine dh func135 fun X=>?_
 refine run ?_;refine qx [(.s 3,.s (.v (sP (if v.neg then ⟨#[45]⟩++sn else sn))))] ?_ ?_
 ·refine bM (fun h=>?_) fun h=>?_
  ·refine run ?_;exact fA (by rw[if_pos h];exact eP)
  ·refine run ?_;exact fA (by rw[if_neg (by rw[h];simp)];exact eP)
 have z3:Sz (if v.neg then ⟨#[45]⟩++sn else sn) 3145729:=by
  split
  ·exact Sz.up (Sz.add (Sz.lit _) z1) rfl
  ·exact Sz.up z1 rfl
 generalize (if v.neg then ⟨#[45]⟩++sn else sn)=s at*;refine run ?_;refine bM (fun h=>?_) fun h=>?_
 ·refine run ?_;exact aF (hr:=by rw[if_neg (fun e=>by simp[hq.2 e] at h),ByteArray.append_assoc])
 ·refine run ?_;exact aF (hr:=by rw[if_pos (hq.1 (by simpa using h))])
theorem XY (a:Ra) (w:World) (hn:a.num.size<=536870912) (hd:a.den.size<=536870912):
  Calls prog 116 #[a.v] w fun e w'=>e=.returned (.bool (bQ a))/\Below w.heap.size w w':=by
 have c1:=cu (Ld:=bG) fun w _=>yZ a w hn hd
 have c2:=JI (Ld:=bG) fun w _=>JB a.num w (by omega)
 have c3:=JI (Ld:=bG) fun w _=>JB a.den w (by omega)
 have hV:bQ a=(okR a&&decide ((gQ (ak a.num):Int)<=400)&&decide ((gQ (ak a.den):Int)<=400)):=by unfold bQ;congr 1;congr 1;exact decide_eq_decide.2 (by omega);exact decide_eq_decide.2 (by omega)
 rw[hV];clear hV;refine iF (Ld:=bG) (us:=[a.v]) ?_ w trivial;refine dh func116 fun X=>?_
 refine run ?_;refine dH [(.s 2,.s (.v (bP (okR a&&decide ((gQ (ak a.num):Int)<=400)&&decide ((gQ (ak a.den):Int)<=400)))))] ?_;refine run ?_;exact aF
end
def zvs (l:List Int):List Value:=l.map (Value.int .i64)
structure Dw (w:World) (D:Nat) (A:Option Addr) (n c:Nat) (L:List Int) (k:Nat):Prop where
 blk:aj w D 109 [.slice A n c,.int .i64 k]
 len:n=L.length
 max:n<=maxLen
 rd:Rd w A (zvs L)
 rng:∀x∈L,-9223372036854775808<=x/\x<=9223372036854775807
 ne:L≠[]->∀ad,A=some ad->ad.block≠D
 le:k<=n
def DS (w:World) (D u:Nat):Prop:=∃A n c L k,Dw w D A n c L k/\D<u/\(L≠[]->∀ad,A=some ad->ad.block<u)
theorem DS.lt {w:World} {D u:Nat} (h:DS w D u):D<w.heap.size:=by obtain⟨_,_,_,_,_,h,_⟩:=h;exact h.blk.lt
theorem DS.below {w w':World} {D u:Nat} (h:DS w D u) (hb:Below w.heap.size w w'):DS w' D u:=by
 obtain⟨A,n,c,L,k,h,hu⟩:=h;exact⟨A,n,c,L,k,⟨h.blk.below hb h.blk.lt,h.len,h.max,h.rd.below hb,h.rng,h.ne,h.le⟩,hu⟩
theorem DS.set {w:World} {D u B:Nat} (h:DS w D u) (hB:u<=B) (i:Nat) (x:Value):DS (w.setCell ⟨B,i,none⟩ x) D u:=by
 obtain⟨A,n,c,L,k,h,hu,ha⟩:=h;have ho:bW B w (w.setCell ⟨B,i,none⟩ x):=(bW.refl _ _).set i x;refine⟨A,n,c,L,k,⟨ho.blk h.blk (by omega),h.len,h.max,?_,h.rng,h.ne,h.le⟩,hu,ha⟩;rcases h.rd with h0|⟨b',off',e,hb,hc⟩
 ·exact .inl h0
 ·subst e;by_cases hL:L=[]
  ·exact .inl (by rw[hL];rfl)
  ·have h9:b'<u:=ha hL _ rfl;exact ho.rd (.inr ⟨b',off',rfl,hb,hc⟩) (by show b'≠B;omega)
end Go.Proofs.YtjpbmbgincdjaaaGreatDoor
