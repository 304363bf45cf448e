/- A part of the proof: En. -/
import Derived.Shelf.SlSortFuncK.RowK2
import Derived.Lib.SlicesCompact
import Derived.Test.YtbicehdehiakgaaGreatDoorG27
import Derived.Test.YtbicehdehiakgaaGreatDoorG33
set_option linter.unusedVariables false
set_option linter.unusedSimpArgs false
namespace Go.Proofs.YtbicehdehiakgaaGreatDoor
open Go.RowKit Go.Lib Go.Sort
instance instInhabitedNd:Inhabited Nd:=⟨⟨0,zR,⟨#[]⟩⟩⟩
theorem ndc_len (n:Nd):n.cells.length=5:=rfl
abbrev HoldsN (w:World) (g off:Nat) (d:Array Nd):Prop:=HoldsK Nd.cells 5 w g off d
theorem HoldsN.nd {w:World} {g off:Nat} {d:Array Nd} (h:HoldsN w g off d) {i:Nat} (hi:i<d.size):NdAt w g (off+i*5) d[i]!:=by
 have hc:∀c,c<5→w.cell? ⟨g,off+i*5+c,none⟩=some (d[i]!.cells)[c]!:=fun c hc=>(HoldsK.cell h hi hc).1
 exact⟨hc 0 (by omega),hc 1 (by omega),hc 2 (by omega),hc 3 (by omega),hc 4 (by omega)⟩
theorem HoldsN.froz {w:World} {g off:Nat} {d:Array Nd} (h:HoldsN w g off d) {i:Nat} (hi:i<d.size) (c:Nat) (hc:c<5):w.frozen? ⟨g,off+i*5+c,none⟩=false:=(HoldsK.cell h hi hc).2
theorem setMany_set (enc:Nd→List Value) (k:Nat) (hk:∀x,(enc x).length=k) (d:Array Nd) (i:Nat) (x:Nd) (hi:i<d.size):
  setMany (flatK enc k d) (i*k) (enc x)=flatK enc k (d.setIfInBounds i x):=by
 refine ext_get! (by simp) fun t ht=>?_
 have ht':t<d.size*k:=by simpa using ht
 have k0:0<k:=by rcases Nat.eq_zero_or_pos k with h|h;· subst h;simp at ht'
                 ·exact h
 rw[get_setMany _ _ _ t (by simpa using ht'),get_flatK _ _ _ t ht',get_flatK _ _ _ t (by simpa using ht'),hk];have m:∀q,t / k=q→t-q*k=t % k:=fun q h=>by subst h;rw[Nat.mod_eq_sub_div_mul]
 by_cases a:t / k=i
 ·rw[if_pos ((blk_iff k i t k0).2 a),m i a,a,getElem!_set_same d i x hi]
 ·rw[if_neg (fun h=>a ((blk_iff k i t k0).1 h)),getElem!_set_other d i _ x a]
theorem HoldsN.store {w:World} {g off:Nat} {d:Array Nd} (h:HoldsN w g off d) (i:Nat) (hi:i<d.size) (x:Nd):HoldsN (w.setCells g (off+i*5) x.cells) g off (d.setIfInBounds i x):=by
 have h1:=putRowK_self Nd.cells 5 w g off d h
 have h2:w.setCells g (off+i*5) x.cells=putRowK Nd.cells 5 w g off (d.setIfInBounds i x):=by
  conv=>lhs;rw[←h1]
  unfold putRowK;rw[setCells_putRow _ _ _ _ _ _ (by rw[ndc_len,size_flatK];omega),setMany_set Nd.cells 5 ndc_len d i x hi]
 rw[h2];exact holdsK_putRowK Nd.cells 5 w g off d _ h (by simp)
theorem onl_setCells {g:Nat} {w w':World} (h:Onl g w w') (vs:List Value) (o:Nat):Onl g w (w'.setCells g o vs):=by
 induction vs generalizing o w' with
 |nil=>exact h
 |cons v vs ih=>exact ih (h.set o v) (o+1)
theorem cell_setCells_lt (g:Nat) (vs:List Value) (o i:Nat) (hi:i<o) (w:World):(w.setCells g o vs).cell? ⟨g,i,none⟩=w.cell? ⟨g,i,none⟩:=by
 induction vs generalizing o w with
 |nil=>rfl
 |cons v vs ih=>
  rw[World.setCells,ih (o+1) (by omega),World.cell?_setCell_other _ _ _ _ (by simp;try omega)]
theorem compact_dd (es:List Nd) (m:Nat) (hm:m≤es.length):compactUpTo es.toArray m=dd (es.take m):=by
 induction m with
 |zero=>rfl
 |succ m ih=>
  have g:∀j (hj:j<es.length),es.toArray[j]! =es[j]:=fun j hj=>by rw[getElem!_pos es.toArray j (by simpa using hj)];simp
  rw[compactUpTo_succ,ih (by omega)];rcases Nat.eq_zero_or_pos m with h0|h0
  ·subst h0;cases es with
   |nil=>simp at hm
   |cons a es=>
    rw[if_pos (by simp[keeps])];rfl
  ·rw[dd_succ es m h0 (by omega)];by_cases he:es[m]=es[m-1]
   ·rw[if_pos he,keeps_neg h0 (by rw[g m (by omega),g (m-1) (by omega),he])];simp
   ·rw[if_neg he,keeps_pos (by rw[g m (by omega),g (m-1) (by omega)];exact he),g m (by omega)];simp
theorem clear_at (g o n c:Nat) (hn:0<n) (w:World) (hc:∀j,j<n*5→(w.cell? ⟨g,o+j,none⟩).isSome=true) (hf:∀j,j<n*5→w.frozen? ⟨g,o+j,none⟩=false):
  ∃vs,∀ty,(Builtin.clear_ #[22] ty #[.slice (some ⟨g,o,none⟩) n c]).run Tryz.prog w=.ok (.tuple #[]) (w.setCells g o vs):=by
 have hz:∀w,(zeroValue 33).run Tryz.prog w=.ok (.agg #[.int .i64 0,.bool false,.string ⟨#[]⟩,.string ⟨#[]⟩,.string ⟨#[]⟩]) w:=Tryz.zeroValue33;obtain⟨vs,hvs⟩:∃vs,vs=(Builtin.zeroCells (Value.agg #[.int .i64 0,.bool false,.string ⟨#[]⟩,.string ⟨#[]⟩,.string ⟨#[]⟩]).cells n).toList:=⟨_,rfl⟩
 have hl:vs.length=n*5:=by rw[hvs];simp[Builtin.zeroCells,Value.cells]
 have h1:∀v∈vs,v.oneCell'=true:=by
  intro v hv;rw[hvs] at hv;simp only[Builtin.zeroCells,Array.toList_map,List.mem_map,Array.toList_range,List.mem_range] at hv;obtain⟨i,_,rfl⟩:=hv;have h5:i % 5<5:=Nat.mod_lt _ (by omega);show ((#[.int .i64 0,.bool false,.string ⟨#[]⟩,.string ⟨#[]⟩,.string ⟨#[]⟩]:Array Value)[i % 5]!).oneCell'=true;generalize i % 5=m at*;rcases (by omega:m=0∨m=1∨m=2∨m=3∨m=4) with rfl|rfl|rfl|rfl|rfl<;>rfl
 have hst:=run_storeCells_cells (P:=Tryz.prog) g o vs 0 w (fun j hj=>by rw[Nat.add_zero];exact hc j (by omega)) (fun j hj=>by rw[Nat.add_zero];exact hf j (by omega)) h1;rw[Nat.add_zero] at hst;refine⟨vs,fun ty=>?_⟩;obtain⟨m,rfl⟩:∃m,n=m+1:=⟨n-1,by omega⟩
 simp[Builtin.clear_,run_underlying Tryz.underlying22,hz,←hvs,hst]
def CompPost (d:Array Nd) (g off cap:Nat) (w:World) (e:Ending) (w':World):Prop:=
 e=.returned (.slice (some ⟨g,off,none⟩) (compactUpTo d d.size).length cap)∧(∃dk:Array Nd,(∀j,j<(compactUpTo d d.size).length→(compactUpTo d d.size)[j]?=some dk[j]!∧NdAt w' g (off+j*5) dk[j]!))∧Onl g w w'
set_option maxRecDepth 100000 in
set_option maxHeartbeats 6400000 in
theorem compactN_at (g off cap:Nat) (d:Array Nd) (w:World) (hH:HoldsN w g off d) (hsz:d.size≤60) (hcap:d.size≤cap) (hcm:cap≤maxLen):
  Calls Tryz.prog 64 #[.slice (some ⟨g,off,none⟩) d.size cap] w (CompPost d g off cap w):=by
 unfold maxLen at hcm
 have hall0:Hid (∀w',HoldsN w' g off d→Onl g w w'→(∀j,j<d.size→keeps d j=true)→CompPost d g off cap w (.returned (.slice (some ⟨g,off,none⟩) d.size cap)) w'):=by
  intro w' hw ho hall;have e:compactUpTo d d.size=d.toList:=by rw[compactUpTo_all d _ hall,range_map_get]
  have el:(compactUpTo d d.size).length=d.size:=by rw[e];simp
  refine⟨by rw[el],⟨d,fun j hj=>?_⟩,ho⟩;rw[el] at hj;refine⟨?_,hw.nd hj⟩;rw[e,getElem!_pos d j hj];simp[hj]
 by_cases h2:d.size<2
 ·have HH:=Lib.hid hH;have h2':(d.size:Int)<2:=by omega
  clear hH;go_enter Tryz.func64,Tryz.ntmps64;go_wp2;go_ret;exact hall0.out _ HH.out (Onl.refl _ _) (fun j hj=>keeps_lt_one d j (by omega))
 ·have HH:=Lib.hid hH;clear hH;go_enter Tryz.func64,Tryz.ntmps64;go_wp2
  go_loopg [3] d.size (fun gh s3 wr=>∃k:Nat,1≤k∧k≤d.size∧d.size-k≤gh∧s3=.int .i64 k∧Hid (HoldsN wr g off d∧Onl g w wr)∧Hid (∀j,j<k→keeps d j=true))
  case atStart=>exact⟨1,Nat.le_refl _,by omega,by omega,rfl,⟨HH.out,Onl.refl _ _⟩,keeps_lt_one d⟩
  case round=>
   obtain⟨k,hk1,hk,hg,rfl,hw,hall⟩:=hrel;by_cases hlt:k<d.size
   ·obtain⟨x0,x1,x2,x3,x4⟩:=hw.out.1.nd hlt;obtain⟨y0,y1,y2,y3,y4⟩:=hw.out.1.nd (i:=k-1) (by omega);have hq:=fun W=>eql_nd d[k]! d[k-1]! W
    generalize hx:d[k]! =x at*;generalize hy:d[k-1]! =y at*;have B:Hid (d[k]! =x∧d[k-1]! =y):=⟨hx,hy⟩
    clear hx hy;obtain⟨dq,hdd⟩:∃dq,decide (x=y)=dq:=⟨_,rfl⟩
    rw[hdd] at hq;have HDD:=Lib.hid hdd;clear hdd;obtain⟨op,⟨neg,num,den⟩,nm⟩:=x;obtain⟨op',⟨neg',num',den'⟩,nm'⟩:=y;unfold Nd.v at hq;simp only at x0 x1 x2 x3 x4 y0 y1 y2 y3 y4 hq;have hk64:(k:Int)-1=((k-1:Nat):Int):=by omega
    cases dq
    ·have hne:(⟨op,⟨neg,num,den⟩,nm⟩:Nd)≠⟨op',⟨neg',num',den'⟩,nm'⟩:=of_decide_eq_false HDD.out
     have HNX:Hid (∀j,j<k+1→keeps d j=true):=fun j hj=>by
      by_cases e:j=k
      ·rw[e];exact keeps_pos (by rw[B.out.1,B.out.2];exact hne)
      ·exact hall.out j (by omega)
     clear hne;go_wp2;go_quiet (fail);go_wp2
     go_roundg (d.size-(k+1))
     case measure=>omega
     case rel=>exact⟨k+1,by omega,by omega,Nat.le_refl _,by go_num,⟨hw.out.1,hw.out.2.drewN _⟩,HNX⟩
    ·have heq:(⟨op,⟨neg,num,den⟩,nm⟩:Nd)=⟨op',⟨neg',num',den'⟩,nm'⟩:=of_decide_eq_true HDD.out;have HST:Hid (CompInv d (k+1) k d):=CompInv.start hall.out (keeps_neg (by omega) (by rw[B.out.1,B.out.2];exact heq));clear heq;go_wp2;go_quiet (fail);go_wp2;clear x0 x1 x2 x3 x4 y0 y1 y2 y3 y4 hq hk64
     go_loopg [3,5] d.size (fun gh s3 s5 wq=>∃(kk k2:Nat) (dk:Array Nd),s3=.int .i64 kk∧s5=.int .i64 k2∧1≤k2∧k+k2≤d.size∧d.size-(k+k2)≤gh∧Hid (HoldsN wq g off dk∧Onl g w wq)∧Hid (CompInv d (k+k2) kk dk))
     case atStart=>exact⟨k,1,d,rfl,rfl,Nat.le_refl _,by omega,by omega,⟨hw.out.1,hw.out.2.drewN _⟩,HST⟩
     case round=>
      obtain⟨kk,k2,dk,rfl,rfl,h1,hle,hg2,hw2,hI⟩:=hrel;have hkk:=hI.out.lt;have hds:=hI.out.size;by_cases hlt2:k+k2<d.size
      ·obtain⟨x0,x1,x2,x3,x4⟩:=hw2.out.1.nd (i:=k+k2) (by omega);obtain⟨y0,y1,y2,y3,y4⟩:=hw2.out.1.nd (i:=k+k2-1) (by omega);obtain⟨z0,z1,z2,z3,z4⟩:=hw2.out.1.nd (i:=kk) (by omega);have f0:=hw2.out.1.froz (i:=kk) (by omega) 0 (by omega);have f1:=hw2.out.1.froz (i:=kk) (by omega) 1 (by omega);have f2:=hw2.out.1.froz (i:=kk) (by omega) 2 (by omega);have f3:=hw2.out.1.froz (i:=kk) (by omega) 3 (by omega);have f4:=hw2.out.1.froz (i:=kk) (by omega) 4 (by omega);simp only[Nat.add_zero] at f0;rw[hI.out.high (k+k2) (by omega)] at x0 x1 x2 x3 x4;rw[hI.out.high (k+k2-1) (by omega)] at y0 y1 y2 y3 y4;have ha1:off+(k+k2)*5=off+k*5+k2*5:=by omega
       have ha2:off+(k+k2-1)*5=off+k*5+(k2-1)*5:=by omega
       rw[ha1] at x0 x1 x2 x3 x4;rw[ha2] at y0 y1 y2 y3 y4;have hq:=fun W=>neq_nd d[k+k2]! d[k+k2-1]! W
       generalize hu:d[k+k2]! =u at*;generalize hv:d[k+k2-1]! =v at*;generalize dk[kk]! =old at*;have C:Hid (d[k+k2]! =u∧d[k+k2-1]! =v):=⟨hu,hv⟩
       clear hu hv ha1 ha2;obtain⟨dq,hdd⟩:∃dq,decide (u=v)=dq:=⟨_,rfl⟩
       rw[hdd] at hq;have HD2:=Lib.hid hdd;clear hdd
       have HU:Hid (dq=false→CompInv d (k+k2+1) (kk+1) (dk.setIfInBounds kk u)):=fun hd=>by
        have h:=hI.out.keep hlt2 (keeps_pos (by rw[C.out.1,C.out.2];exact of_decide_eq_false (HD2.out.trans hd)));rwa[C.out.1] at h
       have HV:Hid (dq=true→CompInv d (k+k2+1) kk dk):=fun hd=>hI.out.skip (keeps_neg (by omega) (by rw[C.out.1,C.out.2];exact of_decide_eq_true (HD2.out.trans hd)))
       have HSTO:=Lib.hid (hw2.out.1.store kk (by omega) u);have HONL:=Lib.hid (fun o=>onl_setCells hw2.out.2 u.cells o);obtain⟨op,⟨neg,num,den⟩,nm⟩:=u;obtain⟨op',⟨neg',num',den'⟩,nm'⟩:=v;obtain⟨op2,⟨neg2,num2,den2⟩,nm2⟩:=old;unfold Nd.v at hq;unfold Nd.cells at HSTO HONL;simp only at x0 x1 x2 x3 x4 y0 y1 y2 y3 y4 z0 z1 z2 z3 z4 hq HSTO HONL;have hk64:(k2:Int)-1=((k2-1:Nat):Int):=by omega
       cases dq
       ·go_wp2;go_quiet (fail);go_wp2
        go_roundg (d.size-(k+(k2+1)))
        case measure=>omega
        case rel=>exact⟨kk+1,k2+1,dk.setIfInBounds kk ⟨op,⟨neg,num,den⟩,nm⟩,by go_num,by go_num,by omega,by omega,Nat.le_refl _,⟨HSTO.out,(HONL.out _).drewN _⟩,HU.out (by simp)⟩
       ·go_wp2;go_quiet (fail);go_wp2
        go_roundg (d.size-(k+(k2+1)))
        case measure=>omega
        case rel=>exact⟨kk,k2+1,dk,rfl,by go_num,by omega,by omega,Nat.le_refl _,⟨hw2.out.1,hw2.out.2.drewN _⟩,HV.out (by simp)⟩
      ·have hend:k+k2=d.size:=by omega
       have hfl:∀j,j<(d.size-kk)*5→(wr.cell? ⟨g,off+kk*5+j,none⟩).isSome=true∧wr.frozen? ⟨g,off+kk*5+j,none⟩=false:=fun j hj=>by
        have h:=hw2.out.1 (kk*5+j) (by rw[size_flatK];omega);rw[←Nat.add_assoc] at h;exact⟨by rw[h.1];rfl,h.2⟩
       obtain⟨vs,hcl⟩:=clear_at g (off+kk*5) (d.size-kk) (cap-kk) (by omega) wr (fun j hj=>(hfl j hj).1) (fun j hj=>(hfl j hj).2)
       have HPO:Hid (CompPost d g off cap w (.returned (.slice (some ⟨g,off,none⟩) kk cap)) (wr.setCells g (off+kk*5) vs)):=by
        have hI2:=hI.out;rw[hend] at hI2;refine⟨by rw[hI2.len],⟨dk,fun j hj=>?_⟩,onl_setCells hw2.out.2 _ _⟩;rw[hI2.len] at hj;obtain⟨n0,n1,n2,n3,n4⟩:=hw2.out.1.nd (i:=j) (by omega);refine⟨hI2.low j hj,?_,?_,?_,?_,?_⟩
        ·rw[cell_setCells_lt _ _ _ _ (by omega)];exact n0
        ·rw[cell_setCells_lt _ _ _ _ (by omega)];exact n1
        ·rw[cell_setCells_lt _ _ _ _ (by omega)];exact n2
        ·rw[cell_setCells_lt _ _ _ _ (by omega)];exact n3
        ·rw[cell_setCells_lt _ _ _ _ (by omega)];exact n4
       clear hfl;go_wp2;go_ret;exact HPO.out
   ·have hke:k=d.size:=by omega
    subst hke;go_wp2;go_ret;exact hall0.out _ hw.out.1 hw.out.2 (fun j hj=>hall.out j hj)
end Go.Proofs.YtbicehdehiakgaaGreatDoor
