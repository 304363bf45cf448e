/- A part of the proof: R9 R10. -/
import Derived.Test.YtimokmplkpbmdaaGreatDoorQ08
set_option linter.all false
set_option maxRecDepth 100000
set_option maxHeartbeats 0
namespace Go.Proofs.YtimokmplkpbmdaaGreatDoor
open Go.RowKit
section
variable {P:Program}
theorem qW {w:World} (base:Nat) (t ty e:TypeId) (i:TypeInfo) (size:Nat) (ht:P.underlying t=some (.slice e)) (hi:P.info? e=some i)
  (v:Value) (n:Nat) (xs:List Value) (hown:w.ownsRow base e size v n xs) (c:Nat):
  (Builtin.append_ #[t,t] ty #[v,.slice none 0 c]).run P w=.ok v w:=by
 rcases hown.2 with⟨rfl,rfl⟩|⟨g,cap,cur,rfl,_,_,hnc,_⟩
 ·simp[Builtin.append_,run_underlying ht,sizeOf,typeInfo,hi,Builtin.lenOf,Builtin.firstCells]
 ·simp[Builtin.append_,run_underlying ht,sizeOf,typeInfo,hi,Builtin.lenOf,Builtin.firstCells,hnc,storeCells]
theorem qh (w:World) {ops:Array Oper} {rest:List Oper} {o:Oper} {a:Act} {Q:Exit->Act->World->Prop} (hgd:o.guard=none) (s x:Operand) (t:TypeId)
  (ho:o.op=.call {callee:=.builtin .append,args:=#[s,x],argTypes:=#[t,t]})
  (base:Nat) (e:TypeId) (z:Value) (size bytes:Nat) (ht:P.underlying t=some (.slice e)) (hinfo:(P.info? e).map (fun i=>(i.zero,i.size,i.bytes))=some (some z,size,bytes)) (hzs:z.cells.size=size) (hsz:0<size)
  (v:Value) (n:Nat) (xs:List Value) (hs:a.eval s=v) (hown:w.ownsRow base e size v n xs)
  (A:Option Addr) (m c:Nat) (news:List Value) (hx:a.eval x=.slice A m c) (hr:Rd w A news) (hl:news.length=m*size) (h1:∀u∈news,u.oneCell'=true)
  (h63:n+m<=maxLen) (hbytes:(n+m)*bytes<=140737488355328) (hbase:base<=w.heap.size)
  (h:∀v' w',w'.ownsRow base e size v' (n+m) (xs++news)->Below base w w'->wpList P ops Q rest (a.put o.dst v') w'):
  wpList P ops Q (o::rest) a w:=by
 obtain⟨i,hi,hzz⟩:=Option.map_eq_some_iff.1 hinfo;simp only[Prod.mk.injEq] at hzz;obtain⟨hz,hs1,hb⟩:=hzz
 have hk:∀v' w',w'.ownsRow base e size v' (n+m) (xs++news)->w.grownBy w' v.ownBlock->(v'=.slice none 0 0↔v=.slice none 0 0/\m=0)->wpList P ops Q rest (a.put o.dst v') w':=
  fun v' w' h2 h3 _=>h v' w' h2 ((Below.refl _ _).grown h3 hbase (fun k hk=>(hown.lt k hk).1))
 rcases hr with rfl|⟨b,off,rfl,_,hc⟩
 ·obtain rfl:m=0:=by
   rcases Nat.eq_zero_or_pos m with h0|h0
   ·exact h0
   ·have:=Nat.mul_pos h0 hsz;simp at hl;omega
  cases A with
  |none=>
   refine wpList_plain hgd fun K hK=>?_
   have hrun:=qW (P:=P) (w:=w) base t o.type e i size ht hi v n xs hown c;unfold Oper.wp;simp[execOp,ho,resolve,invoke,builtin,hs,hx,hrun,Result.andThen];exact hK _ _ (h v w (by simpa using hown) (Below.refl _ _))
  |some ad=>
   exact wpList_append_own (w:=w) hgd s x t ho base e i z size bytes ht hi hz hs1 hb hzs hsz v n xs hs hown ad 0 c [] hx hl (by intro j u hj;simp at hj) h1 h63 hbytes hbase hk
 ·refine wpList_append_own (w:=w) hgd s x t ho base e i z size bytes ht hi hz hs1 hb hzs hsz v n xs hs hown ⟨b,off,none⟩ m c news hx hl ?_ h1 h63 hbytes hbase hk;intro j u hj;have hj':j<news.length:=(List.getElem?_eq_some_iff.1 hj).1;rw[show Addr.add ⟨b,off,none⟩ j=⟨b,off+j,none⟩ from by unfold Addr.add;split<;>simp_all,hc j hj',<-(List.getElem?_eq_some_iff.1 hj).2]
end
theorem af5 (xs:List Nat):∀u∈I xs,u.oneCell'=true:=by
 intro u hu;obtain⟨n,_,rfl⟩:=List.mem_map.1 hu;rfl
theorem VN (a b:ByteArray) (w:World) (hb:b.size<=1073741824) (h0:ay b=0):
  Calls Tryz.prog 178 #[.string a,.string b] w (BK (ay a) (ay b) w):=by
 have HC:=zH (fZ b w (by omega));have hs0:(aC 0).size=0:=rfl;rw[h0] at HC⊢;go_enter Tryz.func178,Tryz.ntmps178;go_wp2_with fail;refine HC.out.mono ?_;rintro e w' ⟨rfl,rfl⟩;go_wp2;refine bodyPost_ret (results_tmp3 rfl _ _ _) rfl ?_;exact⟨rfl,Below.refl _ _⟩
theorem SL (a b:ByteArray) (w:World) (ha:a.size<=1073741824) (hb:b.size<=1073741824) (h0:0<ay b) (h1:ay a<256 ^ 7) (h2:ay b<256 ^ 7):
  Calls Tryz.prog 178 #[.string a,.string b] w (BK (ay a) (ay b) w):=by
 have HC:=zH (fZ b w (by omega));have hsz:(aC (ay b)).size<=b.size:=aZ _ _ (fF b);have wH:=zH (lF a 7 w (by omega) (by omega) 7 rfl);have ny:=zH (lF (aC (ay b)) 7 w (by omega) (by omega) 7 rfl)
 have hne:0<(aC (ay b)).size:=by
  have:=F5 _ (show ay b≠0 by omega);exact List.length_pos_iff.2 this
 have d1:decide (ay a<256 ^ 7)=true:=by simpa using h1
 have d2:decide (ay b<256 ^ 7)=true:=by simpa using h2
 have hv:ay (aC (ay b))=ay b:=bJ _;rw[hv] at ny;rw[d1] at wH;rw[d2] at ny;have h1':ay a<72057594037927936:=h1;have h2':ay b<72057594037927936:=h2;clear d1 d2 h1 h2 hv;obtain⟨t,ht⟩:=zF (aC (ay b));rw[ht] at HC hsz ny hne;clear ht;generalize ay a=n at*;generalize ay b=m at*;obtain⟨B,hB⟩:=zE w.heap.size;have HB:=zH hB;clear hB;have q0:(0:Int)<=(n:Int) / m:=by rw[<-Int.natCast_ediv];exact Int.natCast_nonneg _
 have q1:(n:Int) / m<=72057594037927936:=by rw[<-Int.natCast_ediv];have:=Nat.div_le_self n m;omega
 have q2:(0:Int)<=(n:Int) % m:=by rw[<-Int.natCast_emod];exact Int.natCast_nonneg _
 have q3:(n:Int) % m<=72057594037927936:=by rw[<-Int.natCast_emod];have:=Nat.mod_lt n h0;omega
 have Q0:-9223372036854775808<=(n:Int) / m:=by omega
 have Q1:(n:Int) / m<=9223372036854775807:=by omega
 have Q2:-9223372036854775808<=(n:Int) % m:=by omega
 have Q3:(n:Int) % m<=9223372036854775807:=by omega
 have t1:(n:Int).tdiv m=(n:Int) / m:=Int.tdiv_eq_ediv_of_nonneg (by omega);have t2:(n:Int).tmod m=(n:Int) % m:=Int.tmod_eq_emod_of_nonneg (by omega);have p0:¬(m=0):=by omega
 have w1:IntKind.i64.wrap ((n:Int) / m)=(n:Int) / m:=IntWalk.i64_in _ (by omega);have w2:IntKind.i64.wrap ((n:Int) % m)=(n:Int) % m:=IntWalk.i64_in _ (by omega);go_enter Tryz.func178,Tryz.ntmps178;go_wp2_with fail;refine HC.out.mono ?_;rintro e w' ⟨rfl,rfl⟩;go_wp2_with fail;refine wH.out.mono ?_;rintro e w' ⟨rfl,rfl⟩;go_wp2_with fail;refine ny.out.mono ?_;rintro e w' ⟨rfl,rfl⟩;go_wp2_with fail
 go_region_held3 (fun w'=>Below w.heap.size w w') (first|exact below_drewN (Below.refl _ _) 1|exact ah (by assumption) hb1)
  ((go_at_call 46;refine (qF _ _ (by omega) (by omega)).mono ?_;rintro e w1 ⟨rfl,hb1⟩))
 all_goals
  go_wp2;refine bodyPost_ret (results_tmp3 rfl _ _ _) rfl ?_;refine⟨?_,by assumption⟩;rw[if_neg p0,if_neg p0,show ((n:Int) / m).toNat=n / m from by rw[<-Int.natCast_ediv];exact Int.toNat_natCast _,show ((n:Int) % m).toNat=n % m from by rw[<-Int.natCast_emod];exact Int.toNat_natCast _,show (m !=0)=true from by simp[p0]];rfl
theorem yP {w:World} {base:Nat} {e:TypeId} {size:Nat} {v:Value} {n:Nat} {xs:List Value} (h:w.ownsRow base e size v n xs):
  ∃A cap,v=.slice A n cap/\n<=cap/\cap<=maxLen/\Rd w A xs/\∀ad,A=some ad->base<=ad.block:=by
 obtain⟨A,cap,rfl,h1,h2,h3,h4⟩:=bY h;refine⟨A,cap,rfl,h1,h2,h3,?_⟩;rcases h.2 with⟨h',_⟩|⟨g,cap',cur,h',hb,_⟩
 ·injection h' with h';subst h';intro ad h;cases h
 ·injection h' with h';subst h';intro ad h;injection h with h;subst h;exact hb
theorem iZ.dG {w w':World} {A:Option Addr} {len cap n G:Nat} (h:iZ w A len cap n) (ho:aF G w w') (hG:∀ad,A=some ad->ad.block≠G):iZ w' A len cap n:=by
 obtain⟨l,m,xs,e,r,c,v⟩:=h;refine⟨l,m,xs,e,?_,c,v⟩;rcases r with r|⟨b,off,rfl,hb,hc⟩
 ·exact .inl r
 ·exact ho.rd (.inr ⟨b,off,rfl,hb,hc⟩) (hG _ rfl)
theorem VO (a b:ByteArray) (w:World) (ha:a.size<=1073741824) (hb:b.size<=1073741824) (h0:0<ay b) (hsm:¬(ay a<256 ^ 7/\ay b<256 ^ 7)):
  Calls Tryz.prog 178 #[.string a,.string b] w (BK (ay a) (ay b) w):=by
 have HC:=zH (fZ b w (by omega));have hsz:(aC (ay b)).size<=b.size:=aZ _ _ (fF b);have wH:=zH (lF a 7 w (by omega) (by omega) 7 rfl);have ny:=zH (lF (aC (ay b)) 7 w (by omega) (by omega) 7 rfl)
 have hne:0<(aC (ay b)).size:=by
  have:=F5 _ (show ay b≠0 by omega);exact List.length_pos_iff.2 this
 have hv:ay (aC (ay b))=ay b:=bJ _;rw[hv] at ny;have hnot:¬(decide (ay a<256 ^ 7)=true/\decide (ay b<256 ^ 7)=true):=by simpa using hsm
 obtain⟨da,hda⟩:∃d,decide (ay a<256 ^ 7)=d:=⟨_,rfl⟩
 obtain⟨db,hdb⟩:∃d,decide (ay b<256 ^ 7)=d:=⟨_,rfl⟩
 rw[hda] at wH hnot;rw[hdb] at ny hnot;have hcase:(da=false/\db=false)∨(da=false/\db=true)∨(da=true/\db=false):=by cases da<;>cases db<;>simp_all
 obtain⟨t,ht⟩:=zF (aC (ay b));rw[ht] at HC hsz ny hne hv;have HVT:=zH hv;have hva:=fF a;have hvb:=fF t;have HVA:=zH hva;have HVB:=zH hvb;clear ht hsm hda hdb hnot hv hva hvb;obtain⟨B,hB⟩:=zE w.heap.size;have HB:=zH hB;have hBw:B<=w.heap.size:=by omega
 clear hB;have VP:∀w,Calls Tryz.prog 99 #[.string a] w (yM w (ay a)):=fun w=>vZ a w ha
 have VQ:∀w,Calls Tryz.prog 99 #[.string t] w (yM w (ay b)):=fun w=>by rw[<-HVT.out];exact vZ t w (by omega)
 have ROA:=zH VP;have ROB:=zH VQ;rw[HVT.out] at HVB;clear VP VQ HVT;generalize ay a=n at*;generalize ay b=m at*;rcases hcase with⟨rfl,rfl⟩|⟨rfl,rfl⟩|⟨rfl,rfl⟩
 all_goals
  go_enter Tryz.func178,Tryz.ntmps178;go_wp2_with fail;refine HC.out.mono ?_;rintro e w' ⟨rfl,rfl⟩;go_wp2_with fail;refine wH.out.mono ?_;rintro e w' ⟨rfl,rfl⟩;go_wp2_with fail;refine ny.out.mono ?_;rintro e w' ⟨rfl,rfl⟩;go_wp2_with fail;refine (ROA.out _).mono ?_;rintro e w1 ⟨A,len,c1,rfl,h1,hb1⟩;have hl1:=h1.ig HVA.out;have H1:=zH h1;clear h1;go_wp2_with fail;refine (ROB.out _).mono ?_;rintro e w2 ⟨A',len',c2,rfl,h2,hb2⟩;have hl2:=h2.ig HVB.out;have H2:=zH h2;clear h2;obtain⟨_,_,xs,e1,r1,k1,v1⟩:=H1.out.below hb2;have mM:=ah hb1 hb2;rw[<-HB.out] at mM;have hB2:B<=w2.heap.size:=Nat.le_trans hBw mM.size;have E1:=zH e1;have V1:=zH v1;have C1:=zH k1;have R1:=zH r1;clear e1 v1 k1 r1 hb1 hb2;go_wp2_with (at_make;refine dO _ rfl _ _ 108 rfl 3 (.int .i64 0) 8 Tryz.underlying108 gQ rfl _ _ _ _ len rfl rfl ?_ ?_ (by omega) (by omega) ?_)
  ·omega
  ·omega
  intro w3 hblk hb3;obtain⟨G,HG⟩:∃G,Hid (G=w2.heap.size):=⟨_,rfl⟩
  rw[<-HG.out] at hblk hb3⊢;have HK:=zH hblk;have hG3:G+1<=w3.heap.size:=hblk.lt;clear hblk;go_wp2_with fail
  go_loopw [15,14] (fun iv rv wr=>∃(k r:Nat) (qs:List Nat) (A1:Option Addr) (l1 cp1:Nat),k<=len/\r<m/\iv=.int .i64 ((k:Int)-1)/\rv=.slice A1 l1 cp1/\Hid (iZ wr A1 l1 cp1 r)/\Hid (qs.length=len-k)/\
    Hid (aj wr G 3 (I (List.replicate k 0++qs)))/\Hid (∀x∈qs,x<2 ^ 24)/\Hid (val (2 ^ 24) (xs.drop k)=val (2 ^ 24) qs*m+r)/\Below G w2 wr/\G+1<=wr.heap.size) (fun i _ _=>(intOf i+1).toNat)
  case atStart=>
   refine⟨len,0,[],none,0,0,by omega,h0,by go_num,rfl,?_,by show _=_;simp,by have:=HK.out;show aj _ _ _ _;simpa [I] using this,by show ∀x∈_,_;simp,?_,hb3,hG3⟩
   ·exact⟨Nat.le_refl _,by unfold maxLen;omega,[],rfl,.inl rfl,Canon.nil _,rfl⟩
   ·show _=_;rw[List.drop_eq_nil_of_le (by rw[E1.out];omega)];simp[val]
  case round=>
   obtain⟨k,r,qs,A1,l1,cp1,hk,hr,rfl,rfl,hlim,hq,hbk,Eh,hv,hbw,hGs⟩:=hrel;by_cases hk0:0<k
   ·obtain⟨k,rfl⟩:∃j,k=j+1:=⟨k-1,by omega⟩
    have hr1:Rd wr A (I xs):=R1.out.below (by rw[<-HG.out];exact hbw);obtain⟨b',off,rfl,hbb,hcell⟩:=hr1.i (k:=k) (by rw[E1.out];omega);have x0:xs.getD k 0<16777216:=aT (by omega) C1.out.lt k;have HS:=zH (FZ (2 ^ 24) m k xs qs r (by rw[E1.out];omega) hv.out);clear hr1;generalize xs.getD k 0=x at*;have hrl:=hlim.out.ig (K:=b.size) (Nat.lt_of_lt_of_le (Nat.lt_trans hr HVB.out) (Nat.pow_le_pow_right (by omega) hsz));have hxm:r*2 ^ 24+x<m*16777216:=by have h:r+1<=m:=hr;have:=Nat.mul_le_mul_right 16777216 h;omega
    obtain⟨_,_,rs,e3,r3,k3,v3⟩:=hlim.out;have E3:=zH e3;have V3:=zH v3;have C3:=zH k3;have R3:=zH r3;have hG1:G<wr.heap.size:=by omega
    have hba:Below wr.heap.size wr (wr.alloc (.cells #[.int .i64 (x:Int)] 3)):=(Below.refl _ _).alloc (Nat.le_refl _) _;have aY:=zH hba;have ho:=World.ownsRow_lit (base:=wr.heap.size) (e:=3) (size:=1) wr #[.int .i64 (x:Int)] 1 (Nat.le_refl _) (by unfold maxLen;omega) rfl;have HO:=zH ho;clear e3 v3 k3 r3 hlim hba ho;go_wp2_with (at_builtin;go_must (refine qh (wr.alloc (.cells #[.int .i64 (x:Int)] 3)) rfl _ _ 108 rfl wr.heap.size 3 (.int .i64 0) 1 8 Tryz.underlying108 gQ rfl (by decide) (.slice (some ⟨wr.heap.size,0,none⟩) 1 1) 1 _ (by rfl) HO.out A1 l1 cp1 (I rs) (by rfl) (R3.out.below aY.out) (by rw[iY,E3.out];omega) (af5 _) (by unfold maxLen;omega) (by omega) (by simp) ?_));intro v' w4 hown4 hb4;have SN:=aY.out.trans hb4;obtain⟨A4,cap4,rfl,g1,g2,g3,g4⟩:=yP hown4;have hAG:Hid (∀ad,A4=some ad->ad.block≠G):=fun ad h=>by have:=g4 ad h;omega
    have G3:Hid (Rd w4 A4 (I (x::rs))):=g3;clear g3 g4 hown4 hb4 aY HO;have Zb:Below G w2 w4:=hbw.trans (SN.mono (Nat.le_of_lt hG1));have hG4:G+1<=w4.heap.size:=Nat.le_trans hG1 SN.size;go_wp2_with fail;refine (BD _ _ _ (x::rs) _ (by rw[List.length_cons,E3.out];omega) g1 (Nat.le_trans g1 g2) G3.out).mono ?_;rintro e w5 ⟨rfl,rfl⟩;have hh:=iZ.kE (by rw[List.length_cons,E3.out];omega) g1 g2 G3.out (by intro y hy;rcases List.mem_cons.1 hy with rfl|hy;exact x0;exact C3.out.lt y hy);rw[show val (2 ^ 24) (x::rs)=r*2 ^ 24+x from by rw[val,V3.out];omega] at hh;obtain⟨X,HX⟩:∃X,Hid (r*2 ^ 24+x=X):=⟨r*2 ^ 24+x,by show _=_;rfl⟩
    rw[HX.out] at hh HS hxm;obtain⟨l4,hl4⟩:=zF (trimLen (x::rs) (1+l1));rw[hl4] at hh⊢;have akG:l4<=1+l1:=by rw[<-hl4];exact trimLen_le _ _
    have H4:=zH hh;have h2w:iZ w4 A' len' c2 m:=H2.out.below (by rw[<-HG.out];exact Zb);have H5:=zH h2w;have adN:aj w4 G 3 (I (List.replicate (k+1) 0++qs)):=hbk.out.below SN hG1;have LV:=zH adN;clear hh hl4 h2w adN hbk SN R3 G3;go_wp2_with fail;refine (LU _ _ _ _ _ _ _ _ _ H4.out H5.out).mono ?_;rintro e w6 ⟨z,rfl,z1,z2,hb6⟩;have Z1:=zH z1;have Z2:=zH z2;clear z1 z2;by_cases hz:0<=z
    ·have hmX:m<=X:=by
      rcases Nat.lt_or_ge X m with h|h
      ·have:=Z1.out.2 h;omega
      ·exact h
     go_wp2_with fail;refine (SH _ _ _ _ _ _ _ _ _ (H4.out.below hb6) (H5.out.below hb6) (by omega) hxm).mono ?_;rintro e w7 ⟨rfl,adO,hb7⟩;have SQ:=ah hb6 hb7;have ahR:G<w4.heap.size:=hG4;have SY:aj w7 G 3 (I (List.replicate (k+1) 0++qs)):=LV.out.below SQ ahR;have hfz:=SY.frozen k;obtain⟨u,hu⟩:∃u,w7.cell? ⟨G,k,none⟩=some u:=⟨_,SY.cell (by simp[iY,hq.out];omega)⟩
     obtain⟨q,hqq⟩:∃q,Hid (X / m=q):=⟨_,rfl⟩
     rw[hqq.out] at adO HS⊢;have hset:=SY.set k (.int .i64 ((q:Nat):Int));have abn:aF G w7 (w7.setCell ⟨G,k,none⟩ (.int .i64 ((q:Nat):Int))):=(aF.refl G w7).set _ _
     have hcs:(w7.setCell ⟨G,k,none⟩ (.int .i64 ((q:Nat):Int))).cell? ⟨G,k,none⟩=some (.int .i64 ((q:Nat):Int)):=by
      have:=hset.cell (i:=k) (by simp[iY,hq.out];omega);rw[this];simp
     rw[SI,xH k 0 qs 0 q] at hset;have Sr:Below G w2 w7:=Zb.trans (SQ.mono (by omega));have LP:Below G w2 (w7.setCell ⟨G,k,none⟩ (.int .i64 ((q:Nat):Int))):=Sr.setCell (Nat.le_refl _) _;have hG8:G+1<=(w7.setCell ⟨G,k,none⟩ (.int .i64 ((q:Nat):Int))).heap.size:=hset.lt;have h7s:iZ (w7.setCell ⟨G,k,none⟩ (.int .i64 ((q:Nat):Int))) A' len' c2 m:=H2.out.below (by rw[<-HG.out];exact LP);have h8s:iZ (w7.setCell ⟨G,k,none⟩ (.int .i64 ((q:Nat):Int))) A4 l4 cap4 X:=(H4.out.below SQ).dG abn hAG.out;obtain⟨w8,hw8⟩:=zF (w7.setCell ⟨G,k,none⟩ (.int .i64 ((q:Nat):Int)));have adQ:=zH hset;have H7:=zH h7s;have H8:=zH h8s;have hcs':=hcs;rw[hw8] at adQ H7 H8 LP hG8 hcs;clear hset h7s h8s abn SY SQ hb6 hb7 Sr;go_wp2_with fail;refine (Gt A' len' c2 m q _ _ rfl H7.out (by omega) adO).mono ?_;rintro e w9 ⟨A9,l9,c9,rfl,h9,gW⟩;have H9:=zH h9;clear h9;have hmul:m*q<=X:=by rw[<-hqq.out];exact Nat.mul_div_le _ _
     go_wp2_with fail;refine (SG _ _ _ _ _ _ _ _ _ (H8.out.below gW) H9.out (by omega) hmul).mono ?_;rintro e wa ⟨Aa,la,ca,rfl,ha',hba⟩
     have hmod:X-m*q=X % m:=by
      have h1:=Nat.div_add_mod X m;rw[hqq.out] at h1;omega
     rw[hmod] at ha';have HA:=zH ha';have Zc:=ah gW hba;clear ha' gW hba hcs hcs' hw8 hu hfz;go_wp2
     go_roundw
     case rel=>
      refine⟨k,X % m,q::qs,Aa,la,ca,by omega,Nat.mod_lt _ h0,by first|rfl|(congr 1<;>omega),rfl,HA.out,by show _=_;simp[hq.out];omega,adQ.out.below Zc hG8,?_,HS.out,LP.trans (Zc.mono (by omega)),Nat.le_trans hG8 Zc.size⟩;show ∀x∈_,_;intro y hy;rcases List.mem_cons.1 hy with rfl|hy
      ·omega
      ·exact Eh.out y hy
     case measure=>simp[intOf]<;>omega
    ·have hXm:X<m:=Z1.out.1 (by omega);go_wp2
     go_roundw
     case rel=>
      refine⟨k,X,0::qs,A4,l4,cap4,by omega,hXm,by first|rfl|(congr 1<;>omega),rfl,H4.out.below hb6,by show _=_;simp[hq.out];omega,?_,?_,?_,Zb.trans (hb6.mono (by omega)),Nat.le_trans hG4 hb6.size⟩
      ·show aj _ _ _ _;have:=LV.out.below hb6 (show G<w4.heap.size from hG4);rw[show List.replicate k 0++0::qs=List.replicate (k+1) 0++qs from by rw[List.replicate_succ',List.append_assoc];rfl];exact this
      ·show ∀x∈_,_;intro y hy;rcases List.mem_cons.1 hy with rfl|hy
       ·omega
       ·exact Eh.out y hy
      ·show _=_;have:=HS.out;rwa[Nat.div_eq_of_lt hXm,Nat.mod_eq_of_lt hXm] at this
     case measure=>simp[intOf]<;>omega
   ·obtain rfl:k=0:=by omega
    have hbk0:=hbk.out;rw[List.replicate_zero,List.nil_append] at hbk0;have LV:=zH hbk0;clear hbk hbk0;have h5:=hv.out;rw[List.drop_zero,V1.out] at h5;have h6:n / m=val (2 ^ 24) qs:=by rw[h5,Nat.mul_comm,Nat.mul_add_div h0,Nat.div_eq_of_lt hr,Nat.add_zero]
    have h7:n % m=r:=by rw[h5,Nat.mul_comm,Nat.mul_add_mod,Nat.mod_eq_of_lt hr]
    have HD:=zH h6;have HM:=zH h7;clear h5 h6 h7;go_wp2_with fail;refine (tY _ _ _ qs _ (by rw[hq.out];omega) (Nat.le_refl _) (by omega) LV.out.rd Eh.out).mono ?_;rintro e w7 ⟨rfl,hb7⟩;have hlr:=hlim.out.below hb7;have hrl:=hlr.ig (K:=b.size) (Nat.lt_of_lt_of_le (Nat.lt_trans hr HVB.out) (Nat.pow_le_pow_right (by omega) hsz));obtain⟨q1,_,rs,e3,r3,k3,v3⟩:=hlr;have R3:=zH r3;have C3:=zH k3;have E3:=zH e3;have V3:=zH v3;clear r3 k3 e3 v3 hlim;go_wp2_with fail;refine (tY _ _ _ rs _ E3.out q1 (by omega) R3.out C3.out.lt).mono ?_;rintro e w8 ⟨rfl,hb8⟩;go_wp2;refine bodyPost_ret (results_tmp3 rfl _ _ _) rfl ?_;refine⟨?_,?_⟩
    ·have p0:¬(m=0):=by omega
     rw[if_neg p0,if_neg p0,HD.out,HM.out,V3.out,show (m !=0)=true from by simp[p0]];rfl
    ·have h5:Below B w wr:=mM.trans (hbw.mono (by rw[HG.out];exact hB2));have h6:=h5.trans ((ah hb7 hb8).mono (Nat.le_trans hBw h5.size));rw[<-HB.out];exact h6
end Go.Proofs.YtimokmplkpbmdaaGreatDoor
