/- Part: R9 R10. -/
import Derived.Test.YtjpbmbgincdjaaaGreatDoorK08
set_option linter.all false
set_option maxRecDepth 100000
set_option maxHeartbeats 0
namespace Go.Proofs.YtjpbmbgincdjaaaGreatDoor
open Go.RowKit List World Tryz
section
variable {P:Program}
theorem yS {w:World} (base:Nat) (t ty e:TypeId) (i:TypeInfo) (size:Nat) (ht:P.underlying t=some (.slice e)) (hi:P.info? e=some i)
  (v:Value) (n:Nat) (xs:List Value) (hown:w.ownsRow base e size v n xs) (c:Nat):
  (Builtin.append_ #[t,t] ty #[v,.slice none 0 c]).run P w=.ok v w:=by
 rcases hown.2 with⟨rfl,rfl⟩|⟨g,cap,cur,rfl,_,_,hnc,_⟩
 ·simp[Builtin.append_,run_underlying ht,sizeOf,typeInfo,hi,Builtin.lenOf,Builtin.firstCells]
 ·simp[Builtin.append_,run_underlying ht,sizeOf,typeInfo,hi,Builtin.lenOf,Builtin.firstCells,hnc,storeCells]
theorem Ey (w:World) {ops:Array Oper} {rest:List Oper} {o:Oper} {a:Act} {Q:Exit->Act->World->Prop} (hgd:o.guard=none) (s x:Operand) (t:TypeId)
  (ho:o.op=.call {callee:=.builtin .append,args:=#[s,x],argTypes:=#[t,t]})
  (base:Nat) (e:TypeId) (z:Value) (size bytes:Nat) (ht:P.underlying t=some (.slice e)) (hinfo:(P.info? e).map (fun i=>(i.zero,i.size,i.bytes))=some (some z,size,bytes)) (hzs:z.cells.size=size) (hsz:0<size)
  (v:Value) (n:Nat) (xs:List Value) (hs:a.eval s=v) (hown:w.ownsRow base e size v n xs)
  (A:Option Addr) (m c:Nat) (news:List Value) (hx:a.eval x=.slice A m c) (hr:Rd w A news) (hl:news.length=m*size) (h1:∀u∈news,u.oneCell'=true)
  (h63:n+m<=maxLen) (hbytes:(n+m)*bytes<=140737488355328) (hbase:base<=w.heap.size)
  (h:∀v' w',w'.ownsRow base e size v' (n+m) (xs++news)->Below base w w'->wpList P ops Q rest (a.put o.dst v') w'):
  wpList P ops Q (o::rest) a w:=by
 obtain⟨i,hi,hzz⟩:=Option.map_eq_some_iff.1 hinfo;simp only[Prod.mk.injEq] at hzz;obtain⟨hz,hs1,hb⟩:=hzz
 have hk:∀v' w',w'.ownsRow base e size v' (n+m) (xs++news)->w.grownBy w' v.ownBlock->(v'=.slice none 0 0↔v=.slice none 0 0/\m=0)->wpList P ops Q rest (a.put o.dst v') w':=
  fun v' w' h2 h3 _=>h v' w' h2 ((Below.refl _ _).grown h3 hbase (fun k hk=>(hown.lt k hk).1))
 rcases hr with rfl|⟨b,off,rfl,_,hc⟩
 ·obtain rfl:m=0:=by
   rcases Nat.eq_zero_or_pos m with h0|h0
   ·exact h0
   ·have:=Nat.mul_pos h0 hsz;simp at hl;omega
  cases A with
  |none=>
   refine wpList_plain hgd fun K hK=>?_
   have hrun:=yS (P:=P) (w:=w) base t o.type e i size ht hi v n xs hown c;unfold Oper.wp;simp[execOp,ho,resolve,invoke,builtin,hs,hx,hrun,Result.andThen];exact hK _ _ (h v w (by simpa using hown) (Below.refl _ _))
  |some ad=>
   exact wpList_append_own (w:=w) hgd s x t ho base e i z size bytes ht hi hz hs1 hb hzs hsz v n xs hs hown ad 0 c [] hx hl (by intro j u hj;simp at hj) h1 h63 hbytes hbase hk
 ·refine wpList_append_own (w:=w) hgd s x t ho base e i z size bytes ht hi hz hs1 hb hzs hsz v n xs hs hown ⟨b,off,none⟩ m c news hx hl ?_ h1 h63 hbytes hbase hk;intro j u hj;have hj':j<news.length:=(List.getElem?_eq_some_iff.1 hj).1;rw[show Addr.add ⟨b,off,none⟩ j=⟨b,off+j,none⟩ from by unfold Addr.add;split<;>simp_all,hc j hj',<-(List.getElem?_eq_some_iff.1 hj).2]
end
theorem aii (xs:List Nat):∀u∈I xs,u.oneCell'=true:=by
 intro u hu;obtain⟨n,_,rfl⟩:=mem_map.1 hu;rfl
theorem Xv (a b:ByteArray) (w:World) (hb:b.size<=1073741824) (h0:ak b=0):
  Calls prog 172 #[.string a,.string b] w (AQ (ak a) (ak b) w):=by
 have HC:=zH (fO b w (by omega));have hs0:(aC 0).size=0:=rfl;rw[h0] at HC⊢;go_enter func172,ntmps172;go_wp2_with fail;refine HC.out.mono ?_;rintro e w' ⟨rfl,rfl⟩;go_wp2;refine bodyPost_ret (results_tmp3 rfl _ _ _) rfl ?_;exact⟨rfl,Below.refl _ _⟩
theorem UJ (a b:ByteArray) (w:World) (ha:a.size<=1073741824) (hb:b.size<=1073741824) (h0:0<ak b) (h1:ak a<256 ^ 7) (h2:ak b<256 ^ 7):
  Calls prog 172 #[.string a,.string b] w (AQ (ak a) (ak b) w):=by
 have HC:=zH (fO b w (by omega));have hsz:(aC (ak b)).size<=b.size:=aY _ _ (fE b);have vV:=zH (lT a 7 w (by omega) (by omega) 7 rfl);have nI:=zH (lT (aC (ak b)) 7 w (by omega) (by omega) 7 rfl)
 have hne:0<(aC (ak b)).size:=by
  have:=CW _ (show ak b≠0 by omega);exact length_pos_iff.2 this
 have d1:decide (ak a<256 ^ 7)=true:=by simpa using h1
 have d2:decide (ak b<256 ^ 7)=true:=by simpa using h2
 have hv:ak (aC (ak b))=ak b:=aS _;rw[hv] at nI;rw[d1] at vV;rw[d2] at nI;have h1':ak a<72057594037927936:=h1;have h2':ak b<72057594037927936:=h2;clear d1 d2 h1 h2 hv;obtain⟨t,ht⟩:=zF (aC (ak b));rw[ht] at HC hsz nI hne;clear ht;generalize ak a=n at*;generalize ak b=m at*;obtain⟨B,hB⟩:=zE w.heap.size;have HB:=zH hB;clear hB;have q0:(0:Int)<=(n:Int) / m:=by rw[<-Int.natCast_ediv];exact Int.natCast_nonneg _
 have q1:(n:Int) / m<=72057594037927936:=by rw[<-Int.natCast_ediv];have:=Nat.div_le_self n m;omega
 have q2:(0:Int)<=(n:Int) % m:=by rw[<-Int.natCast_emod];exact Int.natCast_nonneg _
 have q3:(n:Int) % m<=72057594037927936:=by rw[<-Int.natCast_emod];have:=Nat.mod_lt n h0;omega
 have Q0:-9223372036854775808<=(n:Int) / m:=by omega
 have Q1:(n:Int) / m<=9223372036854775807:=by omega
 have Q2:-9223372036854775808<=(n:Int) % m:=by omega
 have Q3:(n:Int) % m<=9223372036854775807:=by omega
 have t1:(n:Int).tdiv m=(n:Int) / m:=Int.tdiv_eq_ediv_of_nonneg (by omega);have t2:(n:Int).tmod m=(n:Int) % m:=Int.tmod_eq_emod_of_nonneg (by omega);have p0:¬(m=0):=by omega
 have w1:IntKind.i64.wrap ((n:Int) / m)=(n:Int) / m:=IntWalk.i64_in _ (by omega);have w2:IntKind.i64.wrap ((n:Int) % m)=(n:Int) % m:=IntWalk.i64_in _ (by omega);go_enter func172,ntmps172;go_wp2_with fail;refine HC.out.mono ?_;rintro e w' ⟨rfl,rfl⟩;go_wp2_with fail;refine vV.out.mono ?_;rintro e w' ⟨rfl,rfl⟩;go_wp2_with fail;refine nI.out.mono ?_;rintro e w' ⟨rfl,rfl⟩;go_wp2_with fail
 go_region_held3 (fun w'=>Below w.heap.size w w') (first|exact below_drewN (Below.refl _ _) 1|exact ah (by assumption) hb1)
  ((go_at_call 43;refine (oU _ _ (by omega) (by omega)).mono ?_;rintro e w1 ⟨rfl,hb1⟩))
 all_goals
  go_wp2;refine bodyPost_ret (results_tmp3 rfl _ _ _) rfl ?_;refine⟨?_,by assumption⟩;rw[if_neg p0,if_neg p0,show ((n:Int) / m).toNat=n / m from by rw[<-Int.natCast_ediv];exact Int.toNat_natCast _,show ((n:Int) % m).toNat=n % m from by rw[<-Int.natCast_emod];exact Int.toNat_natCast _,show (m !=0)=true from by simp[p0]];rfl
theorem yj {w:World} {base:Nat} {e:TypeId} {size:Nat} {v:Value} {n:Nat} {xs:List Value} (h:w.ownsRow base e size v n xs):
  ∃A cap,v=.slice A n cap/\n<=cap/\cap<=maxLen/\Rd w A xs/\∀ad,A=some ad->base<=ad.block:=by
 obtain⟨A,cap,rfl,h1,h2,h3,h4⟩:=dK h;refine⟨A,cap,rfl,h1,h2,h3,?_⟩;rcases h.2 with⟨h',_⟩|⟨g,cap',cur,h',hb,_⟩
 ·injection h' with h';subst h';intro ad h;cases h
 ·injection h' with h';subst h';intro ad h;injection h with h;subst h;exact hb
theorem jq.lJ {w w':World} {A:Option Addr} {len cap n G:Nat} (h:jq w A len cap n) (ho:bW G w w') (hG:∀ad,A=some ad->ad.block≠G):jq w' A len cap n:=by
 obtain⟨l,m,xs,e,r,c,v⟩:=h;refine⟨l,m,xs,e,?_,c,v⟩;rcases r with r|⟨b,off,rfl,hb,hc⟩
 ·exact .inl r
 ·exact ho.rd (.inr ⟨b,off,rfl,hb,hc⟩) (hG _ rfl)
theorem Xw (a b:ByteArray) (w:World) (ha:a.size<=1073741824) (hb:b.size<=1073741824) (h0:0<ak b) (hsm:¬(ak a<256 ^ 7/\ak b<256 ^ 7)):
  Calls prog 172 #[.string a,.string b] w (AQ (ak a) (ak b) w):=by
 have HC:=zH (fO b w (by omega));have hsz:(aC (ak b)).size<=b.size:=aY _ _ (fE b);have vV:=zH (lT a 7 w (by omega) (by omega) 7 rfl);have nI:=zH (lT (aC (ak b)) 7 w (by omega) (by omega) 7 rfl)
 have hne:0<(aC (ak b)).size:=by
  have:=CW _ (show ak b≠0 by omega);exact length_pos_iff.2 this
 have hv:ak (aC (ak b))=ak b:=aS _;rw[hv] at nI;have hnot:¬(decide (ak a<256 ^ 7)=true/\decide (ak b<256 ^ 7)=true):=by simpa using hsm
 obtain⟨da,hda⟩:∃d,decide (ak a<256 ^ 7)=d:=⟨_,rfl⟩
 obtain⟨db,hdb⟩:∃d,decide (ak b<256 ^ 7)=d:=⟨_,rfl⟩
 rw[hda] at vV hnot;rw[hdb] at nI hnot;have hcase:(da=false/\db=false)∨(da=false/\db=true)∨(da=true/\db=false):=by cases da<;>cases db<;>simp_all
 obtain⟨t,ht⟩:=zF (aC (ak b));rw[ht] at HC hsz nI hne hv;have HVT:=zH hv;have hva:=fE a;have hvb:=fE t;have HVA:=zH hva;have HVB:=zH hvb;clear ht hsm hda hdb hnot hv hva hvb;obtain⟨B,hB⟩:=zE w.heap.size;have HB:=zH hB;have hBw:B<=w.heap.size:=by omega
 clear hB;have Xx:∀w,Calls prog 104 #[.string a] w (x9 w (ak a)):=fun w=>qH a w ha
 have Xy:∀w,Calls prog 104 #[.string t] w (x9 w (ak b)):=fun w=>by rw[<-HVT.out];exact qH t w (by omega)
 have ROA:=zH Xx;have ROB:=zH Xy;rw[HVT.out] at HVB;clear Xx Xy HVT;generalize ak a=n at*;generalize ak b=m at*;rcases hcase with⟨rfl,rfl⟩|⟨rfl,rfl⟩|⟨rfl,rfl⟩
 all_goals
  go_enter func172,ntmps172;go_wp2_with fail;refine HC.out.mono ?_;rintro e w' ⟨rfl,rfl⟩;go_wp2_with fail;refine vV.out.mono ?_;rintro e w' ⟨rfl,rfl⟩;go_wp2_with fail;refine nI.out.mono ?_;rintro e w' ⟨rfl,rfl⟩;go_wp2_with fail;refine (ROA.out _).mono ?_;rintro e w1 ⟨A,len,c1,rfl,h1,hb1⟩;have hl1:=h1.gB HVA.out;have H1:=zH h1;clear h1;go_wp2_with fail;refine (ROB.out _).mono ?_;rintro e w2 ⟨A',len',c2,rfl,h2,hb2⟩;have hl2:=h2.gB HVB.out;have H2:=zH h2;clear h2;obtain⟨_,_,xs,e1,r1,k1,v1⟩:=H1.out.below hb2;have lM:=ah hb1 hb2;rw[<-HB.out] at lM;have hB2:B<=w2.heap.size:=Nat.le_trans hBw lM.size;have E1:=zH e1;have V1:=zH v1;have C1:=zH k1;have R1:=zH r1;clear e1 v1 k1 r1 hb1 hb2;go_wp2_with (at_make;refine dS _ rfl _ _ 106 rfl 3 (.int .i64 0) 8 underlying106 gZ rfl _ _ _ _ len rfl rfl ?_ ?_ (by omega) (by omega) ?_)
  ·omega
  ·omega
  intro w3 hblk hb3;obtain⟨G,HG⟩:∃G,Hid (G=w2.heap.size):=⟨_,rfl⟩
  rw[<-HG.out] at hblk hb3⊢;have HK:=zH hblk;have hG3:G+1<=w3.heap.size:=hblk.lt;clear hblk;go_wp2_with fail
  go_loopw [15,14] (fun iv rv wr=>∃(k r:Nat) (qs:List Nat) (A1:Option Addr) (l1 cp1:Nat),k<=len/\r<m/\iv=.int .i64 ((k:Int)-1)/\rv=.slice A1 l1 cp1/\Hid (jq wr A1 l1 cp1 r)/\Hid (qs.length=len-k)/\
    Hid (aj wr G 3 (I (List.replicate k 0++qs)))/\Hid (∀x∈qs,x<2 ^ 24)/\Hid (val (2 ^ 24) (xs.drop k)=val (2 ^ 24) qs*m+r)/\Below G w2 wr/\G+1<=wr.heap.size) (fun i _ _=>(intOf i+1).toNat)
  case atStart=>
   refine⟨len,0,[],none,0,0,by omega,h0,by go_num,rfl,?_,by show _=_;simp,by have:=HK.out;show aj _ _ _ _;simpa [I] using this,by show ∀x∈_,_;simp,?_,hb3,hG3⟩
   ·exact⟨Nat.le_refl _,by unfold maxLen;omega,[],rfl,.inl rfl,Canon.nil _,rfl⟩
   ·show _=_;rw[drop_eq_nil_of_le (by rw[E1.out];omega)];simp[val]
  case round=>
   obtain⟨k,r,qs,A1,l1,cp1,hk,hr,rfl,rfl,hlim,hq,hbk,DR,hv,hbw,hGs⟩:=hrel;by_cases hk0:0<k
   ·obtain⟨k,rfl⟩:∃j,k=j+1:=⟨k-1,by omega⟩
    have hr1:Rd wr A (I xs):=R1.out.below (by rw[<-HG.out];exact hbw);obtain⟨b',off,rfl,hbb,hcell⟩:=hr1.i (k:=k) (by rw[E1.out];omega);have x0:xs.getD k 0<16777216:=aP (by omega) C1.out.lt k;have HS:=zH (FH (2 ^ 24) m k xs qs r (by rw[E1.out];omega) hv.out);clear hr1;generalize xs.getD k 0=x at*;have hrl:=hlim.out.gB (K:=b.size) (Nat.lt_of_lt_of_le (Nat.lt_trans hr HVB.out) (Nat.pow_le_pow_right (by omega) hsz));have hxm:r*2 ^ 24+x<m*16777216:=by have h:r+1<=m:=hr;have:=Nat.mul_le_mul_right 16777216 h;omega
    obtain⟨_,_,rs,e3,r3,k3,v3⟩:=hlim.out;have E3:=zH e3;have V3:=zH v3;have C3:=zH k3;have R3:=zH r3;have hG1:G<wr.heap.size:=by omega
    have hba:Below wr.heap.size wr (wr.alloc (.cells #[.int .i64 (x:Int)] 3)):=(Below.refl _ _).alloc (Nat.le_refl _) _;have bZ:=zH hba;have ho:=ownsRow_lit (base:=wr.heap.size) (e:=3) (size:=1) wr #[.int .i64 (x:Int)] 1 (Nat.le_refl _) (by unfold maxLen;omega) rfl;have HO:=zH ho;clear e3 v3 k3 r3 hlim hba ho;go_wp2_with (at_builtin;go_must (refine Ey (wr.alloc (.cells #[.int .i64 (x:Int)] 3)) rfl _ _ 106 rfl wr.heap.size 3 (.int .i64 0) 1 8 underlying106 gZ rfl (by decide) (.slice (some ⟨wr.heap.size,0,none⟩) 1 1) 1 _ (by rfl) HO.out A1 l1 cp1 (I rs) (by rfl) (R3.out.below bZ.out) (by rw[jo,E3.out];omega) (aii _) (by unfold maxLen;omega) (by omega) (by simp) ?_));intro v' w4 hown4 hb4;have UK:=bZ.out.trans hb4;obtain⟨A4,cap4,rfl,g1,g2,g3,g4⟩:=yj hown4;have hAG:Hid (∀ad,A4=some ad->ad.block≠G):=fun ad h=>by have:=g4 ad h;omega
    have G3:Hid (Rd w4 A4 (I (x::rs))):=g3;clear g3 g4 hown4 hb4 bZ HO;have aap:Below G w2 w4:=hbw.trans (UK.mono (Nat.le_of_lt hG1));have hG4:G+1<=w4.heap.size:=Nat.le_trans hG1 UK.size;go_wp2_with fail;refine (AA _ _ _ (x::rs) _ (by rw[length_cons,E3.out];omega) g1 (Nat.le_trans g1 g2) G3.out).mono ?_;rintro e w5 ⟨rfl,rfl⟩;have hh:=jq.kE (by rw[length_cons,E3.out];omega) g1 g2 G3.out (by intro y hy;rcases mem_cons.1 hy with rfl|hy;exact x0;exact C3.out.lt y hy);rw[show val (2 ^ 24) (x::rs)=r*2 ^ 24+x from by rw[val,V3.out];omega] at hh;obtain⟨X,HX⟩:∃X,Hid (r*2 ^ 24+x=X):=⟨r*2 ^ 24+x,by show _=_;rfl⟩
    rw[HX.out] at hh HS hxm;obtain⟨l4,hl4⟩:=zF (trimLen (x::rs) (1+l1));rw[hl4] at hh⊢;have aoN:l4<=1+l1:=by rw[<-hl4];exact trimLen_le _ _
    have H4:=zH hh;have h2w:jq w4 A' len' c2 m:=H2.out.below (by rw[<-HG.out];exact aap);have H5:=zH h2w;have afp:aj w4 G 3 (I (List.replicate (k+1) 0++qs)):=hbk.out.below UK hG1;have MV:=zH afp;clear hh hl4 h2w afp hbk UK R3 G3;go_wp2_with fail;refine (MS _ _ _ _ _ _ _ _ _ H4.out H5.out).mono ?_;rintro e w6 ⟨z,rfl,z1,z2,hb6⟩;have Z1:=zH z1;have Z2:=zH z2;clear z1 z2;by_cases hz:0<=z
    ·have hmX:m<=X:=by
      rcases Nat.lt_or_ge X m with h|h
      ·have:=Z1.out.2 h;omega
      ·exact h
     go_wp2_with fail;refine (UG _ _ _ _ _ _ _ _ _ (H4.out.below hb6) (H5.out.below hb6) (by omega) hxm).mono ?_;rintro e w7 ⟨rfl,MW,hb7⟩;have UL:=ah hb6 hb7;have akx:G<w4.heap.size:=hG4;have UM:aj w7 G 3 (I (List.replicate (k+1) 0++qs)):=MV.out.below UL akx;have hfz:=UM.frozen k;obtain⟨u,hu⟩:∃u,w7.cell? ⟨G,k,none⟩=some u:=⟨_,UM.cell (by simp[jo,hq.out];omega)⟩
     obtain⟨q,hqq⟩:∃q,Hid (X / m=q):=⟨_,rfl⟩
     rw[hqq.out] at MW HS⊢;have hset:=UM.set k (.int .i64 ((q:Nat):Int));have acs:bW G w7 (w7.setCell ⟨G,k,none⟩ (.int .i64 ((q:Nat):Int))):=(bW.refl G w7).set _ _
     have hcs:(w7.setCell ⟨G,k,none⟩ (.int .i64 ((q:Nat):Int))).cell? ⟨G,k,none⟩=some (.int .i64 ((q:Nat):Int)):=by
      have:=hset.cell (i:=k) (by simp[jo,hq.out];omega);rw[this];simp
     rw[UH,wU k 0 qs 0 q] at hset;have Ux:Below G w2 w7:=aap.trans (UL.mono (by omega));have MP:Below G w2 (w7.setCell ⟨G,k,none⟩ (.int .i64 ((q:Nat):Int))):=Ux.setCell (Nat.le_refl _) _;have hG8:G+1<=(w7.setCell ⟨G,k,none⟩ (.int .i64 ((q:Nat):Int))).heap.size:=hset.lt;have h7s:jq (w7.setCell ⟨G,k,none⟩ (.int .i64 ((q:Nat):Int))) A' len' c2 m:=H2.out.below (by rw[<-HG.out];exact MP);have h8s:jq (w7.setCell ⟨G,k,none⟩ (.int .i64 ((q:Nat):Int))) A4 l4 cap4 X:=(H4.out.below UL).lJ acs hAG.out;obtain⟨w8,hw8⟩:=zF (w7.setCell ⟨G,k,none⟩ (.int .i64 ((q:Nat):Int)));have afr:=zH hset;have H7:=zH h7s;have H8:=zH h8s;have hcs':=hcs;rw[hw8] at afr H7 H8 MP hG8 hcs;clear hset h7s h8s acs UM UL hb6 hb7 Ux;go_wp2_with fail;refine (Gi A' len' c2 m q _ _ rfl H7.out (by omega) MW).mono ?_;rintro e w9 ⟨A9,l9,c9,rfl,h9,fP⟩;have H9:=zH h9;clear h9;have hmul:m*q<=X:=by rw[<-hqq.out];exact Nat.mul_div_le _ _
     go_wp2_with fail;refine (Gj _ _ _ _ _ _ _ _ _ (H8.out.below fP) H9.out (by omega) hmul).mono ?_;rintro e wa ⟨Aa,la,ca,rfl,ha',hba⟩
     have hmod:X-m*q=X % m:=by
      have h1:=Nat.div_add_mod X m;rw[hqq.out] at h1;omega
     rw[hmod] at ha';have HA:=zH ha';have aaq:=ah fP hba;clear ha' fP hba hcs hcs' hw8 hu hfz;go_wp2
     go_roundw
     case rel=>
      refine⟨k,X % m,q::qs,Aa,la,ca,by omega,Nat.mod_lt _ h0,by first|rfl|(congr 1<;>omega),rfl,HA.out,by show _=_;simp[hq.out];omega,afr.out.below aaq hG8,?_,HS.out,MP.trans (aaq.mono (by omega)),Nat.le_trans hG8 aaq.size⟩;show ∀x∈_,_;intro y hy;rcases mem_cons.1 hy with rfl|hy
      ·omega
      ·exact DR.out y hy
     case measure=>simp[intOf]<;>omega
    ·have hXm:X<m:=Z1.out.1 (by omega);go_wp2
     go_roundw
     case rel=>
      refine⟨k,X,0::qs,A4,l4,cap4,by omega,hXm,by first|rfl|(congr 1<;>omega),rfl,H4.out.below hb6,by show _=_;simp[hq.out];omega,?_,?_,?_,aap.trans (hb6.mono (by omega)),Nat.le_trans hG4 hb6.size⟩
      ·show aj _ _ _ _;have:=MV.out.below hb6 (show G<w4.heap.size from hG4);rw[show List.replicate k 0++0::qs=List.replicate (k+1) 0++qs from by rw[replicate_succ',append_assoc];rfl];exact this
      ·show ∀x∈_,_;intro y hy;rcases mem_cons.1 hy with rfl|hy
       ·omega
       ·exact DR.out y hy
      ·show _=_;have:=HS.out;rwa[Nat.div_eq_of_lt hXm,Nat.mod_eq_of_lt hXm] at this
     case measure=>simp[intOf]<;>omega
   ·obtain rfl:k=0:=by omega
    have hbk0:=hbk.out;rw[replicate_zero,nil_append] at hbk0;have MV:=zH hbk0;clear hbk hbk0;have h5:=hv.out;rw[drop_zero,V1.out] at h5;have h6:n / m=val (2 ^ 24) qs:=by rw[h5,Nat.mul_comm,Nat.mul_add_div h0,Nat.div_eq_of_lt hr,Nat.add_zero]
    have h7:n % m=r:=by rw[h5,Nat.mul_comm,Nat.mul_add_mod,Nat.mod_eq_of_lt hr]
    have HD:=zH h6;have HM:=zH h7;clear h5 h6 h7;go_wp2_with fail;refine (pV _ _ _ qs _ (by rw[hq.out];omega) (Nat.le_refl _) (by omega) MV.out.rd DR.out).mono ?_;rintro e w7 ⟨rfl,hb7⟩;have hlr:=hlim.out.below hb7;have hrl:=hlr.gB (K:=b.size) (Nat.lt_of_lt_of_le (Nat.lt_trans hr HVB.out) (Nat.pow_le_pow_right (by omega) hsz));obtain⟨q1,_,rs,e3,r3,k3,v3⟩:=hlr;have R3:=zH r3;have C3:=zH k3;have E3:=zH e3;have V3:=zH v3;clear r3 k3 e3 v3 hlim;go_wp2_with fail;refine (pV _ _ _ rs _ E3.out q1 (by omega) R3.out C3.out.lt).mono ?_;rintro e w8 ⟨rfl,hb8⟩;go_wp2;refine bodyPost_ret (results_tmp3 rfl _ _ _) rfl ?_;refine⟨?_,?_⟩
    ·have p0:¬(m=0):=by omega
     rw[if_neg p0,if_neg p0,HD.out,HM.out,V3.out,show (m !=0)=true from by simp[p0]];rfl
    ·have h5:Below B w wr:=lM.trans (hbw.mono (by rw[HG.out];exact hB2));have h6:=h5.trans ((ah hb7 hb8).mono (Nat.le_trans hBw h5.size));rw[<-HB.out];exact h6
end Go.Proofs.YtjpbmbgincdjaaaGreatDoor
