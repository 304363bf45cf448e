/- Part: Jt. -/
import Derived.Test.YtjpbmbgincdjaaaGreatDoorTie
import Derived.Test.YtjpbmbgincdjaaaGreatDoorCards
import Derived.Test.YtjpbmbgincdjaaaGreatDoorK41
import Derived.Test.YtjpbmbgincdjaaaGreatDoorK43
set_option linter.all false
set_option maxRecDepth 100000
set_option maxHeartbeats 0
namespace Go.Proofs.YtjpbmbgincdjaaaGreatDoor
open Go.ChangeShapes Go.WideShapes Go.ChangeAt Go.RowKit List Go.Proofs.Tryz
section
variable {w:World}
theorem aeR {A:Option Addr} {cs:List Value} (h:Rd w A cs):Lays (fun _=>none) w A cs:=h.imp id fun⟨b,off,e,hb,hc⟩=>⟨b,off,e,hb,fun i hi=>⟨hc i hi,fun _ h=>by cases h⟩⟩
theorem ah1 {α:Type} {L:Nat->Option Nat} (f:α->PV) (g:α->Value) {l:List α} (h:∀a∈l,RP L w (f a) (g a)) (i:Nat) (p:PV) (u:Value) (hp:(l.map f)[i]?=some p) (hu:(l.map g)[i]?=some u):RP L w p u:=by
 rw[getElem?_map] at hp hu;cases e:l[i]? with
 |none=>rw[e] at hp;cases hp
 |some a=>rw[e] at hp hu;cases hp;cases hu;exact h a (mem_of_getElem? e)
theorem Qk {α:Type} (f:α->PV) (hf:∀a,(f a).cs=[f a]):∀l:List α,(l.map f).flatMap PV.cs=l.map f
 |[]=>rfl
 |a::l=>by rw[map_cons,flatMap_cons,hf,Qk f hf l];rfl
theorem ZU {α:Type} (f:α->PV) (g:α->Value) {l:List α} (hf:∀a,(f a).cs=[f a]) (hg:∀a,(g a).oneCell'=true) {A:Option Addr} {n c:Nat} (hn:n=l.length) (hc:n<=c) (hm:c<=maxLen) (hr:Rd w A (l.map g)) (h:∀a∈l,RP (fun _=>none) w (f a) (g a)):RP (fun _=>none) w (.sl 1 (l.map f)) (.slice A n c):=by
 have k:=RP.sl (L:=fun _=>none) (w:=w) (q:=1) (xs:=l.map f) (us:=l.map g) (A:=A) (c:=c) (fun x hx=>by obtain⟨a,_,rfl⟩:=mem_map.1 hx;rw[hf];rfl) (by rw[length_map];omega) hm (by rw[Qk f hf];simp)
  (fun u hu=>by obtain⟨a,_,rfl⟩:=mem_map.1 hu;exact hg a) (by rw[Qk f hf];exact ah1 f g h) (aeR hr)
 rw[length_map,<-hn] at k;exact k
end
theorem QY (xs:List (List Int × Hd)) (hh:Hd) (a b c:Int) (ha:I64 a) (hb:I64 b) (hc:I64 c) (w:World) (hK:bT w) (hr:dB w V5 xs hh) (hq:∀r∈xs,IR w w.heap.size r):
  Calls prog 3 #[.slice hh.a hh.n hh.c,.agg #[.int .i64 a,.int .i64 b,.int .i64 c]] w fun e w'=>e=.returned (.bool true)/\Below w.heap.size w w':=by
 have hn:xs.length<=maxLen:=by have:=hr.len;have:=hr.cap;have:=hr.max;omega
 have hd:∀i,eG ⟨(iU (xs.map Prod.fst)).getD i [],0⟩:=fun i=>by
  rw[getD_eq_getElem?_getD];cases e:(iU (xs.map Prod.fst))[i]? with
  |none=>exact⟨fun x hx=>(by cases hx),Nat.zero_le _⟩
  |some l=>
   have hm:=mem_of_getElem? e;refine⟨fun x hx=>?_,Nat.le_trans ((abZ _).2 l hm) (by decide)⟩;unfold iU at hm;obtain⟨y,hy,rfl⟩:=mem_map.1 hm;obtain⟨r,hr',rfl⟩:=mem_map.1 (mem_of_mem_take hy);exact (hq r hr').rng x (mem_of_mem_take hx)
 have m:=ahY hd;have h2:=WL (iU (xs.map Prod.fst))
 have k:=aeN (Ld:=⟨bT,fun hb h=>h.below hb⟩) (fun _ h=>h) (xs.map Prod.fst) a b c (by rw[length_map];exact hn) (fun l hl=>by
   obtain⟨r,hr',rfl⟩:=mem_map.1 hl;have g:=hq r hr';have:=g.len;have:=g.cap;have g3:=g.max;unfold maxLen at g3;omega) hd ha hb hc (m.raw.meet (.inl m.fe)) ((QW m.raw a b c).meet (.inl (aeP h2 a b c))) (by omega) (ZN _) (WM _) m.chk
 refine (k w (fun _=>none) [.slice hh.a hh.n hh.c,.agg #[.int .i64 a,.int .i64 b,.int .i64 c]] hK (fun _ _=>rfl) ⟨rfl,fun i p u hp hu=>?_⟩).mono fun e w' ⟨u,p,h1,h2,h3,h4⟩=>?_
 ·match i with
  |0=>
   cases hp;cases hu;have hrd:=hr.rd;rw[Qi] at hrd;rw[map_map]
   exact ZU _ _ (fun _=>rfl) (fun _=>rfl) hr.len hr.cap hr.max hrd fun r hr'=>by
    have g:=hq r hr';exact ZU iP (.int .i64) (fun _=>rfl) (fun _=>rfl) g.len g.cap g.max g.rd fun _ _=>.sc _
  |1=>
   cases hp;cases hu;refine RP.ag (us:=[.int .i64 a,.int .i64 b,.int .i64 c]) rfl (by intro u hu;simp at hu;rcases hu with rfl|rfl|rfl<;>rfl) fun i p u hp hu=>?_
   match i with
   |0=>cases hp;cases hu;exact .sc _
   |1=>cases hp;cases hu;exact .sc _
   |2=>cases hp;cases hu;exact .sc _
   |i+3=>cases hp
  |i+2=>cases hp
 ·subst h2;cases h3;exact⟨h1,h4⟩
theorem okWide_arr {P:Program} {w:World} {r:Reach} {base:Nat} {t:TypeId} {n:Nat} {e:TypeId} {v:Value} (ht:P.underlying t=some (.array n e)) (h:Value.okWide P w r base t v):∃cs,v=.agg cs/\cs.size=P.cellsOf t:=by
 simp only[Value.okWide,ht] at h;obtain⟨cs,h1,h2,_⟩:=h;exact⟨cs,h1,h2⟩
theorem adu {α:Type} {l:List α} (h:l.length=3):∃a b c,l=[a,b,c]:=by
 match l,h with
 |[a,b,c],_=>exact⟨a,b,c,rfl⟩
theorem Ql {H:Type} {enc:TypeId × Value->H} {W:World} {base:Nat} {spare:Nat->Bool} {held:Bool} {r:Reach} {b0:Nat} {v:Value} {d:DataW H} {p:List MemPlace} (hv:Value.okWide prog W r b0 23 v) (h:DataW.Trod enc prog W base spare held 23 v d p):
  ∃x y z:Int,v=.agg #[.int .i64 x,.int .i64 y,.int .i64 z]/\(-9223372036854775808<=x/\x<=9223372036854775807)/\(-9223372036854775808<=y/\y<=9223372036854775807)/\(-9223372036854775808<=z/\z<=9223372036854775807):=by
 obtain⟨fuel,hf⟩:=h;have k1:prog.cellsOf 3=1:=by kernel_rfl
 have k2:prog.cellsOf 23=3:=by kernel_rfl
 obtain⟨cs,rfl,hsz⟩:=okWide_arr underlying23 hv;obtain⟨cs⟩:=cs;have hcl:cs.length=3:=by rw[<-k2];exact hsz
 obtain⟨a0,a1,a2,rfl⟩:=adu hcl;have hf':DataW.trod enc prog W base spare held fuel 23 [a0,a1,a2]=some (d,p):=hf;obtain⟨xs,m,_,ex,hxc,hxl,hx⟩:=DataW.trod_array underlying23 hf';rw[k1] at hx;have g0:=hx 0 (by omega);have g1:=hx 1 (by omega);have g2:=hx 2 (by omega);obtain⟨x0,x1,x2,rfl⟩:=adu hxl;simp only[Nat.mul_one,drop_zero,take_succ_cons,take_zero,drop_succ_cons,getElem?_cons_zero,getElem?_cons_succ] at g0 g1 g2;obtain⟨q0,b0',_,w0⟩:=DataW.trod_int underlying3 g0;obtain⟨q1,b1',_,w1⟩:=DataW.trod_int underlying3 g1;obtain⟨q2,b2',_,w2⟩:=DataW.trod_int underlying3 g2;injection b0' with b0';injection b1' with b1';injection b2' with b2';subst b0' b1' b2';exact⟨q0,q1,q2,rfl,zX w0,zX w1,zX w2⟩
theorem Am:∀t∈Tryz.f3.params.toList,prog.readableRec t=true/\t<prog.types.size:=by
 have hall:([22,23].all fun t=>prog.readableRec t&&decide (t<prog.types.size))=true:=by kernel_rfl
 rw[params3];intro t ht;have hm:t∈[22,23]:=by simpa using ht
 simpa using all_eq_true.1 hall t hm
theorem zY (os:Os) (started:os.Started) (H:Type) (enc:TypeId × Value->H):
  ReturnsInHanded {} Tryz.checked os 3 .any (fun w args=>(Rows.statuteChecksSpec.pre enc prog Tryz.f3 [] false w args/\laidMetH prog Qe w)/\sizedMet enc prog Tryz.f3 (OpenSpec.ofChange Rows.statuteChecksSpec) false w args)
   (Rows.statuteChecksSpec.post enc prog Tryz.f3 false true false false):=by
 refine Jk (C:=Tryz.checked) (X:=fun w _=>laidMetH prog Qe w) (fun _ _ _ hh h=>h.of_heap hh) Tryz.own started (by kernel_rfl) func3
  (ChangeSpec.witness_shaped (enc:=enc) (C:=Tryz.checked) (os:=os) (X:=fun w _=>laidMetH prog Qe w) false (World.laidAll prog os Qe) #[.slice none 0 0,.agg #[.int .i64 0,.int .i64 0,.int .i64 0]] 8 (World.laidAll_os _ _ _)
    (World.shaped_of_ZipB (by kernel_rfl) (by kernel_rfl)) (by kernel_rfl) (by kernel_rfl) (by kernel_rfl) (ZT os _)) ?_
 intro W base args ds gs before hval0 hW hL hsh;have hval:∀(j:Nat) t v,Tryz.f3.params[j]?=some t->args[j]?=some v->Value.okWide prog W .any base t v:=hval0;have hW':DataW.Whole enc prog Tryz.f3.params.toList Rows.statuteChecksSpec.vars false W args.toList ds gs before:=hW;obtain⟨p,q,hA0,hV,rfl,_,_⟩:=hW;have hA:DataW.TrodAll enc prog W 0 (fun _=>true) true Tryz.f3.params.toList args.toList ds p:=hA0;rw[params3] at hA hval;obtain⟨v0,v1,d0,d1,p0,p1,rfl,rfl,rfl,h0,h1⟩:=trodAll_two hA;obtain⟨rfl,rfl⟩:=trodVars_none hV;obtain⟨xs,hh,rfl,hR,hI⟩:=Qj (hval 0 22 v0 rfl rfl) h0;obtain⟨q0,q1,q2,rfl,r0,r1,r2⟩:=Ql (hval 1 23 v1 rfl rfl) h1;have hK:=acd hL hsh;refine (QY xs hh q0 q1 q2 r0 r1 r2 W hK hR hI).mono fun e W' ⟨he,hb⟩=>?_
 subst he;exact⟨_,rfl,ZR (H:=H) (enc:=enc) (P:=prog) (f:=Tryz.f3) (s:=Rows.statuteChecksSpec) (tb:=4) Tryz.laidOut rfl rfl rfl underlying4 Am hW' hb⟩
end Go.Proofs.YtjpbmbgincdjaaaGreatDoor
