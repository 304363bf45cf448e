/- Part: FJ FK FL. -/
import Derived.Test.YtjpbmbgincdjaaaGreatDoorK16
set_option linter.all false
set_option maxRecDepth 100000
set_option maxHeartbeats 0
set_option linter.unusedVariables false
namespace Go.Proofs.YtjpbmbgincdjaaaGreatDoor
open Go.RowKit List
theorem UZ (a b:ByteArray):(a.toList==b.toList)=decide (a=b):=by
 rw[Bool.beq_eq_decide_eq,decide_eq_decide];exact⟨fun h=>by rw[ByteArray.toList_eq,ByteArray.toList_eq] at h;exact ByteArray.ext (Array.toList_inj.1 h),fun h=>h ▸ rfl⟩
theorem afT {p:Prop} [Decidable p] (h:¬p):decide p=false:=decide_eq_false h
theorem afU {p:Prop} [Decidable p] (h:p):decide p=true:=decide_eq_true h
theorem aiD (a b:Int):(a==b)=decide (a=b):=Bool.beq_eq_decide_eq a b
class XM (P:Program) (Ld:bU) (f:FuncId) (ps:List PV) (p:outParam PV):Prop where
 h:PC P Ld f ps (·=p)
section
variable {P:Program} {Ld:bU} {X:Cx Ld} {N:Nat} {ops:Array Oper} {dr:Bool} {fin:List (Ky × En)->Prop} {o:Oper} {rest:List Oper} {acc:List (List Ky × List Ky)} {M:List (Ky × En)} {d:Nat} {ty:TypeId} {pos:String} {aO:Array Edge} {g:Option (Nat × Bool)} {x y z:Operand} {sx sy:bF} {vx vy v:Value} {t:TypeId}
theorem akD (hx:ev M x=some sx:=by rfl):Yd ⟨some d,.move x,ty,pos,aO,g⟩ P X N ops M (ok x) sx:=
 acf (.inl (.inl rfl)) hx
theorem akE (hx:ev M x=some sx:=by rfl):Yd ⟨some d,.assign x,ty,pos,aO,g⟩ P X N ops M (ok x) sx:=
 acf (.inl (.inr rfl)) hx
theorem akF {b:BinOp} {yt:TypeId} (hx:ev M x=some (.v (.sc vx)):=by rfl) (hy:ev M y=some (.v (.sc vy)):=by rfl) (hv:∀(e:Operand->Value) w,e x=vx->e y=vy->(execOp e ⟨some d,.binOp b t x y yt,ty,pos,aO,g⟩).run P w=.ok (.value v) w:=by first|((intro e w h1 h2;go_simp);all_goals (try simp only[UZ,bne,aiD]);all_goals with_reducible rfl;done)|fail):Yd ⟨some d,.binOp b t x y yt,ty,pos,aO,g⟩ P X N ops M (ok x++ok y) (.v (.sc v)):=
 CY x y hx hy hv
theorem afV {yt:TypeId} {a b:ByteArray} {c:Bool} (hx:ev M x=some (.v (.sc (.string a))):=by rfl) (hy:ev M y=some (.v (.sc (.string b))):=by rfl) (hc:decide (a=b)=c:=by first|exact afT (by decide)|exact afU (by decide)|rfl) (hv:∀(e:Operand->Value) a b w,e x=.string a->e y=.string b->(execOp e ⟨some d,.binOp .eql t x y yt,ty,pos,aO,g⟩).run P w=.ok (.value (.bool (decide (a=b)))) w:=by first|(intro e a b w h1 h2;go_simp;(try simp only[UZ,bne]);done)|fail):Yd ⟨some d,.binOp .eql t x y yt,ty,pos,aO,g⟩ P X N ops M (ok x++ok y) (.v (.sc (.bool (c)))):=
 by
 subst hc;exact CY x y hx hy (fun e w h1 h2=>hv e a b w h1 h2)
theorem akG {yt:TypeId} {a b:ByteArray} {c:Bool} (hx:ev M x=some (.v (.sc (.string a))):=by rfl) (hy:ev M y=some (.v (.sc (.string b))):=by rfl) (hc:decide (a=b)=c:=by first|exact afT (by decide)|exact afU (by decide)|rfl) (hv:∀(e:Operand->Value) a b w,e x=.string a->e y=.string b->(execOp e ⟨some d,.binOp .neq t x y yt,ty,pos,aO,g⟩).run P w=.ok (.value (.bool (!decide (a=b)))) w:=by first|(intro e a b w h1 h2;go_simp;(try simp only[UZ,bne]);done)|fail):Yd ⟨some d,.binOp .neq t x y yt,ty,pos,aO,g⟩ P X N ops M (ok x++ok y) (.v (.sc (.bool (!c)))):=
 by
 subst hc;exact CY x y hx hy (fun e w h1 h2=>hv e a b w h1 h2)
theorem akH {b:BinOp} {yt:TypeId} {l l':List PV} {us us':List Value} (hx:ev M x=some (.v (.ag l)):=by rfl) (hy:ev M y=some (.v (.ag l')):=by rfl) (hs:qI l us:=by first|((repeat constructor);done)|fail) (hs':qI l' us':=by first|((repeat constructor);done)|fail) (hv:∀(e:Operand->Value) w,e x=.agg us.toArray->e y=.agg us'.toArray->(execOp e ⟨some d,.binOp b t x y yt,ty,pos,aO,g⟩).run P w=.ok (.value v) w:=by first|((intro e w h1 h2;go_simp);all_goals with_reducible rfl;done)|fail):Yd ⟨some d,.binOp b t x y yt,ty,pos,aO,g⟩ P X N ops M (ok x++ok y) (.v (.sc v)):=
 aia x y hx hy hs hs' hv
theorem akI {u:UnOp} (hx:ev M x=some (.v (.sc vx)):=by rfl) (hv:∀(e:Operand->Value) w,e x=vx->(execOp e ⟨some d,.unOp u t x,ty,pos,aO,g⟩).run P w=.ok (.value v) w:=by first|((intro e w h1;go_simp);all_goals with_reducible rfl;done)|fail):Yd ⟨some d,.unOp u t x,ty,pos,aO,g⟩ P X N ops M (ok x) (.v (.sc v)):=
 Lu x hx hv
theorem akJ {b:Bool} (hx:ev M x=some (.v (.sc (.bool b))):=by rfl) (hv:∀(e:Operand->Value) b w,e x=.bool b->(execOp e ⟨some d,.unOp .not t x,ty,pos,aO,g⟩).run P w=.ok (.value (.bool (!b))) w:=by first|(intro e b w h1;go_simp;done)|fail):Yd ⟨some d,.unOp .not t x,ty,pos,aO,g⟩ P X N ops M (ok x) (.v (.sc (.bool (!b)))):=
 Lu x hx (fun e w h=>hv e b w h)
theorem akK {t':TypeId} (hx:ev M x=some (.v (.sc vx)):=by rfl) (hv:∀(e:Operand->Value) w,e x=vx->(execOp e ⟨some d,.convert t t' x,ty,pos,aO,g⟩).run P w=.ok (.value v) w:=by first|((intro e w h1;go_simp);all_goals with_reducible rfl;done)|fail):Yd ⟨some d,.convert t t' x,ty,pos,aO,g⟩ P X N ops M (ok x) (.v (.sc v)):=
 Lu x hx hv
theorem akL (hx:ev M x=some (.v (.sc vx)):=by rfl) (hy:ev M y=some (.v (.sc vy)):=by rfl) (hv:∀(e:Operand->Value) w,e x=vx->e y=vy->(execOp e ⟨some d,.index t x y,ty,pos,aO,g⟩).run P w=.ok (.value v) w:=by first|((intro e w h1 h2;go_simp);all_goals with_reducible rfl;done)|fail):Yd ⟨some d,.index t x y,ty,pos,aO,g⟩ P X N ops M (ok x++ok y) (.v (.sc v)):=
 CY x y hx hy hv
theorem akM {l:List PV} {us:List Value} (hx:ev M x=some (.v (.ag l)):=by rfl) (hy:ev M y=some (.v (.sc vy)):=by rfl) (hs:qI l us:=by first|((repeat constructor);done)|fail) (hv:∀(e:Operand->Value) w,e x=.agg us.toArray->e y=vy->(execOp e ⟨some d,.index t x y,ty,pos,aO,g⟩).run P w=.ok (.value v) w:=by first|((intro e w h1 h2;go_simp);all_goals with_reducible rfl;done)|fail):Yd ⟨some d,.index t x y,ty,pos,aO,g⟩ P X N ops M (ok x++ok y) (.v (.sc v)):=
 dL (ok x++ok y) (.v (.sc v)) (fun m a w ρ L hR hk=>⟨v,w,hv a.eval w (eva hR hx hs fun k h=>hk k (mem_append_left _ h)) (evs hR hy fun k h=>hk k (mem_append_right _ h)),Below.refl _ _,.sc _⟩)
theorem akN {f:Nat} {l:List PV} {us:List Value} (hx:ev M x=some (.v (.ag l)):=by rfl) (hs:qI l us:=by first|((repeat constructor);done)|fail) (hv:∀(e:Operand->Value) w,e x=.agg us.toArray->(execOp e ⟨some d,.field t x f,ty,pos,aO,g⟩).run P w=.ok (.value v) w:=by first|((intro e w h1;go_simp;simp[Instr.field,asAgg,part,Result.andThen]);all_goals with_reducible rfl;done)|fail):Yd ⟨some d,.field t x f,ty,pos,aO,g⟩ P X N ops M (ok x) (.v (.sc v)):=
 dL (ok x) (.v (.sc v)) (fun m a w ρ L hR hk=>⟨v,w,hv a.eval w (eva hR hx hs hk),Below.refl _ _,.sc _⟩)
theorem akO {b:Builtin} {ts:Array TypeId} (hx:ev M x=some (.v (.sc vx)):=by rfl) (hv:∀(e:Operand->Value) w,e x=vx->(execOp e ⟨some d,.call {callee:=.builtin b,args:=#[x],argTypes:=ts},ty,pos,aO,g⟩).run P w=.ok (.value v) w:=by first|((intro e w h1;go_simp);all_goals with_reducible rfl;done)|fail):Yd ⟨some d,.call {callee:=.builtin b,args:=#[x],argTypes:=ts},ty,pos,aO,g⟩ P X N ops M (ok x) (.v (.sc v)):=
 Lu x hx hv
theorem akP {b:Builtin} {ts:Array TypeId} (hx:ev M x=some (.v (.sc vx)):=by rfl) (hy:ev M y=some (.v (.sc vy)):=by rfl) (hv:∀(e:Operand->Value) w,e x=vx->e y=vy->(execOp e ⟨some d,.call {callee:=.builtin b,args:=#[x,y],argTypes:=ts},ty,pos,aO,g⟩).run P w=.ok (.value v) w:=by first|((intro e w h1 h2;go_simp);all_goals with_reducible rfl;done)|fail):Yd ⟨some d,.call {callee:=.builtin b,args:=#[x,y],argTypes:=ts},ty,pos,aO,g⟩ P X N ops M (ok x++ok y) (.v (.sc v)):=
 CY x y hx hy hv
theorem akQ {q:Nat} {xs:List PV} {ts:Array TypeId} (hx:ev M x=some (.v (.sl q xs)):=by rfl) (hv:∀(e:Operand->Value) A n c w,e x=.slice A n c->(execOp e ⟨some d,.call {callee:=.builtin .len,args:=#[x],argTypes:=ts},ty,pos,aO,g⟩).run P w=.ok (.value (.int .i64 n)) w:=by first|(intro e A n c w h1;go_simp;done)|fail):Yd ⟨some d,.call {callee:=.builtin .len,args:=#[x],argTypes:=ts},ty,pos,aO,g⟩ P X N ops M (ok x) (.v (.sc (.int .i64 xs.length))):=
 ae3 x hx hv
theorem akR {j n e q:Nat} {xs:List PV} {ts:Array TypeId} (hx:ev M x=some (.ow j n):=by rfl) (ho:get (.o j) M=some (.o (.row e q xs)):=by rfl) (hn:n=xs.length:=by first|(first|rfl|simp;done)|fail) (hv:∀(e:Operand->Value) A n c w,e x=.slice A n c->(execOp e ⟨some d,.call {callee:=.builtin .len,args:=#[x],argTypes:=ts},ty,pos,aO,g⟩).run P w=.ok (.value (.int .i64 n)) w:=by first|(intro e A n c w h1;go_simp;done)|fail):Yd ⟨some d,.call {callee:=.builtin .len,args:=#[x],argTypes:=ts},ty,pos,aO,g⟩ P X N ops M (ok x++[.o j]) (.v (.sc (.int .i64 xs.length))):=
 adH x hx ho hn hv
theorem akS {c:Bool} (hx:ev M x=some (.v (.sc (.bool c))):=by rfl) (hy:ev M (bif c then y else z)=some sx:=by rfl):Yd ⟨some d,.pick x y z,ty,pos,aO,g⟩ P X N ops M (ok x++ok (bif c then y else z)) sx:=
 aib hx hy
theorem akT {i:Nat} {l:List PV} {p:PV} (hx:ev M x=some (.v (.tu l)):=by rfl) (hp:l[i]?=some p:=by rfl):Yd ⟨some d,.extract x i,ty,pos,aO,g⟩ P X N ops M (ok x) (.v p):=
 aic hx hp
theorem afW (next:RG P X N ops dr fin rest (acc++[(gk ops o,[.s d])]) ((.s d,.s (.v (.sc undef)))::M)) (hd:o.dst=some d:=by rfl) (hN:d<N:=by decide) (hw:Ac ops M o=some false:=by rfl):RG P X N ops dr fin (o::rest) acc M:=ah9 hd hN hw next
theorem afX (next:RG P X N ops dr fin rest (acc++[(gk ops o,[])]) M) (hd:o.dst=none:=by rfl) (hw:Ac ops M o=some false:=by rfl):RG P X N ops dr fin (o::rest) acc M:=ae2 hd hw next
theorem akU {cs:List bF} (hx:ev M x=some sx:=by rfl) (hc:uT M sx cs:=by first|exact .sc rfl|exact .ag _|exact .sl _ _|exact .ow rfl rfl|exact .pt _ _|exact .fn _ _|exact .pr _|exact .ox rfl rfl rfl|exact .sg _) (hj:get (.o d) M=none:=by rfl) (h9:d≠900:=by decide):Ru ⟨some d,.box t x,ty,pos,aO,g⟩ P X N ops M (ok x++.o d::sx.refs.map .o) [.s d,.o d] ((.s d,.s (.pt d 0))::(.o d,.o (.blk cs))::M):=
 afC d hx hc hj h9
theorem akV {zv:Value} {cs:List bF} (_:d.ble d=true:=by rfl) (hz:∀w,(zeroValue t).run P w=.ok zv w:=by first|((intro w;simp);all_goals with_reducible rfl;done)|fail) (hc:zcs zv=cs:=by first|(simp only[zcs,map_cons,map_nil];rfl;done)|fail) (h1:zv.cells.toList.all Value.oneCell'=true:=by rfl) (hj:get (.o d) M=none:=by rfl) (h9:d≠900:=by decide):Ru ⟨some d,.alloc t,ty,pos,aO,g⟩ P X N ops M ([.o d]) [.s d,.o d] ((.s d,.s (.pt d 0))::(.o d,.o (.blk cs))::M):=
 aij d hz hc h1 hj h9
theorem akW {j off:Nat} {cs vs cs':List bF} (hx:ev M x=some (.pt j off):=by rfl) (ho:get (.o j) M=some (.o (.blk cs)):=by rfl) (hy:ev M y=some sy:=by rfl) (hc:uT M sy vs:=by first|exact .sc rfl|exact .ag _|exact .sl _ _|exact .ow rfl rfl|exact .pt _ _|exact .fn _ _|exact .pr _|exact .ox rfl rfl rfl|exact .sg _) (hn:∀w,(Go.sizeOf t).run P w=.ok vs.length w:=by first|(intro w;simp;done)|fail) (hl:(off+vs.length).ble cs.length=true:=by rfl) (hcs:cs.take off++vs++cs.drop (off+vs.length)=cs':=by first|(simp only[take_succ_cons,take_zero,drop_succ_cons,drop_zero,map_cons,map_nil,length_cons,length_nil,nil_append,cons_append,append_nil,Nat.reduceAdd,Nat.zero_add,take_nil,drop_nil];rfl;done)|fail):Ru ⟨none,.store t x y,ty,pos,aO,g⟩ P X N ops M (ok x++(ok y++.o j::sy.refs.map .o)) [.o j] ((.o j,.o (.blk cs'))::M):=
 aik hx ho hy hc hn (Nat.le_of_ble_eq_true hl) hcs
theorem akX {f j off k off':Nat} (hx:ev M x=some (.pt j off):=by rfl) (hv:∀(e:Operand->Value) b off w,e x=.pointer (some ⟨b,off,none⟩)->(execOp e ⟨some d,.fieldAddr t x f,ty,pos,aO,g⟩).run P w=.ok (.value (.pointer (some ⟨b,off+k,none⟩))) w:=by first|((intro e b off w h;go_simp);all_goals with_reducible rfl;done)|fail) (hk:off+k=off':=by first|(simp only[Nat.zero_add,Nat.add_zero,Nat.reduceAdd];rfl;done)|fail):Yd ⟨some d,.fieldAddr t x f,ty,pos,aO,g⟩ P X N ops M (ok x) (.pt j off'):=
 ach x hx hv hk
theorem akY {j off k off':Nat} (hx:ev M x=some (.pt j off):=by rfl) (hv:∀(e:Operand->Value) b off w,e x=.pointer (some ⟨b,off,none⟩)->(execOp e ⟨some d,.indexAddr t x y,ty,pos,aO,g⟩).run P w=.ok (.value (.pointer (some ⟨b,off+k,none⟩))) w:=by first|((intro e b off w h;go_simp);all_goals with_reducible rfl;done)|fail) (hk:off+k=off':=by first|(simp only[Nat.zero_add,Nat.add_zero,Nat.reduceAdd];rfl;done)|fail):Yd ⟨some d,.indexAddr t x y,ty,pos,aO,g⟩ P X N ops M (ok x) (.pt j off'):=
 ach x hx hv hk
theorem akZ {f k:Nat} {p:PV} {l:List PV} (hx:ev M x=some (.v (.pr p)):=by rfl) (hv:∀(e:Operand->Value) b off w,e x=.pointer (some ⟨b,off,none⟩)->(execOp e ⟨some d,.fieldAddr t x f,ty,pos,aO,g⟩).run P w=.ok (.value (.pointer (some ⟨b,off+k,none⟩))) w:=by first|((intro e b off w h;go_simp);all_goals with_reducible rfl;done)|fail) (hl:p.cs.drop k=l:=by rfl):Yd ⟨some d,.fieldAddr t x f,ty,pos,aO,g⟩ P X N ops M (ok x) (.v (.pr (.ag l))):=
 aie (q:=.ag l) x hx hv rfl (by rw[hl];exact take_length)
theorem ak0 {j off:Nat} {cs:List bF} {sv:bF} (hx:ev M x=some (.pt j off):=by rfl) (hA:∀w,(isAgg t).run P w=.ok false w:=by first|(intro w;simp;done)|fail) (ho:get (.o j) M=some (.o (.blk cs)):=by rfl) (hc:cs[off]?=some sv:=by rfl):Yd ⟨some d,.load t x,ty,pos,aO,g⟩ P X N ops M (ok x++[.o j]) sv:=
 aif x hx ho hc hA rfl
theorem ak1 {j off n:Nat} {cs:List bF} {ps:List PV} (hx:ev M x=some (.pt j off):=by rfl) (hA:∀w,(isAgg t).run P w=.ok true w:=by first|(intro w;simp;done)|fail) (hn:∀w,(Go.sizeOf t).run P w=.ok n w:=by first|((intro w;simp);all_goals with_reducible rfl;done)|fail) (ho:get (.o j) M=some (.o (.blk cs)):=by rfl) (hps:pJ M ((cs.drop off).take n) ps:=by first|((repeat (first|exact .nil|(apply pJ.cons;(first|exact .v _|exact .ow rfl rfl|exact .fn _))));done)|fail) (hpl:ps.length=n:=by rfl):Yd ⟨some d,.load t x,ty,pos,aO,g⟩ P X N ops M (ok x++.o j::(((cs.drop off).take n).flatMap bF.refs).map .o) (.v (.ag ps)):=
 ae4 x hx ho hA hn hps hpl rfl
theorem adR {L:Nat->Option Nat} {w:World} {p:PV} {l:List PV} {u:Value} (h:RP L w (.pr p) u) (n:Nat) (hl:p.cs.take n=l):RP L w (.pr (.ag l)) u:=by
 obtain⟨us,b,off,rfl,h2,h3,h4,h5,h6⟩:=RP.tY h;subst hl;have h7:=Lays.part h6 0 n;rw[drop_zero,Nat.add_zero] at h7;refine .pr (us:=us.take n) (by show (p.cs.take n).length=_;rw[length_take,length_take,h3]) (fun u hu=>h4 u (mem_of_mem_take hu)) (fun i q u hq hu=>?_) h2 h7;have hi:i<n:=by have:=(List.getElem?_eq_some_iff.1 hu).1;rw[length_take] at this;omega
 have hq:(p.cs.take n)[i]?=some q:=hq;rw[getElem?_take_of_lt hi] at hq hu;exact h5 i q u hq hu
theorem ak2 {p c:PV} (hx:ev M x=some (.v (.pr p)):=by rfl) (hA:∀w,(isAgg t).run P w=.ok false w:=by first|(intro w;simp;done)|fail) (hc:p.cs[0]?=some c:=by rfl) (hc1:c.cs=[c]:=by rfl):Yd ⟨some d,.load t x,ty,pos,aO,g⟩ P X N ops M (ok x) (.v c):=
 dL (ok x) _ (fun m a w ρ L hR hk=>by
  obtain⟨us,b,off,h1,h2,h3,h4,h5,h6⟩:=RP.tY (bI hR hx hk);have h0:=(List.getElem?_eq_some_iff.1 hc).1;rcases h6 with h6|⟨b',off',e,hb,h6⟩
  ·subst h6;rw[h3] at h0;cases h0
  ·cases e;have hcell:w.cell? ⟨b,off,none⟩=some (us[0]'(by omega)):=(h6 0 (by omega)).1;exact⟨us[0]'(by omega),w,(by simp[execOp,h1,Instr.loadAt,Instr.sureAddr,loadVar,hA,hcell,Result.andThen]),Below.refl _ _,h5 0 c _ hc (getElem?_eq_getElem (by omega))⟩)
theorem ak3 {p:PV} {l:List PV} (hx:ev M x=some (.v (.pr p)):=by rfl) (hA:∀w,(isAgg t).run P w=.ok true w:=by first|(intro w;simp;done)|fail) (hl:p=.ag l:=by rfl) (hn:∀w,(Go.sizeOf t).run P w=.ok l.length w:=by first|(intro w;simp;done)|fail):Yd ⟨some d,.load t x,ty,pos,aO,g⟩ P X N ops M (ok x) (.v p):=
 by subst hl;exact ae5 x hx hA hn rfl
theorem ak4 {p:PV} {n:Nat} {l:List PV} (hx:ev M x=some (.v (.pr p)):=by rfl) (hA:∀w,(isAgg t).run P w=.ok true w:=by first|(intro w;simp;done)|fail) (hn:∀w,(Go.sizeOf t).run P w=.ok n w:=by first|((intro w;simp);all_goals with_reducible rfl;done)|fail) (hl:p.cs.take n=l:=by first|(simp only[PV.cs,drop_zero,drop_succ_cons,take_succ_cons,take_zero];with_reducible rfl)|rfl) (hln:l.length=n:=by rfl):Yd ⟨some d,.load t x,ty,pos,aO,g⟩ P X N ops M (ok x) (.v (.ag l)):=
 dL (ok x) _ (fun m a w ρ L hR hk=>by
  obtain⟨us,b,off,h1,h2,h3,h4,h5,h6⟩:=RP.tY (adR (bI hR hx hk) n hl);have h3:l.length=us.length:=h3
  have hld:=run_loadCells_list (P:=P) w ⟨b,off,none⟩ us (fun i v hv=>by
   have hi2:=List.getElem?_eq_some_iff.1 hv;rcases h6 with h6|⟨b',off',e,hb,h6⟩
   ·subst h6;simp at hv
   ·cases e;rw[add_lit,(h6 i hi2.1).1,hi2.2])
  refine⟨.agg us.toArray,w,?_,Below.refl _ _,.ag h3 h4 h5⟩;rw[<-h3,hln] at hld;simp[execOp,h1,Instr.loadAt,Instr.sureAddr,loadVar,hA,hn,hld,Result.andThen])
theorem ak5 {parts:List (Nat × Operand)} {pl:Nat->Option (Nat × Nat)} {zs:Array Value} {msg:String} {out:List PV} {ks:List Ky} (_:d.ble d=true:=by rfl) (hb:∀(ps:Array (Nat × Value)) w,(Instr.build t ps).run P w=(Rn pl (.agg zs) msg ps).run P w:=by first|(intro ps w;simp[Instr.build];rfl;done)|fail) (h1:zs.toList.all Value.oneCell'=true:=by rfl) (hf:JE M pl (zs.toList.map .sc) parts ks out:=by first|(simp only[map_cons,map_nil];(repeat (first|exact .nil _|(apply JE.cons;rfl;(first|exact .v _|exact .ow rfl rfl|exact .fn _);(first|exact .sc rfl|exact .ag _|exact .sl _ _|exact .pr _);rfl;exact Nat.le_of_ble_eq_true rfl;(simp only[take_succ_cons,take_zero,drop_succ_cons,drop_zero,length_cons,length_nil,nil_append,cons_append,append_nil,Nat.reduceAdd,Nat.reduceMul,Nat.zero_mul,Nat.one_mul,Nat.zero_add,take_nil,drop_nil];rfl))));done)|fail):Yd ⟨some d,.build t parts.toArray,ty,pos,aO,g⟩ P X N ops M ks (.v (.ag out)):=
 ail hb h1 hf
theorem ak6 {e n q:Nat} {zv:Value} {parts:List (Nat × Operand)} {ps:List PV} {ks:List Ky} (_:d.ble d=true:=by rfl) (ht:P.underlying t=some (.slice e):=by first|((simp);all_goals with_reducible rfl;done)|fail) (hq:∀w,(Go.sizeOf e).run P w=.ok q w:=by first|((intro w;simp);all_goals with_reducible rfl;done)|fail) (hz:∀w,(zeroValue e).run P w=.ok zv w:=by first|((intro w;simp);all_goals with_reducible rfl;done)|fail) (hp:uf M q parts 0 ks ps:=by first|((repeat (first|exact .nil _|(apply uf.cons;rfl;(first|exact .v _|exact .ow rfl rfl|exact .fn _);(first|exact .sc rfl|exact .ag _|exact .sl _ _|exact .pr _);rfl)));done)|fail) (hn:ps.length=n:=by rfl) (hq0:0<n*q/\n*q<=10000000:=by decide):Yd ⟨some d,.buildSlice t n parts.toArray,ty,pos,aO,g⟩ P X N ops M ks (.v (.sl q ps)):=
 ain ht hq hz hp hn hq0
theorem ak7 {kd:IntKind} {i:Int} {q e:Nat} {xs:List PV} {p:PV} (hx:ev M x=some (.v (.sl q xs)):=by rfl) (hy:ev M y=some (.v (.sc (.int kd i))):=by rfl) (h0:0<=i:=by omega) (hp:xs[i.toNat]?=some p:=by first|((go_simp);all_goals with_reducible rfl;done)|fail) (ht:P.underlying t=some (.slice e):=by first|((simp);all_goals with_reducible rfl;done)|fail) (hq:∀w,(Go.sizeOf e).run P w=.ok q w:=by first|(intro w;simp;done)|fail) (hq0:0<q:=by decide):Yd ⟨some d,.indexAddr t x y,ty,pos,aO,g⟩ P X N ops M (ok x++ok y) (.v (.pr p)):=
 aio hx hy h0 hp ht hq hq0
theorem ak8 {kd:IntKind} {i:Int} {q j n e' e:Nat} {xs:List PV} {p:PV} (hx:ev M x=some (.ow j n):=by rfl) (ho:get (.o j) M=some (.o (.row e' q xs)):=by rfl) (hn:n=xs.length:=by first|(first|rfl|simp;done)|fail) (hy:ev M y=some (.v (.sc (.int kd i))):=by rfl) (h0:0<=i:=by omega) (hp:xs[i.toNat]?=some p:=by first|((go_simp);all_goals with_reducible rfl;done)|fail) (ht:P.underlying t=some (.slice e):=by first|((simp);all_goals with_reducible rfl;done)|fail) (hq:∀w,(Go.sizeOf e).run P w=.ok q w:=by first|(intro w;simp;done)|fail) (hq0:0<q:=by decide):Yd ⟨some d,.indexAddr t x y,ty,pos,aO,g⟩ P X N ops M (ok x++(.o j::ok y)) (.v (.pr p)):=
 afF hx ho hn hy h0 hp ht hq hq0
theorem ak9 {j n e q:Nat} {xs ys:List PV} (hx:ev M x=some (.ow j n):=by rfl) (ho:get (.o j) M=some (.o (.row e q xs)):=by rfl) (hn:n=xs.length:=by first|(first|rfl|simp;done)|fail) (hy:ev M y=some (.v (.sl q ys)):=by rfl) (hb:xs.length+ys.length<=100000:=by first|(simp<;>omega;done)|fail) (ht:P.underlying t=some (.slice e):=by first|(simp;done)|fail) (hi:lU P e q=true:=by kernel_rfl):Ru ⟨some d,.call {callee:=.builtin .append,args:=#[x,y],argTypes:=#[t,t]},ty,pos,aO,g⟩ P X N ops M (ok x++(.o j::ok y)) [.s d,.o j] ((.s d,.s (.ow j (xs++ys).length))::(.o j,.o (.row e q (xs++ys)))::M):=
 afO hx ho hn hy hb ht hi
theorem ala {j n k v e q:Nat} {xs:List PV} {ts:Array TypeId} (hx:ev M x=some (.ox j n k):=by rfl) (ho:get (.o j) M=some (.o (.aW v e q xs)):=by rfl) (hn:n=xs.length:=by first|(first|rfl|simp;done)|fail) (hk:k=v:=by rfl) (hv:∀(e:Operand->Value) A n c w,e x=.slice A n c->(execOp e ⟨some d,.call {callee:=.builtin .len,args:=#[x],argTypes:=ts},ty,pos,aO,g⟩).run P w=.ok (.value (.int .i64 n)) w:=by first|(intro e A n c w h1;go_simp;done)|fail):Yd ⟨some d,.call {callee:=.builtin .len,args:=#[x],argTypes:=ts},ty,pos,aO,g⟩ P X N ops M (ok x++[.o j]) (.v (.sc (.int .i64 xs.length))):=
 adM x hx ho hn hk hv
theorem alb {kd:IntKind} {i:Int} {j n k v e' q e:Nat} {xs:List PV} (hx:ev M x=some (.ox j n k):=by rfl) (ho:get (.o j) M=some (.o (.aW v e' q xs)):=by rfl) (hn:n=xs.length:=by first|(first|rfl|simp;done)|fail) (hk:k=v:=by rfl) (hy:ev M y=some (.v (.sc (.int kd i))):=by rfl) (h0:0<=i:=by omega) (hi:i.toNat<xs.length:=by first|(simp<;>omega;done)|omega) (ht:P.underlying t=some (.slice e):=by first|((simp);all_goals with_reducible rfl;done)|fail) (hq:∀w,(Go.sizeOf e).run P w=.ok q w:=by first|(intro w;simp;done)|fail):Yd ⟨some d,.indexAddr t x y,ty,pos,aO,g⟩ P X N ops M ((ok x++[.o j])++ok y) (.px j i.toNat 0 n k):=
 afJ hx ho hn hk hy h0 hi ht hq
theorem alc {i c j n k v e q:Nat} {xs:List PV} {p pc:PV} (hx:ev M x=some (.px j i c n k):=by rfl) (ho:get (.o j) M=some (.o (.aW v e q xs)):=by rfl) (hn:n=xs.length:=by first|(first|rfl|simp;done)|fail) (hk:k=v:=by rfl) (hp:xs[i]?=some p:=by first|((go_simp);all_goals with_reducible rfl;done)|fail) (hc:p.cs[c]?=some pc:=by rfl) (hA:∀w,(isAgg t).run P w=.ok false w:=by first|(intro w;simp;done)|fail):Yd ⟨some d,.load t x,ty,pos,aO,g⟩ P X N ops M (ok x++[.o j]) (.v pc):=
 afK x hx ho hn hk hp hc hA rfl
theorem ald {h:Operand} {mm j n k v e q:Nat} {xs:List PV} (hx:ev M x=some (.ox j n k):=by rfl) (ho:get (.o j) M=some (.o (.aW v e q xs)):=by rfl) (hn:n=xs.length:=by first|(first|rfl|simp;done)|fail) (hk:k=v:=by rfl) (hh:ev M h=some (.v (.sc (.int .i64 (mm:Int)))):=by rfl) (h1:mm<=xs.length:=by first|(simp<;>omega;done)|omega) {el:TypeId} (ht:P.underlying t=some (.slice el):=by first|((simp);all_goals with_reducible rfl;done)|fail) (hq:∀w,(Go.sizeOf el).run P w=.ok q w:=by first|(intro w;simp;done)|fail):Ru ⟨some d,.slice t x none (some h) none,ty,pos,aO,g⟩ P X N ops M ((ok x++[.o j])++ok h) [.s d,.o j] ((.s d,.s (.ox j mm (v+1)))::(.o j,.o (.aW (v+1) e q (xs.take mm)))::M):=
 adO (z:=(mm:Int)) hx ho hn hk hh (Int.natCast_nonneg mm) h1 ht hq
theorem ale {j n k v e q:Nat} {xs ys:List PV} (hx:ev M x=some (.ox j n k):=by rfl) (ho:get (.o j) M=some (.o (.aW v e q xs)):=by rfl) (hn:n=xs.length:=by first|(first|rfl|simp;done)|(simp<;>omega;done)|fail) (hk:k=v:=by rfl) (hy:ev M y=some (.v (.sl q ys)):=by rfl) (hb:xs.length+ys.length<=100000:=by first|(simp<;>omega;done)|fail) (ht:P.underlying t=some (.slice e):=by first|(simp;done)|fail) (hi:lU P e q=true:=by kernel_rfl):Ru ⟨some d,.call {callee:=.builtin .append,args:=#[x,y],argTypes:=#[t,t]},ty,pos,aO,g⟩ P X N ops M (ok x++(.o j::ok y)) [.s d,.o j] ((.s d,.s (.ox j (xs++ys).length v))::(.o j,.o (.aW v e q (xs++ys)))::M):=
 adQ hx ho hn hk hy hb ht hi
theorem alf {f:FuncId} {xs:List Operand} {ks:List Ky} {js:List Nat} (_:d.ble d=true:=by rfl) (hc:Cap M xs ks js:=by first|((repeat (first|exact .nil|(apply Cap.cons;rfl)));done)|fail):Yd ⟨some d,.makeFunc (.func f) #[] xs.toArray,ty,pos,aO,g⟩ P X N ops M ks (.fn f js):=
 air hc
theorem alg {f:FuncId} {xs:List Operand} {ts:Array TypeId} {ps:List PV} {ks:List Ky} {p:PV} (_:d.ble d=true:=by rfl) (ha:Arg M xs ks ps:=by first|((repeat (first|exact .nil|(apply Arg.cons;rfl;(first|exact .v _|exact .ow rfl rfl|exact .fn _))));done)|fail) (hc:PC P Ld f ps (·=p):=by first|assumption|exact XM.h|(dsimp only[FV];exact XM.h)|(simp only[length_map,nil_append];first|assumption|exact XM.h)) (hf:∀args w,(callFunc f args).run P w=.ok (.enter f args) w:=by first|(intro args w;go_simp;done)|fail):Yd ⟨some d,.call {callee:=.value (.func f),args:=xs.toArray,argTypes:=ts},ty,pos,aO,g⟩ P X N ops M ks (.v p):=
 aiq ha hc hf
theorem afY (h:fin M) (hc:dr=true->FQ ops (Md ops)=true/\FT (Md ops) acc=true:=by first|(intro h;cases h;done)|exact fun _=>And.intro (by kernel_rfl) (by kernel_rfl)):RG P X N ops dr fin [] acc M:=.done hc h
variable {F:Exit->List (Ky × En)->Prop} {id i:Nat} {c a b:Code} {r:List It} {e:Exit}
theorem mM {l:List Oper} (h:RG P X N l.toArray dr (At P X N F r .normal) l [] M) (hm:P.follows .mixedOrders=true:=by kernel_rfl):GO P X N F (.region id l.toArray dr) r M:=MC h hm
theorem alh {l:List Oper} (h:RG P X N l.toArray dr (At P X N F r .normal) l [] M) (hg:l.all (fun o=>o.guard.isNone)=true:=by rfl) (hm:P.follows .mixedOrders=true:=by kernel_rfl):GO P X N F (.region id l.toArray dr) r M:=MC h hm
theorem ali (h:GO P X N F a r M) (he:ev M x=some (.v (.sc (.bool true))):=by rfl):GO P X N F (.cond x a b) r M:=CX he (fun _=>h) fun h=>by cases h
theorem alj (h:GO P X N F b r M) (he:ev M x=some (.v (.sc (.bool false))):=by rfl):GO P X N F (.cond x a b) r M:=CX he (fun h=>by cases h) fun _=>h
theorem alk (h:At P X N F r (.exit i) M) (hi:i≠id:=by decide):At P X N F (.b id::r) (.exit i) M:=ah5 h hi
theorem aiE (h:At P X N F r e M) (he:e≠.normal:=by first|(intro h;cases h;done)|fail):At P X N F (.c c::r) e M:=adG h he
theorem alm {R:List (Ky × En)->Prop} (h:At P X N F r e M) (he:e≠.normal:=by first|(intro h;cases h;done)|fail):At P X N F (.r R::r) e M:=ah7 h he
theorem bM {u:Bool} (h1:u=true->GO P X N F a r M) (h2:u=false->GO P X N F b r M) (he:ev M x=some (.v (.sc (.bool u))):=by rfl):GO P X N F (.cond x a b) r M:=CX he h1 h2
end
section
variable {P:Program} {Ld:bU} {X:Cx Ld} {N:Nat} {ops:Array Oper} {dr:Bool} {fin:List (Ky × En)->Prop} {o:Oper} {rest:List Oper} {acc:List (List Ky × List Ky)} {M:List (Ky × En)} {d:Nat} {ty:TypeId} {pos:String} {aO:Array Edge} {g:Option (Nat × Bool)} {x y z:Operand} {sx sy:bF} {t:TypeId}
theorem aln {q i k:Nat} {xs:List PV} {e:TypeId} {lo hi:Option Operand} (hx:ev M x=some sx:=by rfl) (hd:oh M sx (.sl q xs):=by first|exact .v _|exact .ow rfl rfl) (hl:Bd M lo 0 i:=by first|exact .no _|exact .is rfl rfl) (hh:Bd M hi xs.length k:=by first|exact .no _|exact .is rfl rfl) (h1:i<=k:=by first|omega|(simp;done)|(simp<;>omega)) (h2:k<=xs.length:=by first|omega|(simp;done)|(simp<;>omega)) (ht:P.underlying t=some (.slice e):=by first|((simp);all_goals with_reducible rfl;done)|fail) (hq:∀w,(Go.sizeOf e).run P w=.ok q w:=by first|(intro w;simp;done)|fail):Yd ⟨some d,.slice t x lo hi none,ty,pos,aO,g⟩ P X N ops M ((ok x++sx.refs.map .o)++(okO lo++okO hi)) (.v (.sl q ((xs.take k).drop i))):=
 ait hx hd hl hh h1 h2 ht hq
theorem alo {i k:Nat} {s:ByteArray} {lo hi:Option Operand} (hx:ev M x=some (.v (.sc (.string s))):=by rfl) (hl:Bd M lo 0 i:=by first|exact .no _|exact .is rfl rfl) (hh:Bd M hi s.size k:=by first|exact .no _|exact .is rfl rfl) (h1:i<=k:=by first|omega|(simp;done)) (h2:k<=s.size:=by first|omega|(simp;done)) (ht:P.underlying t=some .string:=by first|(simp;done)|fail):Yd ⟨some d,.slice t x lo hi none,ty,pos,aO,g⟩ P X N ops M (ok x++(okO lo++okO hi)) (.v (.sc (.string (s.extract i k)))):=
 aiu hx hl hh h1 h2 ht
structure Lo (d:Nat):Prop where
structure Lx (d:Nat):Prop where
theorem alp {e n q:Nat} {zv:Value} {parts:List (Nat × Operand)} {ps:List PV} {ks:List Ky} (_:Lo d:=by assumption) (ht:P.underlying t=some (.slice e):=by first|((simp);all_goals with_reducible rfl;done)|fail) (hq:∀w,(Go.sizeOf e).run P w=.ok q w:=by first|((intro w;simp);all_goals with_reducible rfl;done)|fail) (hz:∀w,(zeroValue e).run P w=.ok zv w:=by first|((intro w;simp);all_goals with_reducible rfl;done)|fail) (hp:uf M q parts 0 ks ps:=by first|((repeat (first|exact .nil _|(apply uf.cons;rfl;(first|exact .v _|exact .ow rfl rfl|exact .fn _);(first|exact .sc rfl|exact .ag _|exact .sl _ _|exact .pr _);rfl)));done)|fail) (hn:ps.length=n:=by rfl) (hq0:n*q<=10000000/\n<=10000000:=by decide) (hj:get (.o d) M=none:=by rfl) (h9:d≠900:=by decide):Ru ⟨some d,.buildSlice t n parts.toArray,ty,pos,aO,g⟩ P X N ops M (.o d::ks) [.s d,.o d] ((.s d,.s (.ow d n))::(.o d,.o (.row e q ps))::M):=
 aiv ht hq hz hp hn hq0 hj h9
theorem alq {e n q:Nat} {zv:Value} {parts:List (Nat × Operand)} {ps:List PV} {ks:List Ky} (_:Lx d:=by assumption) (ht:P.underlying t=some (.slice e):=by first|((simp);all_goals with_reducible rfl;done)|fail) (hq:∀w,(Go.sizeOf e).run P w=.ok q w:=by first|((intro w;simp);all_goals with_reducible rfl;done)|fail) (hz:∀w,(zeroValue e).run P w=.ok zv w:=by first|((intro w;simp);all_goals with_reducible rfl;done)|fail) (hp:uf M q parts 0 ks ps:=by first|((repeat (first|exact .nil _|(apply uf.cons;rfl;(first|exact .v _|exact .ow rfl rfl|exact .fn _);(first|exact .sc rfl|exact .ag _|exact .sl _ _|exact .pr _);rfl)));done)|fail) (hn:ps.length=n:=by rfl) (hq0:n*q<=10000000/\n<=10000000:=by decide) (hj:get (.o d) M=none:=by rfl) (h9:d≠900:=by decide):Ru ⟨some d,.buildSlice t n parts.toArray,ty,pos,aO,g⟩ P X N ops M (.o d::ks) [.s d,.o d] ((.s d,.s (.ox d n 0))::(.o d,.o (.aW 0 e q ps))::M):=
 aiw ht hq hz hp hn hq0 hj h9
theorem alr {f i c k j n c' e' q':Nat} {xs':List PV} (hx:ev M x=some (.px j i c n k):=by rfl) {s:Nat} (hv:∀(e:Operand->Value) b off w,e x=.pointer (some ⟨b,off,none⟩)->(execOp e ⟨some d,.fieldAddr t x f,ty,pos,aO,g⟩).run P w=.ok (.value (.pointer (some ⟨b,off+s,none⟩))) w:=by first|((intro e b off w h;go_simp);all_goals with_reducible rfl;done)|fail) (ho:get (.o j) M=some (.o (.aW k e' q' xs')):=by rfl) (hn:n=xs'.length:=by first|rfl|(simp;done)) (hk:c+s=c':=by first|(simp only[Nat.zero_add,Nat.add_zero,Nat.reduceAdd];rfl;done)|fail):Yd ⟨some d,.fieldAddr t x f,ty,pos,aO,g⟩ P X N ops M (ok x++[.o j]) (.px j i c' n k):=
 by subst hk;exact afP x hx hv ho hn
theorem als {i c n k v e q j s:Nat} {xs:List PV} {p:PV} {l:List PV} (hx:ev M x=some (.px j i c n k):=by rfl) (hA:∀w,(isAgg t).run P w=.ok true w:=by first|(intro w;simp;done)|fail) (ho:get (.o j) M=some (.o (.aW v e q xs)):=by rfl) (hn:n=xs.length:=by first|rfl|(simp;done)) (hk:k=v:=by rfl) (hp:xs[i]?=some p:=by first|((go_simp);all_goals with_reducible rfl;done)|fail) (hs:∀w,(Go.sizeOf t).run P w=.ok s w:=by first|((intro w;simp);all_goals with_reducible rfl;done)|fail) (hl:(p.cs.drop c).take s=l:=by first|(simp only[PV.cs,drop_zero,drop_succ_cons,take_succ_cons,take_zero];with_reducible rfl)|rfl) (hls:l.length=s:=by rfl):Yd ⟨some d,.load t x,ty,pos,aO,g⟩ P X N ops M (ok x++[.o j]) (.v (.ag l)):=
 afQ x hx ho hn hk hp hA hs hl hls rfl
theorem alu {i c n k v e q j:Nat} {xs:List PV} {p0 p:PV} {l l':List PV} (hx:ev M x=some (.px j i c n k):=by rfl) (ho:get (.o j) M=some (.o (.aW v e q xs)):=by rfl) (hn:n=xs.length:=by first|rfl|(simp;done)) (hk:k=v:=by rfl) (hy:ev M y=some sy:=by rfl) (hd:oh M sy p:=by first|exact .v _|exact .ow rfl rfl|exact .fn _) (hpl:Af p l:=by first|exact .sc rfl|exact .ag _|exact .sl _ _|exact .pr _) (hs:∀w,(Go.sizeOf t).run P w=.ok l.length w:=by first|(intro w;simp;done)|fail) (hp:xs[i]?=some p0:=by first|((go_simp);all_goals with_reducible rfl;done)|fail) (hc:(c+l.length).ble p0.cs.length=true:=by rfl) (hp':p0.cs.take c++l++p0.cs.drop (c+l.length)=l':=by rfl):Ru ⟨none,.store t x y,ty,pos,aO,g⟩ P X N ops M (ok x++(ok y++.o j::sy.refs.map .o)) [.o j] ((.o j,.o (.aW v e q (xs.set i (.ag l'))))::M):=
 XK (p':=.ag l') hx ho hn hk hy hd hpl hs hp (Nat.le_of_ble_eq_true hc) hp'.symm
theorem alv {i c n k v e q j q':Nat} {xs ys:List PV} {p0:PV} {l':List PV} (hy:ev M y=some (.v (.sc (.slice none 0 0))):=by rfl) (hx:ev M x=some (.px j i c n k):=by rfl) (ho:get (.o j) M=some (.o (.aW v e q xs)):=by rfl) (hn:n=xs.length:=by first|rfl|(simp;done)) (hk:k=v:=by rfl) (hs:∀w,(Go.sizeOf t).run P w=.ok 1 w:=by first|(intro w;simp;done)|fail) (hp:xs[i]?=some p0:=by first|((go_simp);all_goals with_reducible rfl;done)|fail) (hc0:p0.cs[c]?=some (.sl q' ys):=by rfl) (hc:(c+1).ble p0.cs.length=true:=by rfl) (hp':p0.cs.take c++[.sl q' []]++p0.cs.drop (c+1)=l':=by rfl):Ru ⟨none,.store t x y,ty,pos,aO,g⟩ P X N ops M (ok x++(ok y++.o j::(bF.v (.sc (.slice none 0 0))).refs.map .o)) [.o j] ((.o j,.o (.aW v e q (xs.set i (.ag l'))))::M):=
 XK (p':=.ag l') (l:=[.sl q' []]) hx ho hn hk hy (.nil q') (.sl q' []) hs hp (Nat.le_of_ble_eq_true hc) hp'.symm
theorem alx {j off n:Nat} {cs:List bF} {qs:List SC} (hx:ev M x=some (.pt j off):=by rfl) (hA:∀w,(isAgg t).run P w=.ok true w:=by first|(intro w;simp;done)|fail) (hn:∀w,(Go.sizeOf t).run P w=.ok n w:=by first|((intro w;simp);all_goals with_reducible rfl;done)|fail) (ho:get (.o j) M=some (.o (.blk cs)):=by rfl) (hq:(cs.drop off).take n=qs.map SC.s:=by first|exact scq rfl|fail) (Jw:qs.length=n:=by rfl):Yd ⟨some d,.load t x,ty,pos,aO,g⟩ P X N ops M (ok x++[.o j]) (.sg qs):=
 aiy x hx ho hA hn hq Jw rfl
class afZ (P:Program) (Ld:bU) (f:FuncId) (ps:List PV) (p:outParam PV):Prop where
 h:Bg P Ld f ps p
theorem aiF {f:FuncId} {xs:List Operand} {ts:Array TypeId} {ps:List PV} {ks:List Ky} {p:PV} (_:d.ble d=true:=by rfl) (ha:JG M xs ks ps:=by first|((repeat (first|exact .nil|(apply JG.cons;rfl;(first|exact .t (.d (.v _))|exact .t (.d (.ow rfl rfl))|exact .t (.ox rfl rfl rfl)|exact .sg (by repeat (first|exact .nil|(apply EC.cons;(first|exact .d (.v _)|exact .d (.ow rfl rfl)|exact .ox rfl rfl rfl))))))));done)|fail) (hc:Bg P Ld f ps p:=by first|assumption|exact afZ.h|(dsimp only[FV];exact afZ.h)) (hf:∀args w,(callFunc f args).run P w=.ok (.enter f args) w:=by first|(intro args w;go_simp;done)|fail):Yd ⟨some d,.call {callee:=.value (.func f),args:=xs.toArray,argTypes:=ts},ty,pos,aO,g⟩ P X N ops M ks (.v p):=
 aiC ha hc hf
theorem aly {j off:Nat} (hx:ev M x=some (.pt j off):=by rfl):Yd ⟨some d,.nilCheck x,ty,pos,aO,g⟩ P X N ops M (ok x++[.o j]) (.pt j off):=
 acD x hx (fun m ρ L w u h _=>by obtain⟨_,b,_,h⟩:=h;exact⟨b,off,h⟩) rfl
theorem alz {p:PV} (hx:ev M x=some (.v (.pr p)):=by rfl):Yd ⟨some d,.nilCheck x,ty,pos,aO,g⟩ P X N ops M (ok x++[]) (.v (.pr p)):=
 acD x hx (fun m ρ L w u h _=>by obtain⟨_,b,off,h,_⟩:=RP.tY h;exact⟨b,off,h⟩) rfl
theorem alA {i n q:Nat} {z:Int} {kd:IntKind} {l l':List PV} {e:TypeId} (hx:ev M x=some (.v (.ag l)):=by rfl) (hy:ev M y=some (.v (.sc (.int kd z))):=by rfl) (hz:z=(i:Int):=by rfl) (ht:P.underlying t=some (.array n e):=by first|(simp;exact And.intro rfl rfl)|fail) (hA:∀w,(isAgg e).run P w=.ok true w:=by first|(intro w;simp;done)|fail) (hq:∀w,(Go.sizeOf e).run P w=.ok q w:=by first|((intro w;simp);all_goals with_reducible rfl;done)|fail) (hi:i<n:=by first|omega|decide) (hl:(l.drop (i*q)).take q=l':=by rfl):Yd ⟨some d,.index t x y,ty,pos,aO,g⟩ P X N ops M (ok x++ok y) (.v (.ag l')):=
 by
 subst hz;exact aiz hx hy ht hA hq hi hl
theorem alB {i n:Nat} {z:Int} {kd:IntKind} {l:List PV} {p:PV} {e:TypeId} (hx:ev M x=some (.v (.ag l)):=by rfl) (hy:ev M y=some (.v (.sc (.int kd z))):=by rfl) (hz:z=(i:Int):=by rfl) (ht:P.underlying t=some (.array n e):=by first|(simp;exact And.intro rfl rfl)|fail) (hA:∀w,(isAgg e).run P w=.ok false w:=by first|(intro w;simp;done)|fail) (hq:∀w,(Go.sizeOf e).run P w=.ok 1 w:=by first|((intro w;simp);done)|fail) (hi:i<n:=by first|omega|decide) (hl:l[i]?=some p:=by first|rfl|assumption):Yd ⟨some d,.index t x y,ty,pos,aO,g⟩ P X N ops M (ok x++ok y) (.v p):=
 by
 subst hz;exact aiA hx hy ht hA hq hi hl
theorem alC {j off k off':Nat} {vy:Value} (hx:ev M x=some (.pt j off):=by rfl) (hy:ev M y=some (.v (.sc vy)):=by rfl) (hv:∀(e:Operand->Value) b off w,e x=.pointer (some ⟨b,off,none⟩)->e y=vy->(execOp e ⟨some d,.indexAddr t x y,ty,pos,aO,g⟩).run P w=.ok (.value (.pointer (some ⟨b,off+k,none⟩))) w:=by first|((intro e b off w h h';go_simp);all_goals with_reducible rfl;done)|fail) (hk:off+k=off':=by first|(simp only[Nat.zero_add,Nat.add_zero,Nat.reduceAdd];rfl;done)|fail):Yd ⟨some d,.indexAddr t x y,ty,pos,aO,g⟩ P X N ops M (ok x++ok y) (.pt j off'):=
 afR x y hx hy hv hk
structure Lg (d:Nat):Prop where
theorem alD {parts:List (Nat × Operand)} {pl:Nat->Option (Nat × Nat)} {zs:Array Value} {msg:String} {out:List SC} {ks:List Ky} (_:Lg d:=by assumption) (hb:∀(ps:Array (Nat × Value)) w,(Instr.build t ps).run P w=(Rn pl (.agg zs) msg ps).run P w:=by first|(intro ps w;simp[Instr.build];rfl;done)|fail) (h1:zs.toList.all Value.oneCell'=true:=by rfl) (hf:Bf M pl (zs.toList.map fun v=>.v (.sc v)) parts ks out:=by first|(simp only[map_cons,map_nil];(repeat (first|exact .nil _|(apply Bf.cons;rfl;(first|exact .sc rfl|exact .ag _|exact .sl _ _|exact .ow rfl rfl|exact .ox rfl rfl rfl);rfl;rfl;exact Nat.le_of_ble_eq_true rfl;(simp only[take_succ_cons,take_zero,drop_succ_cons,drop_zero,length_cons,length_nil,nil_append,cons_append,append_nil,Nat.reduceAdd,Nat.zero_add,take_nil,drop_nil];rfl))));done)|fail):Yd ⟨some d,.build t parts.toArray,ty,pos,aO,g⟩ P X N ops M ks (.sg out):=
 aiB hb h1 hf
def yw (P:Program) (Ld:bU) (f:FuncId) (zas:List (Option PV)) (cs:List PV) (p:PV) (l:List PV):Prop:=Rx P Ld f zas cs fun p' l'=>p'=p/\l'=l
class U0 (P:Program) (Ld:bU) (f:FuncId) (zas:List (Option PV)) (cs:List PV) (p:outParam PV) (l:outParam (List PV)):Prop where
 h:yw P Ld f zas cs p l
theorem alE {f j:Nat} {xs:List Operand} {ts:Array TypeId} {zas:List (Option PV)} {ks:List Ky} {cs l:List PV} {xc:List bF} {p:PV} (_:d.ble d=true:=by rfl) (ha:Bc M j xs ks zas:=by first|((repeat (first|exact .nil|(apply Bc.ptr;rfl)|(apply Bc.cons;rfl;(first|exact .v _|exact .ow rfl rfl|exact .fn _|exact .nil _))));done)|fail) (ho:get (.o j) M=some (.o (.blk xc)):=by rfl) (hxc:xc=cs.map .v:=by rfl) (hc:yw P Ld f zas cs p l:=by first|assumption|exact U0.h|(dsimp only[FV];exact U0.h)|(simp only[length_map];first|assumption|exact U0.h)) (hf:∀args w,(callFunc f args).run P w=.ok (.enter f args) w:=by first|(intro args w;go_simp;done)|fail):Ru ⟨some d,.call {callee:=.value (.func f),args:=xs.toArray,argTypes:=ts},ty,pos,aO,g⟩ P X N ops M (ks++[.o j]) [.s d,.o j] ((.s d,.s (.v p))::(.o j,.o (.blk (l.map .v)))::M):=
 ais (.v p) ha ho hxc hc (fun p' l' ⟨h1,h2⟩=>⟨h1,by rw[h2,length_map],fun i x q hx hq=>by
  subst h2;rw[getElem?_map,hq] at hx;cases hx;rfl⟩) hf
end
section
variable {P:Program} {Ld:bU} {X:Cx Ld} {N:Nat} {ops:Array Oper} {dr:Bool} {fin:List (Ky × En)->Prop} {o:Oper} {rest:List Oper} {acc:List (List Ky × List Ky)} {M M':List (Ky × En)} {d:Nat} {x:bF} {K W:List Ky}
theorem ED {b:Bool} {x:Option Bool} (h:(bif b then x else none)=some true):b=true/\x=some true:=by
 cases b
 ·cases h
 ·exact⟨rfl,h⟩
theorem XO (next:RG P X N ops dr fin rest (acc++[(gk ops o++K,[.s d])]) ((.s d,.s x)::M)) (hd:o.dst=some d:=by rfl) (hs:(bif Nat.blt d N then Ac ops M o else none)=some true:=by rfl) (h:Yd o P X N ops M K x:=by first|exact akD|exact akE|exact afV|exact akG|exact alF|exact akF|exact akX|exact ak0|exact akQ|exact ak7):RG P X N ops dr fin (o::rest) acc M:=
 have k:=ED hs;h.h d hd (Nat.le_of_ble_eq_true k.1) k.2 _ _ _ _ next
theorem r_2 (next:RG P X N ops dr fin rest (acc++[(gk ops o++K,W)]) M') (hs:(bif dst o N then Ac ops M o else none)=some true:=by rfl) (h:Ru o P X N ops M K W M':=by first|exact akW|exact akV|exact alp|exact alq|exact ak9|exact akU|exact ald|exact ale|exact alv|exact alu):RG P X N ops dr fin (o::rest) acc M:=
 have k:=ED hs;h.h k.1 k.2 _ _ _ _ next
theorem r_3 (next:RG P X N ops dr fin rest (acc++[(gk ops o++K,[.s d])]) ((.s d,.s x)::M)) (hd:o.dst=some d:=by rfl) (hs:(bif Nat.blt d N then Ac ops M o else none)=some true:=by rfl) (h:Yd o P X N ops M K x:=by first|exact alD|exact ak5|exact ak6|exact akT|exact alg|exact ak3|exact ak2|exact akZ|exact ak1|exact ak4|exact akS|exact akJ|exact akI|exact akH|exact akK|exact akR|exact ak8|exact akL|exact akM|exact akN|exact akO|exact akP|exact alf|exact akY|exact alC|exact ala|exact alb|exact alc|exact alr|exact als|exact aln|exact alo|exact alx|exact aiF|exact aly|exact alz|exact alB|exact alA):RG P X N ops dr fin (o::rest) acc M:=
 have k:=ED hs;h.h d hd (Nat.le_of_ble_eq_true k.1) k.2 _ _ _ _ next
theorem r_4 (next:RG P X N ops dr fin rest (acc++[(gk ops o++K,W)]) M') (hs:(bif dst o N then Ac ops M o else none)=some true:=by rfl) (h:Ru o P X N ops M K W M':=by exact alE):RG P X N ops dr fin (o::rest) acc M:=
 have k:=ED hs;h.h k.1 k.2 _ _ _ _ next
end
structure Cov (p:Prop):Prop where
 out:p
theorem run {A B:Prop} (h:B) (k:Cov B->A:=by
  (intro zzh
   repeat (first
    |refine alh ?_|refine XO ?_|refine afY ?_|refine at_next ?_|refine Xh ?_|refine r_2 ?_|refine r_3 ?_|refine r_4 ?_
    |refine afW ?_|refine afX ?_|refine Z7 ?_|refine ali ?_|refine alj ?_|refine go_skip' ?_|refine adF ?_|refine go_ret' ?_|refine ah3 ?_|refine ah4 ?_|refine alk ?_|refine ah6 ?_|refine aiE ?_|refine alm ?_)
   exact zzh.out)):A:=k ⟨h⟩
structure Sz (a:ByteArray) (n:Nat):Prop where
 le:a.size<=n
theorem Sz.add {a b:ByteArray} {n m:Nat} (h:Sz a n) (h':Sz b m):Sz (a++b) (n+m):=⟨by rw[ByteArray.size_append];have:=h.le;have:=h'.le;omega⟩
theorem Sz.lit (l:Array UInt8):Sz ⟨l⟩ l.size:=⟨Nat.le_refl _⟩
section
variable {P:Program} {Ld:bU} {X:Cx Ld} {N:Nat} {ops:Array Oper} {dr:Bool} {fin:List (Ky × En)->Prop} {rest:List Oper} {acc:List (List Ky × List Ky)} {M:List (Ky × En)} {d:Nat} {ty:TypeId} {pos:String} {aO:Array Edge} {g:Option (Nat × Bool)} {x y:Operand} {t yt:TypeId} {a b:ByteArray} {n m:Nat}
theorem alF (hx:ev M x=some (.v (.sc (.string a))):=by rfl) (hy:ev M y=some (.v (.sc (.string b))):=by rfl) (ha:Sz a n:=by first|((repeat (first|assumption|apply Sz.add|exact Sz.lit _));done)|fail) (hb:Sz b m:=by first|((repeat (first|assumption|apply Sz.add|exact Sz.lit _));done)|fail) (hn:(n+m).ble 9223372036854775807=true:=by rfl) (hv:∀(e:Operand->Value) a b w,e x=.string a->e y=.string b->¬(9223372036854775807<a.size+b.size)->(execOp e ⟨some d,.binOp .add t x y yt,ty,pos,aO,g⟩).run P w=.ok (.value (.string (a++b))) w:=by first|((intro e a b w h1 h2 h3;go_simp);all_goals with_reducible rfl;done)|fail):Yd ⟨some d,.binOp .add t x y yt,ty,pos,aO,g⟩ P X N ops M (ok x++ok y) (.v (.sc (.string (a++b)))):=
 CY x y hx hy (fun e w h1 h2=>hv e a b w h1 h2 (by have:=ha.le;have:=hb.le;have:=Nat.le_of_ble_eq_true hn;omega))
end
end Go.Proofs.YtjpbmbgincdjaaaGreatDoor
set_option linter.unusedVariables false
namespace Go.Proofs.YtjpbmbgincdjaaaGreatDoor
open Go.RowKit List
inductive Kp (M:List (Ky × En)):List Ky->List (Ky × En)->Prop
 |nil:Kp M [] []
 |cons {k:Ky} {e:En} {ks:List Ky} {r:List (Ky × En)} (h:get k M=some e) (hr:Kp M ks r):Kp M (k::ks) ((k,e)::r)
inductive Sb (M:List (Ky × En)):List Ky->List (Ky × En)->Prop
 |nil {s:List Ky}:Sb M s []
 |cons {s:List Ky} {k:Ky} {e e':En} {r:List (Ky × En)} (h:get k M=some e') (he:e'=e) (hr:Sb M (k::s) r):Sb M s ((k,e)::r)
 |skip {s:List Ky} {k:Ky} {e:En} {r:List (Ky × En)} (h:s.any k.eq=true) (hr:Sb M s r):Sb M s ((k,e)::r)
theorem Sb.sub' {M l:List (Ky × En)} {s:List Ky} (h:Sb M s l):∀k e,s.any k.eq=false->get k l=some e->get k M=some e:=by
 induction h with
 |nil=>intro k e _ hk;cases hk
 |@cons s k' e1 e' r h he _ ih=>
  intro k e hs hk;rw[bK] at hk;by_cases hkk:k=k'
  ·rw[if_pos hkk] at hk;cases hk;rw[hkk,h,he]
  ·rw[if_neg hkk] at hk;refine ih k e ?_ hk;have:k.eq k'=false:=by cases hh:k.eq k' with|false=>rfl|true=>exact absurd (Ky.eq_iff.1 hh) hkk
   rw[any_cons,this,hs];rfl
 |@skip s k' e1 r h _ ih=>
  intro k e hs hk;rw[bK] at hk;by_cases hkk:k=k'
  ·rw[hkk,h] at hs;cases hs
  ·rw[if_neg hkk] at hk;exact ih k e hs hk
theorem Sb.sub {M l:List (Ky × En)} (h:Sb M [] l):kM M l:=fun k e hk=>h.sub' k e rfl hk
theorem Kp.sub {M:List (Ky × En)} {ks:List Ky} {l:List (Ky × En)} (h:Kp M ks l):kM M l:=by
 induction h with
 |nil=>intro k e hk;cases hk
 |@cons k e ks r h _ ih=>
  intro k' e' hk;rw[bK] at hk;by_cases hkk:k'=k
  ·rw[if_pos hkk] at hk;cases hk;rw[hkk];exact h
  ·rw[if_neg hkk] at hk;exact ih k' e' hk
theorem kM.app {M a b:List (Ky × En)} (h:kM M a) (k:kM M b):kM M (a++b):=fun q e hq=>by
 rw[get_append] at hq;cases ha:get q a with
 |some e'=>rw[ha] at hq;cases hq;exact h q e ha
 |none=>rw[ha] at hq;exact k q e hq
section
variable {P:Program} {Ld:bU} {X:Cx Ld} {N:Nat} {F:Exit->List (Ky × En)->Prop} {c:Code} {r:List It} {M:List (Ky × En)}
theorem alG (ks:List Ky) {Mk:List (Ky × En)} (next:GO P X N F c r Mk) (hk:Kp M ks Mk:=by first|((repeat (first|exact .nil|(apply Kp.cons;rfl)));done)|fail) (hc:shut Mk=true:=by rfl):GO P X N F c r M:=ae1 Mk hk.sub hc next
theorem Nw {α:Type} (f:α->List (Ky × En)) (ks:List Ky) (I:α->Prop) (μ:α->Nat) (b0:α) {Mk:List (Ky × En)} (h0:I b0)
  (round:∀b,I b->GO P X N F c (.r (fun M'=>∃b',I b'/\μ b'<μ b/\kM M' (f b'++Mk))::r) (f b++Mk))
  (hk:Kp M ks Mk:=by first|((repeat (first|exact .nil|(apply Kp.cons;rfl)));done)|fail) (hs:Sb M [] (f b0):=by first|((repeat (first|exact .nil|(apply Sb.skip;rfl)|(apply Sb.cons;rfl;(first|rfl|simp))));done)|fail) (hc:∀b,shut (f b++Mk)=true:=by first|(intro b;rfl;done)|fail):GO P X N F (.loop c) r M:=
 go_loop (fun b=>f b++Mk) I μ b0 h0 (hs.sub.app hk.sub) hc round
theorem Ny {α:Type} {S:α->List (Ky × En)} {I:α->Prop} {μ:α->Nat} {n:Nat} (b':α) (hI:I b') (hm:μ b'<n)
  (hs:Sb M [] (S b'):=by first|((repeat (first|exact .nil|(apply Sb.skip;rfl)|(apply Sb.cons;rfl;(first|with_reducible rfl|(simp only[*,map_append,map_cons,map_nil,length_append,length_map,length_set,length_cons,length_nil]<;>rfl)|rfl))));done)|fail):At P X N F (.r (fun M'=>∃b',I b'/\μ b'<n/\kM M' (S b'))::r) .normal M:=Et ⟨b',hI,hm,hs.sub⟩
theorem wrap_succ (k:Nat) (h:k<9223372036854775807):IntKind.i64.wrap ((k:Int)+1)=(k:Int)+1:=by rw[IntKind.wrap_i64];omega
theorem jr (n:Nat) (f:Nat->List (Ky × En)) (ks:List Ky) {Mk:List (Ky × En)}
  (round:∀k,k<=n->IntKind.i64.wrap ((k:Int)+1)=(k:Int)+1->GO P X N F c (.r (fun M'=>k<n/\kM M' (f (k+1)++Mk))::r) (f k++Mk)) (hn:n<9223372036854775807:=by omega)
  (hk:Kp M ks Mk:=by first|((repeat (first|exact .nil|(apply Kp.cons;rfl)));done)|fail) (hs:Sb M [] (f 0):=by first|((repeat (first|exact .nil|(apply Sb.skip;rfl)|(apply Sb.cons;rfl;(first|rfl|simp))));done)|fail) (hc:∀b,shut (f b++Mk)=true:=by first|(intro b;rfl;done)|fail):GO P X N F (.loop c) r M:=
 go_loop (fun k=>f k++Mk) (·<=n) (n-·) 0 (Nat.zero_le _) (hs.sub.app hk.sub) hc fun k hk'=>⟨fun a w hR=>Code.wp_mono (fun e a' w' ⟨M',h1,h2⟩=>by
  cases e with
  |normal=>exact⟨M',⟨k+1,h1.1,by have h3:k<n:=h1.1;omega,h1.2⟩,h2⟩
  |_=>exact⟨M',h1,h2⟩) ((round k hk' (wrap_succ k (by omega))).out a w hR)⟩
theorem gq {n k:Nat} {l:List (Ky × En)} (hk:k<n:=by first|assumption|omega)
  (hs:Sb M [] l:=by first|((repeat (first|exact .nil|(apply Sb.skip;rfl)|(apply Sb.cons;rfl;(first|with_reducible rfl|(simp only[*,map_append,map_cons,map_nil,length_append,length_map,length_set,length_cons,length_nil,flatMap_append,flatMap_cons,flatMap_nil,append_nil]<;>rfl)|rfl))));done)|fail):At P X N F (.r (fun M'=>k<n/\kM M' l)::r) .normal M:=Et ⟨hk,hs.sub⟩
theorem mO (n:Nat) (J:Nat->Prop) (f:Nat->List (Ky × En)) (ks:List Ky) {Mk:List (Ky × En)}
  (round:∀k,k<=n->J k->IntKind.i64.wrap ((k:Int)+1)=(k:Int)+1->GO P X N F c (.r (fun M'=>k<n/\J (k+1)/\kM M' (f (k+1)++Mk))::r) (f k++Mk)) (h0:J 0) (hn:n<9223372036854775807:=by omega)
  (hk:Kp M ks Mk:=by first|((repeat (first|exact .nil|(apply Kp.cons;rfl)));done)|fail) (hs:Sb M [] (f 0):=by first|((repeat (first|exact .nil|(apply Sb.skip;rfl)|(apply Sb.cons;rfl;(first|rfl|simp))));done)|fail) (hc:∀b,shut (f b++Mk)=true:=by first|(intro b;rfl;done)|fail):GO P X N F (.loop c) r M:=
 go_loop (fun k=>f k++Mk) (fun k=>k<=n/\J k) (n-·) 0 ⟨Nat.zero_le _,h0⟩ (hs.sub.app hk.sub) hc fun k hk'=>⟨fun a w hR=>Code.wp_mono (fun e a' w' ⟨M',h1,h2⟩=>by
  cases e with
  |normal=>exact⟨M',⟨k+1,⟨h1.1,h1.2.1⟩,by have h3:k<n:=h1.1;omega,h1.2.2⟩,h2⟩
  |_=>exact⟨M',h1,h2⟩) ((round k hk'.1 hk'.2 (wrap_succ k (by have:=hk'.1;omega))).out a w hR)⟩
theorem mP {n k:Nat} {J:Prop} {l:List (Ky × En)} (hJ:J) (hk:k<n:=by first|assumption|omega)
  (hs:Sb M [] l:=by first|((repeat (first|exact .nil|(apply Sb.skip;rfl)|(apply Sb.cons;rfl;(first|with_reducible rfl|(simp only[*,map_append,map_cons,map_nil,length_append,length_map,length_set,length_cons,length_nil,flatMap_append,flatMap_cons,flatMap_nil,append_nil]<;>rfl)|rfl))));done)|fail):At P X N F (.r (fun M'=>k<n/\J/\kM M' l)::r) .normal M:=Et ⟨hk,hJ,hs.sub⟩
theorem aZ {a b:Code} {x:Operand} {p:Prop} [Decidable p] (h1:p->GO P X N F a r M) (h2:¬p->GO P X N F b r M) (he:ev M x=some (.v (.sc (.bool (decide p)))):=by rfl):GO P X N F (.cond x a b) r M:=
 CX he (fun h=>h1 (of_decide_eq_true h)) fun h=>h2 (of_decide_eq_false h)
def NL (_:Bool):Prop:=True
theorem NL.t:NL true:=trivial
theorem NL.f:NL false:=trivial
theorem NL.any (b:Bool):NL b:=trivial
theorem alH {ops:Array Oper} {dr:Bool} {fin:List (Ky × En)->Prop} {o:Oper} {rest:List Oper} {acc:List (List Ky × List Ky)} {d:Nat} {u:Bool} (h1:u=true->RG P X N ops dr fin (o::rest) acc ((.s d,.s (.v (.sc (.bool true))))::M)) (h2:u=false->RG P X N ops dr fin (o::rest) acc ((.s d,.s (.v (.sc (.bool false))))::M)) (hg:gk ops o=[.s d]:=by rfl) (he:get (.s d) M=some (.s (.v (.sc (.bool u)))):=by rfl) (_:NL u:=by first|((fail_if_success (with_reducible exact NL.t));(fail_if_success (with_reducible exact NL.f));exact NL.any _)|fail):RG P X N ops dr fin (o::rest) acc M:=by
 have same:∀b,u=b->∀k,get k M=get k ((.s d,.s (.v (.sc (.bool b))))::M):=fun b hb k=>by
  rw[bK];by_cases hk:k=.s d
  ·rw[if_pos hk,hk,he,hb]
  ·rw[if_neg hk]
 cases hu:u
 ·exact .same (same _ hu) (h2 hu)
 ·exact .same (same _ hu) (h1 hu)
theorem eP {l:List (Ky × En)} (hs:Sb M [] l:=by first|((repeat (first|exact .nil|(apply Sb.skip;rfl)|(apply Sb.cons;rfl;(first|with_reducible rfl|(simp only[*,map_append,map_cons,map_nil,length_append,length_map,length_set,set_set,Int.toNat_natCast,length_cons,length_nil,flatMap_append,flatMap_cons,flatMap_nil,append_nil,Bool.and_true,Bool.true_and,Bool.and_false,Bool.false_and,Bool.or_true,Bool.true_or,Bool.or_false,Bool.false_or,Bool.not_true,Bool.not_false]<;>rfl)|rfl))));done)|fail):kM M l:=hs.sub
theorem dH (l:List (Ky × En)) {id:Nat} {os:List Oper} {dr:Bool} (next:At P X N F r .normal (l++M)) (h:RG P X N os.toArray dr (fun M'=>kM M' (l++M)) os [] M:=by first|((repeat' (first|refine XO ?_|refine r_2 ?_|refine r_3 ?_|refine r_4 ?_|refine afW ?_|refine afX ?_|(refine afY ?_;exact eP)|refine alH (fun _=>?_) (fun _=>?_)));done)|fail) (hc:shut (l++M)=true:=by rfl) (hm:P.follows .mixedOrders=true:=by kernel_rfl):GO P X N F (.region id os.toArray dr) r M:=by
 refine⟨fun a w hR=>?_⟩;have h':=(MC (F:=fun e M'=>e=.normal/\kM M' (l++M)) (r:=[]) (id:=id) (h.imp fun M' hM=>⟨rfl,hM⟩) hm).out a w hR;refine Code.wp_mono ?_ h';rintro e a' w' ⟨M',h1,h2⟩;have h3:e=.normal/\kM M' (l++M):=h1;obtain⟨rfl,h3⟩:=h3;exact⟨_,next.out,h2.sub h3 hc⟩
theorem qx (l:List (Ky × En)) {c0:Code} (h:GO P X N (fun e M'=>e=.normal/\kM M' (l++M)) c0 [] M) (next:At P X N F r .normal (l++M)) (hc:shut (l++M)=true:=by rfl):GO P X N F c0 r M:=by
 refine⟨fun a w hR=>?_⟩;refine Code.wp_mono ?_ (h.out a w hR);rintro e a' w' ⟨M',h1,h2⟩;have h3:e=.normal/\kM M' (l++M):=h1;obtain⟨rfl,h3⟩:=h3;exact⟨_,next.out,h2.sub h3 hc⟩
theorem aat (ks:List Ky) (l:List (Ky × En)) {c0:Code} {Mk:List (Ky × En)} (h:GO P X N (fun e M'=>e=.normal/\kM M' (l++Mk)) c0 [] M) (next:At P X N F r .normal (l++Mk)) (hk:Kp M ks Mk:=by first|((repeat (first|exact .nil|(apply Kp.cons;rfl)));done)|fail) (hc:shut (l++Mk)=true:=by rfl):GO P X N F c0 r M:=by
 refine⟨fun a w hR=>?_⟩;refine Code.wp_mono ?_ (h.out a w hR);rintro e a' w' ⟨M',h1,h2⟩;have h3:e=.normal/\kM M' (l++Mk):=h1;obtain⟨rfl,h3⟩:=h3;exact⟨_,next.out,h2.sub h3 hc⟩
theorem fA {l:List (Ky × En)} (h:kM M l):At P X N (fun e M'=>e=.normal/\kM M' l) [] .normal M:=⟨rfl,h⟩
theorem alI (h:GO P X N F c (.r (fun _=>False)::r) M) (hc:shut M=true:=by rfl):GO P X N F (.loop c) r M:=
 go_loop (fun (_:Unit)=>M) (fun _=>True) (fun _=>0) () trivial (fun _ _ h=>h) (fun _=>hc) fun _ _=>⟨fun a w hR=>Code.wp_mono (fun e a' w' ⟨M',h1,h2⟩=>by
  cases e with
  |normal=>exact absurd h1 id
  |_=>exact⟨M',h1,h2⟩) (h.out a w hR)⟩
theorem alJ {M:List (Ky × En)} {t:Nat} {x:bF} {p:PV} (h:get (.s t) M=some (.s x):=by rfl) (hd:oh M x p:=by first|exact .v _|exact .ow rfl rfl|exact .fn _):pK P M (.tmp t) p:=.tmp h hd
theorem alK {M:List (Ky × En)} {t j n:Nat} {ty:TypeId} {cs:List bF} {ps:List PV} (h:get (.s t) M=some (.s (.pt j 0)):=by rfl) (ho:get (.o j) M=some (.o (.blk cs)):=by rfl) (hA:∀w,(isAgg ty).run P w=.ok true w:=by first|(intro w;simp;done)|fail) (hn:∀w,(Go.sizeOf ty).run P w=.ok n w:=by first|((intro w;simp);all_goals with_reducible rfl;done)|fail) (hps:pJ M (cs.take n) ps:=by first|((repeat (first|exact .nil|(apply pJ.cons;(first|exact .v _|exact .ow rfl rfl|exact .ow rfl (by simp;done)|exact .fn _))));done)|fail) (hpl:ps.length=n:=by rfl):pK P M (.cell t ty) (.ag ps):=.cell h ho hA hn hps hpl
theorem alL {M:List (Ky × En)} {t j:Nat} {ty:TypeId} {x:bF} {cs:List bF} {p:PV} (h:get (.s t) M=some (.s (.pt j 0)):=by rfl) (ho:get (.o j) M=some (.o (.blk (x::cs))):=by rfl) (hA:∀w,(isAgg ty).run P w=.ok false w:=by first|(intro w;simp;done)|fail) (hd:oh M x p:=by first|exact .v _|exact .ow rfl rfl|exact .fn _):pK P M (.cell t ty) p:=.cell1 h ho hA hd
theorem lY {M:List (Ky × En)} {a:ResultVar} {p:PV} (h:pK P M a p:=by first|exact alJ|exact alK|exact alL):pK P M a p:=h
theorem aF {rs:Array ResultVar} {p q:PV} {e:Exit} (ho:Out P M rs.toList p:=by first|exact .one lY|exact .two lY lY|exact .three lY lY lY|exact .none) (hr:p=q:=by rfl) (he:e=.normal∨e=.ret:=by first|exact .inl rfl|exact .inr rfl):At P X N (Nq P rs (·=q)) [] e M:=at_end ho hr he
end
end Go.Proofs.YtjpbmbgincdjaaaGreatDoor
set_option linter.unusedVariables false
namespace Go.Proofs.YtjpbmbgincdjaaaGreatDoor
open Go.RowKit List
section
variable {P:Program} {Ld:bU} {X:Cx Ld} {N:Nat} {F:Exit->List (Ky × En)->Prop} {c:Code} {r:List It} {M:List (Ky × En)}
end
def uN:Nat->List (Option PV)->List (Ky × En)
 |_,[]=>[]
 |i,some p::r=>(.s i,.s (.v p))::uN (i+1) r
 |i,none::r=>(.s i,.s (.pt 900 0))::uN (i+1) r
def sva:Option PV->bF
 |some p=>.v p
 |none=>.pt 900 0
theorem Nz:∀(zas:List (Option PV)) (k t:Nat) (x:bF),get (.s t) (uN k zas)=some (.s x)->∃i a,t=k+i/\zas[i]?=some a/\x=sva a
 |a::zas,k,t,x,h=>by
  have h':get (.s t) ((.s k,.s (sva a))::uN (k+1) zas)=some (.s x):=by cases a<;>exact h
  rw[bK] at h';by_cases ht:t=k
  ·subst ht;rw[if_pos rfl] at h';cases h';exact⟨0,a,rfl,rfl,rfl⟩
  ·rw[if_neg (by simp[ht])] at h';obtain⟨i,q,h1,h2,h3⟩:=Nz zas (k+1) t x h';exact⟨i+1,q,by omega,h2,h3⟩
theorem IG:∀(zas:List (Option PV)) (k j:Nat),get (.o j) (uN k zas)=none
 |[],_,_=>rfl
 |some p::zas,k,j=>by rw[uN,bK,if_neg (by simp)];exact IG zas (k+1) j
 |none::zas,k,j=>by rw[uN,bK,if_neg (by simp)];exact IG zas (k+1) j
def Fio (P:Program) (rs:Array ResultVar) (R:PV->List PV->Prop) (e:Exit) (M:List (Ky × En)):Prop:=(e=.normal∨e=.ret)/\∃p xc l,Out P M rs.toList p/\get (.o 900) M=some (.o (.blk xc))/\pJ M xc l/\R p l
theorem af2 {P:Program} {Ld:bU} {f:FuncId} {fn:Func} {c:Code} {zas:List (Option PV)} {cs:List PV} {R:PV->List PV->Prop} {N:Nat} (hf:P.funcs[f]?=some fn) (hb:fn.body=some c) (hN:fn.ntmps=N) (hl:zas.length<=N) (h:∀X:Cx Ld,GO P X N (Fio P fn.results R) c [] ((.o 900,.o (.blk (cs.map .v)))::uN 0 zas)):Rx P Ld f zas cs R:=by
 intro w L us b e ws hw hL hr hblk hcs h1 hLb;refine calls_of_wp hf hb ?_
 have mo:∀i,mm ((.o 900,.o (.blk (cs.map .v)))::uN 0 zas) (.o i)=if i=900 then some (.o (.blk (cs.map .v))) else none:=by
  intro i;by_cases hi:i=900<;>simp[mm,bK,hi,IG]
 have hR:RS (⟨w.heap.size,(·=b),w,L,hw⟩:Cx Ld) N (mm ((.o 900,.o (.blk (cs.map .v)))::uN 0 zas)) {tmps:=us.toArray++Array.replicate (fn.ntmps-us.toArray.size) undef,defers:=[]} w:=by
  have Rt:us.length=zas.length:=hr.1.symm;refine⟨fun _=>.pointer (some ⟨b,0,none⟩),L,⟨fun j ob hj=>?_,fun j j' ob ob' b' hj hj' _ _=>?_,hL,fun ob _=>⟨b,rfl,rfl⟩⟩,by simp;omega,rfl,fun t x hx=>?_,.of (Below.refl _ _),fun b _=>rfl,Nat.le_refl _⟩
  ·rw[mo] at hj;by_cases h9:j=900
   ·rw[if_pos h9] at hj;cases hj
    exact⟨b,e,ws,rfl,.inr rfl,hblk,by simpa using hcs.1,h1,fun i x u hx hu=>by
     rw[getElem?_map] at hx;cases hp:cs[i]? with
     |none=>rw[hp] at hx;cases hx
     |some p=>rw[hp] at hx;cases hx;exact hcs.2 i p u hp hu,hLb⟩
   ·rw[if_neg h9] at hj;cases hj
  ·rw[mo] at hj hj';by_cases h9:j=900
   ·by_cases h9':j'=900
    ·rw[h9,h9']
    ·rw[if_neg h9'] at hj';cases hj'
   ·rw[if_neg h9] at hj;cases hj
  ·have hx:get (.s t) ((.o 900,.o (.blk (cs.map .v)))::uN 0 zas)=some (.s x):=hx;rw[bK,if_neg (by simp)] at hx;obtain⟨i,a,rfl,ha,hxa⟩:=Nz zas 0 t x hx;have hi:=(List.getElem?_eq_some_iff.1 ha).1;have hi2:i<us.length:=by omega
   refine⟨us[i],(by rw[Nat.zero_add,Array.getElem?_append_left (by simpa using hi2)];simp[hi2]),?_⟩;have:=hr.2 i a _ ha (getElem?_eq_getElem hi2);cases a with
   |some p=>subst hxa;exact this
   |none=>subst hxa;exact⟨⟨_,by rw[mo,if_pos rfl],rfl⟩,b,rfl,this⟩
 refine Code.wp_mono ?_ ((h _).out _ _ hR);rintro ex a' w' ⟨M',⟨he,p,xc,l,ho,hg,hdl,hp⟩,ρ,L',hR'⟩
 have hgr:Grow L' w' L w':=by
  refine⟨Nat.le_refl _,fun b i _ ha=>⟨fun fr hfr=>?_,rfl⟩⟩;by_cases hb:b<w.heap.size
  ·exact ha fr ((hR'.ll b hb).trans hfr)
  ·rw[hL b (by omega)] at hfr;cases hfr
 obtain⟨b',e',ws',k1,k2,k3,k4,k5,k6,k7⟩:=hR'.hs.ob 900 _ hg;obtain⟨b9,fP,hbb⟩:=hR'.hs.bo _ hg;have hbb:b9=b:=hbb;rw[hbb] at fP;rw[fP] at k1;cases k1;obtain⟨d1,d2⟩:=hdl.at
 have hfin:RL L w' l ws':=⟨by rw[<-d1,k4],fun i q u hq hu=>by
  obtain⟨sv,hsv,hdr⟩:=d2 i q hq;exact (hdr.real hR'.hs (k6 i sv u hsv hu) fun j _=>rfl).grow hgr⟩
 obtain⟨v,v1,v2'⟩:=ho.real hR';have v2:=v2'.grow hgr;have hend:∃u p cs' ws' e2,Ending.returned v=.returned u/\R p cs'/\RP L w' p u/\aj w' b e2 ws'/\RL L w' cs' ws'/\(∀u∈ws',u.oneCell'=true)/\tH w.heap.size (·=b) w w':=⟨v,p,l,ws',e',rfl,hp,v2,k3,hfin,k5,hR'.bl⟩
 rcases he with rfl|rfl
 ·exact⟨hR'.df,v,v1,hend⟩
 ·exact⟨hR'.df,v,v1,hend⟩
theorem dh {P:Program} {Ld:bU} {f:FuncId} {fn:Func} {c:Code} {ps:List PV} {R:PV->Prop} {N:Nat} (hf:P.funcs[f]?=some fn) (h:∀X:Cx Ld,GO P X N (Nq P fn.results R) c [] (oI 0 ps)) (hb:fn.body=some c:=by rfl) (hN:fn.ntmps=N:=by first|((simp;rfl);done)|fail) (hl:ps.length.ble N=true:=by rfl):PC P Ld f ps R:=afH hf hb hN (Nat.le_of_ble_eq_true hl) h
inductive jO:List PV->List Value->Prop
 |nil:jO [] []
 |sc {v:Value} {ps us} (h:jO ps us):jO (.sc v::ps) (v::us)
 |ag {l:List PV} {ws:List Value} {ps us} (hs:qI l ws) (h:jO ps us):jO (.ag l::ps) (.agg ws.toArray::us)
theorem jO.eq {L:Nat->Option Nat} {w:World} {ps:List PV} {us vs:List Value} (h:jO ps us) (hr:RL L w ps vs):vs=us:=by
 induction h generalizing vs with
 |nil=>exact eq_nil_of_length_eq_zero hr.1.symm
 |@sc v ps us _ ih=>
  match vs,hr with
  |u::vs,hr=>
   have h0:u=v:=RP.lS (hr.2 0 _ u rfl rfl);rw[h0,ih ⟨by simpa using hr.1,fun i p u hp hu=>hr.2 (i+1) p u hp hu⟩]
 |@ag l ws ps us hs _ ih=>
  match vs,hr with
  |u::vs,hr=>
   obtain⟨zs,h1,h2,_,h3⟩:=RP.vP (hr.2 0 _ u rfl rfl);rw[h1,hs.eq h2 h3,ih ⟨by simpa using hr.1,fun i p u hp hu=>hr.2 (i+1) p u hp hu⟩]
theorem kT {P:Program} {Ld:bU} {f:FuncId} {ps:List PV} {us:List Value} {v:Value} (hs:jO ps us) (hv:vO v=true) (h:∀w,Ld.p w->Calls P f us.toArray w fun e w'=>e=.returned v/\Below w.heap.size w w'):PC P Ld f ps (·=FV v):=by
 intro w L vs hw hL hr;rw[hs.eq hr];exact (h w hw).mono fun e w' ⟨h1,h2⟩=>⟨v,FV v,h1,rfl,Xg hv,h2⟩
end Go.Proofs.YtjpbmbgincdjaaaGreatDoor
