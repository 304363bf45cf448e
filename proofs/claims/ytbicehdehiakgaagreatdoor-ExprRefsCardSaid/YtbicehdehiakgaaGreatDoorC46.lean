/- The proof of the statement, a part of it: Ez EB EA Lr. -/
import Derived.RangeFuncBox
import Derived.Maps.AppendAt
import Derived.Shelf.SlSortFuncK.RowK2
import Derived.Test.YtbicehdehiakgaaGreatDoorC22
import Derived.Test.YtbicehdehiakgaaGreatDoorC36
import Derived.Test.YtbicehdehiakgaaGreatDoorC41
import Derived.Test.YtbicehdehiakgaaGreatDoorC42
import Derived.Test.YtbicehdehiakgaaGreatDoorC43
import Derived.Test.YtbicehdehiakgaaGreatDoorC44
import Derived.Test.YtbicehdehiakgaaGreatDoorC45
set_option linter.unusedVariables false
set_option linter.unusedSimpArgs false
namespace Go.Proofs.YtbicehdehiakgaaGreatDoor
open Go.RowKit
set_option maxHeartbeats 800000 in
theorem compactN_short (A : Option Addr) (n c : Nat) (hn : n < 2) (w : World) :
    Calls Tryz.prog 64 #[.slice A n c] w fun e w' => e = .returned (.slice A n c) ∧ w' = w := by
  have h2 : (n : Int) < 2 := by omega
  go_enter Tryz.func64, Tryz.ntmps64
  go_wp2
  go_ret
  exact ⟨rfl, rfl⟩
open Go.Sort in
theorem holds_own {α : Type} [Inhabited α] (enc : α → List Value) (hk : ∀ x, (enc x).length = 5) (ks : List α) {w : World} {base g n cap : Nat} {e : TypeId}
    (h : w.ownsRow base e 5 (.slice (some ⟨g, 0, none⟩) n cap) n (ks.flatMap enc)) (hn : n = ks.length) : HoldsK enc 5 w g 0 ks.toArray := by
  subst hn
  rcases h.2 with ⟨hv, _⟩ | ⟨g', cap', cur, hv, _, hh, _, _, hs, ht⟩
  · cases hv
  · injection hv with e1 e2 e3
    injection e1 with e1
    injection e1 with e1
    subst e1
    intro i hi
    rw [size_flatK] at hi
    have hi' : i < ks.length * 5 := by simpa using hi
    rw [get_flatK _ _ _ _ hi, Nat.zero_add]
    have h1 := flatMap_get enc 5 hk ks (i / 5) (i % 5) (Nat.mod_lt _ (by omega))
    rw [show i / 5 * 5 + i % 5 = i from by omega] at h1
    have hq : i / 5 < ks.length := by omega
    rw [List.getElem?_eq_getElem hq] at h1
    simp only [Option.bind_some] at h1
    have hm : i % 5 < (enc ks[i / 5]).length := by rw [hk]; exact Nat.mod_lt _ (by omega)
    rw [← ht, List.getElem?_take_of_lt hi', List.getElem?_eq_getElem hm] at h1
    have hd : ks.toArray[i / 5]! = ks[i / 5] := by rw [getElem!_pos ks.toArray (i / 5) (by simpa using hq)]; simp
    refine ⟨?_, ?_⟩
    · rw [hd, getElem!_pos (enc ks[i / 5]) (i % 5) hm]
      simp only [World.cell?, hh]
      simpa using h1
    · simp [World.frozen?, hh]
def kN (k : Int × ByteArray) : Nd := ⟨k.1, zR, k.2⟩
def kCf (x y : Int × ByteArray) : Int := ordN (kN x) (kN y)
theorem kLt (x y : Int × ByteArray) : ltOf kCf x y = befN (kN x) (kN y) := by
  unfold ltOf kCf
  rw [Bool.eq_iff_iff, decide_eq_true_iff]
  exact ord_neg _ _
theorem kN_tri {x y : Int × ByteArray} (h1 : ¬ befN (kN x) (kN y) = true) (h2 : ¬ befN (kN y) (kN x) = true) : x = y := by
  obtain ⟨e1, e2⟩ := bef_tri h1 h2
  exact Prod.ext e1 e2
theorem key_swo : Go.Sort.SWO (ltOf kCf) where
  irrefl x := by rw [kLt]; exact bef_irrefl _
  trans x y z h1 h2 := by rw [kLt] at *; exact bef_trans h1 h2
  ntrans x y z h1 h2 := by
    rw [kLt] at *
    cases h : befN (kN x) (kN z)
    · rfl
    · cases hyx : befN (kN y) (kN x)
      · have := kN_tri (x := x) (y := y) (by rw [h1]; simp) (by rw [hyx]; simp)
        subst this
        rw [h] at h2; cases h2
      · have := bef_trans hyx h
        rw [this] at h2; cases h2
def keys (e : List Nd) : List (Int × ByteArray) := (nmd e).map fun n => (n.op, n.name)
theorem keys_nd {e : List Nd} (h : ∀ n ∈ e, wrongN n = 0) : (keys e).map kN = nmd e := by
  unfold keys
  rw [List.map_map]
  have : ∀ n ∈ nmd e, (kN ∘ fun n : Nd => (n.op, n.name)) n = n := fun n hn => by
    have hz := nmd_zr h n hn
    obtain ⟨a, b, c⟩ := n
    simp only at hz
    subst hz; rfl
  rw [List.map_congr_left this, List.map_id']
theorem keys_cells {e : List Nd} (h : ∀ n ∈ e, wrongN n = 0) : nds (nmd e) = (keys e).flatMap fun k => (kN k).cells := by
  rw [← keys_nd h]
  unfold nds
  rw [List.flatMap_map]
abbrev kEnc (k : Int × ByteArray) : List Value := (kN k).cells
open Go.Sort Go.Shelf in
theorem sortN_at (ks : List (Int × ByteArray)) (g cap : Nat) (w : World) (hH : HoldsK kEnc 5 w g 0 ks.toArray) (hblk : g < w.heap.size) (hn : ks.length ≤ 60) :
    Calls Tryz.prog 59 #[.slice (some ⟨g, 0, none⟩) ks.length cap, .func (.func 60) #[] #[]] w fun e w' =>
      e = .returned (.tuple #[]) ∧ ∃ d' n os, PermIn 0 ks.length ks.toArray d' ∧ SortedIn (ltOf kCf) 0 ks.length d' ∧ w' = sortWorldK kEnc 5 w g 0 n d' os := by
  have eg : ∀ args w, (callFunc 60 args).run Tryz.prog w = .ok (.enter 60 args) w := enters_of Tryz.func60 (by kernel_rfl) rfl
  have h := AnyQ.slices_SortFunc Tryz.sortN 5 Tryz.isAgg33 Tryz.sizeOf33 kEnc (fun _ => rfl) (fun x v hv => nds_one [kN x] v (by simpa [nds] using hv)) kCf key_swo 60 #[] g 0 cap ks.toArray w eg
    (fun m os dk _ x y => ordN_gr (kN x) (kN y) _) hH hblk (by simp; omega)
  exact h
open Go.Sort in
theorem sort_onl (w : World) (g n : Nat) (d : Array (Int × ByteArray)) (os : Array Obj) : Onl g w (sortWorldK kEnc 5 w g 0 n d os) := by
  refine ⟨rfl, rfl, rfl, ?_, fun k hk hne => ?_⟩
  · unfold sortWorldK grow
    rw [Array.size_append]
    have := size_putRowK (w := Sort.ahead w n) kEnc 5 g 0 d
    rw [this]
    show w.heap.size ≤ w.heap.size + _
    omega
  · unfold sortWorldK grow
    have hs : (putRowK kEnc 5 (Sort.ahead w n) g 0 d).heap.size = w.heap.size := size_putRowK kEnc 5 _ _ _ _
    show ((putRowK kEnc 5 (Sort.ahead w n) g 0 d).heap ++ os)[k]? = _
    rw [Array.getElem?_append_left (by rw [hs]; exact hk)]
    unfold putRowK putRow mapBlock
    simp [Array.getElem?_modify, Ne.symm hne, Sort.ahead]
open Go.Sort in
theorem sorted_refs {e : List Nd} (h : checkE e = 0) {d' : Array (Int × ByteArray)} (hp : PermIn 0 (keys e).length (keys e).toArray d') (hs : SortedIn (ltOf kCf) 0 (keys e).length d') : dd (d'.toList.map kN) = refsE e := by
  obtain ⟨hsz, _, hperm⟩ := hp
  have hsz' : d'.size = (keys e).length := by simpa using hsz
  have e1 : d'.extract 0 (keys e).length = d' := by rw [← hsz']; exact Array.extract_size
  have e2 : (keys e).toArray.extract 0 (keys e).length = (keys e).toArray := by
    simp
  rw [e1, e2] at hperm
  have hperm2 : (d'.toList.map kN).Perm (nmd e) := by
    rw [← keys_nd (checkE_wr h)]
    exact hperm.map kN
  refine refsE_dd h (fun n => hperm2.mem_iff) ?_
  rw [List.pairwise_map, List.pairwise_iff_getElem]
  intro i j hi hj hij
  have hi' : i < d'.size := by simpa using hi
  have hj' : j < d'.size := by simpa using hj
  have h1 := hs i j (Nat.zero_le _) hij (by omega)
  rw [kLt, getElem!_pos d' j hj', getElem!_pos d' i hi'] at h1
  simp only [Array.getElem_toList]
  rw [h1]; simp
open Go.Sort in
theorem holds_nodes {w : World} {g : Nat} {d : Array (Int × ByteArray)} (h : HoldsK kEnc 5 w g 0 d) : HoldsN w g 0 (d.map kN) := by
  have e : flatK Nd.cells 5 (d.map kN) = flatK kEnc 5 d := by
    refine ext_get! (by simp) fun t ht => ?_
    have ht' : t < d.size * 5 := by simpa using ht
    rw [get_flatK _ _ _ _ (by simpa using ht'), get_flatK _ _ _ _ ht']
    have hq : t / 5 < d.size := by omega
    rw [getElem!_pos (d.map kN) (t / 5) (by simpa using hq), getElem!_pos d (t / 5) hq]
    simp
  unfold HoldsN HoldsK
  rw [e]; exact h
theorem rd_nds {w : World} {g : Nat} (l : List Nd) (hg : g < w.heap.size) (h : ∀ j (hj : j < l.length), NdAt w g (0 + j * 5) l[j]) : Rd w (some ⟨g, 0, none⟩) (nds l) := by
  refine .inr ⟨g, 0, rfl, hg, fun i hi => ?_⟩
  have hi' : i < l.length * 5 := by rw [nds_length] at hi; exact hi
  have hq : i / 5 < l.length := by omega
  have hr : i % 5 < 5 := Nat.mod_lt _ (by omega)
  have h1 := nds_get l (i / 5) (i % 5) hq hr
  rw [show i / 5 * 5 + i % 5 = i from by omega, List.getElem?_eq_getElem hi] at h1
  obtain ⟨n0, n1, n2, n3, n4⟩ := h (i / 5) hq
  rw [h1]
  have hi2 : 0 + i = 0 + i / 5 * 5 + i % 5 := by omega
  rw [hi2]
  generalize i % 5 = r at *
  rcases (by omega : r = 0 ∨ r = 1 ∨ r = 2 ∨ r = 3 ∨ r = 4) with rfl | rfl | rfl | rfl | rfl
  · exact n0
  · exact n1
  · exact n2
  · exact n3
  · exact n4
theorem comp_es {l : List Nd} {g cap : Nat} {w w' : World} {e : Ending} (h : CompPost l.toArray g 0 cap w e w') (hg : g < w.heap.size) (hcap : l.length ≤ cap) (hm : cap ≤ maxLen) :
    e = .returned (.slice (some ⟨g, 0, none⟩) (dd l).length cap) ∧ Es w' (dd l) (some ⟨g, 0, none⟩) (dd l).length cap ∧ Onl g w w' := by
  have hc : Lib.compactUpTo l.toArray l.toArray.size = dd l := by
    have := compact_dd l l.length (Nat.le_refl _)
    rw [List.take_length] at this
    simpa using this
  obtain ⟨h1, ⟨dk, h2⟩, h3⟩ := h
  rw [hc] at h1 h2
  refine ⟨h1, ⟨rfl, Nat.le_trans (dd_len l) hcap, hm, rd_nds _ (Nat.lt_of_lt_of_le hg h3.size) (fun j hj => ?_)⟩, h3⟩
  obtain ⟨h4, h5⟩ := h2 j hj
  rw [List.getElem?_eq_getElem hj] at h4
  injection h4 with h4
  rw [h4]; exact h5
end Go.Proofs.YtbicehdehiakgaaGreatDoor
namespace Go.Proofs.YtbicehdehiakgaaGreatDoor
open Go.RowKit
set_option maxHeartbeats 800000 in
theorem insN_none (A : Option Addr) (c : Nat) (fv : Value) (w : World) :
    Calls Tryz.prog 124 #[.slice A 0 c, .int .i64 0, .int .i64 0, fv] w fun e w' => e = .returned (.tuple #[]) ∧ w' = w := by
  go_enter Tryz.func124, Tryz.ntmps124
  go_wp2
  refine wp_loop_rounds 1 ?_
  rw [rounds_succ]
  go_wp2
  (try simp only [Exit.inBlock, Exit.then])
  first | go_end0 | refine bodyPost_ret (results_none rfl _ _ _) rfl ?_
  exact ⟨rfl, rfl⟩
set_option maxHeartbeats 1600000 in
theorem pdqN_none (A : Option Addr) (c : Nat) (lim : Int) (fv : Value) (w : World) :
    Calls Tryz.prog 97 #[.slice A 0 c, .int .i64 0, .int .i64 0, .int .i64 lim, fv] w fun e w' => e = .returned (.tuple #[]) ∧ w' = w := by
  go_enter Tryz.func97, Tryz.ntmps97
  go_wp2
  refine wp_loop_rounds 1 ?_
  rw [rounds_succ]
  go_wp2_with (go_at_call 124; refine (insN_none A c fv _).mono ?_; (rintro e w' ⟨he, hw⟩; subst he; subst hw))
  (try simp only [Exit.inBlock, Exit.then])
  first | go_end0 | refine bodyPost_ret (results_none rfl _ _ _) rfl ?_
  exact ⟨rfl, rfl⟩
set_option maxHeartbeats 1600000 in
theorem sortFuncN_none (A : Option Addr) (c : Nat) (fv : Value) (w : World) :
    Calls Tryz.prog 59 #[.slice A 0 c, fv] w fun e w' => e = .returned (.tuple #[]) ∧ w' = w := by
  go_enter Tryz.func59, Tryz.ntmps59
  go_wp2_with (first | (go_at_call 98; refine (Tryz.bits_Len 0 _ (by omega) (by omega)).mono ?_; (rintro e w' ⟨he, hw⟩; subst he; subst hw)) | (go_at_call 97; refine (pdqN_none A c _ fv _).mono ?_; (rintro e w' ⟨he, hw⟩; subst he; subst hw)))
  (try simp only [Exit.inBlock, Exit.then])
  first | go_end0 | refine bodyPost_ret (results_none rfl _ _ _) rfl ?_
  exact ⟨rfl, rfl⟩
end Go.Proofs.YtbicehdehiakgaaGreatDoor
namespace Go.Proofs.YtbicehdehiakgaaGreatDoor
open Go.RowKit Go.Shelf
attribute [local go_sem] Oper.semAt_some
theorem cells_new1 (W : World) (news : List Value) (e : TypeId) : ∀ j u, news[j]? = some u → (W.alloc (.cells news.toArray e)).cell? ((⟨W.heap.size, 0, none⟩ : Addr).add j) = some u := by
  intro j u hj
  have hb := Blk.new W e news.toArray
  have hj' : j < news.length := (List.getElem?_eq_some_iff.1 hj).1
  have := hb.cell (i := j) (by simpa using hj')
  rw [show Addr.add ⟨W.heap.size, 0, none⟩ j = ⟨W.heap.size, j, none⟩ from by unfold Addr.add; split <;> simp_all, this]
  rw [← (List.getElem?_eq_some_iff.1 hj).2]
theorem blk_kept1 {X Y : World} {row : Option Nat} {b : Nat} {t : TypeId} {cs : List Value} (h : Blk X b t cs) (hg : X.grownBy Y row) (hr : ∀ r, row = some r → ∃ o : Obj, X.heap[r]? = some o ∧ o.isCells = false) : Blk Y b t cs :=
  h.of_block (hg.block b h.lt (fun e => by
    obtain ⟨o, ho, hc⟩ := hr b e.symm
    rw [show X.heap[b]? = _ from h] at ho
    injection ho with ho
    subst ho; cases hc))
set_option maxRecDepth 100000 in
set_option maxHeartbeats 3200000 in
theorem eRefs_in1 (es : List Nd) (A : Option Addr) (c : Nat) (w : World) (hL : LaidE w) (hE : Es w es A es.length c) (hf : ∀ n ∈ es, Fine n) (hz : checkE es = 0) :
    CallsIn Fence.wide 6 Tryz.prog 25 #[.slice A es.length c] w fun e w' => ∃ A' n' c', e = .returned (.slice A' n' c') ∧ Es w' (refsE es) A' n' c' ∧ Below w.heap.size w w' := by
  have HC := Lib.hid (fun m => (callsIn_wide (n := m)).2 (check_any es A es.length c w hL hE.len hE.cap hE.max hE.rd hf))
  rw [hz] at HC
  have HN := Lib.hid (fun m W => (callsIn_wide (n := m)).2 (named_any A es.length c W))
  have HL := Lib.hid hL
  have HE := Lib.hid hE
  have HF := Lib.hid hf
  have HZ := Lib.hid hz
  clear hL hE hf hz
  refine callsIn_of_wp_marks Tryz.func25 rfl trivial ?_ rfl
  simp only [Tryz.ntmps25, List.size_toArray, List.length_cons, List.length_nil, Nat.reduceAdd, Nat.reduceSub, Array.replicate_succ, Array.replicate_zero, List.push_toArray, List.append_toArray, List.nil_append, List.cons_append]
  gi_wp2_with fail
  refine ⟨trivial, ?_⟩
  refine (HC.out _).mono ?_
  rintro e w1 ⟨rfl, hb1⟩
  gi_wp2_with fail
  refine ⟨trivial, ?_⟩
  refine (HN.out _ _).mono ?_
  rintro e w2 ⟨rfl, rfl⟩
  gi_wp2_with fail
  obtain ⟨i0, hi, hz0, hz1, hz2⟩ := info_parts info_node
  have hk60 := ((checkE_iff es).1 HZ.out).1
  have bO : Boxed ((w1.alloc (.cells #[.slice none 0 0] 22)).alloc (.cells #[.slice A es.length c] 22)) w1.heap.size 22 (.slice none 0 0) := (Boxed.new w1 22 (.slice none 0 0)).alloc _
  have bN : Boxed ((w1.alloc (.cells #[.slice none 0 0] 22)).alloc (.cells #[.slice A es.length c] 22)) (w1.heap.size + 1) 22 (.slice A es.length c) := by
    have h := Boxed.new (w1.alloc (.cells #[.slice none 0 0] 22)) 22 (.slice A es.length c)
    rw [World.size_alloc] at h; exact h
  have hB0 : Below w1.heap.size w1 ((w1.alloc (.cells #[.slice none 0 0] 22)).alloc (.cells #[.slice A es.length c] 22)) := ((Below.refl _ w1).alloc (Nat.le_refl _) _).alloc (by simp) _
  have hsz : ((w1.alloc (.cells #[.slice none 0 0] 22)).alloc (.cells #[.slice A es.length c] 22)).heap.size = w1.heap.size + 2 := by simp
  generalize (w1.alloc (.cells #[.slice none 0 0] 22)).alloc (.cells #[.slice A es.length c] 22) = W0 at *
  refine wpIn_rangeFunc_ownH rfl (by omega) (gf := 96) (lb := #[.pointer (some ⟨w1.heap.size + 1, 0, none⟩)]) rfl trivial (enters_of Tryz.func96 (by kernel_rfl) rfl)
    (named_stops Fence.wide 5 trivial rfl (by omega) (w1.heap.size + 1) es A c w1 W0 (HL.out.below hb1) (HE.out.below hb1) hB0 bN.cell bN.lt (checkE_wr HZ.out) hk60) belowK_t (belowK_b (by omega)) (Below.refl _ _) (fun _ => rfl)
    (fun pre W => (∃ v, Boxed W w1.heap.size 22 v ∧ W.ownsRow w1.heap.size 33 5 v pre.length (nds pre) ∧ True) ∧ Below w1.heap.size w1 W)
    (fun _ _ _ => False)
    (OwnFrom.and (Own.from (holdsRow_own w1.heap.size w1.heap.size 22 33 5 (fun pre : List Nd => pre.length) (fun pre => nds pre) (fun _ _ => True)) _) (ownFrom_below (Nat.le_refl _) (by omega)))
    (fun _ _ _ _ _ hs _ _ => hs)
    ⟨⟨_, bO, World.ownsRow_nil _ _ _ _, trivial⟩, hB0⟩
    (fun x a' W => ∃ Bx, Blk W Bx 33 x.cells ∧ a' = { tmps := #[.slice A es.length c, undef, .slice none 0 0, .pointer (some ⟨w1.heap.size, 0, none⟩), .pointer (some ⟨Bx, 0, none⟩), .slice A es.length c, .int .i64 0, .bool false, .slice A es.length c, .func (.func 96) #[] #[.pointer (some ⟨w1.heap.size + 1, 0, none⟩)], x.v, undef, undef, undef, undef, undef, undef, undef, undef], defers := [] })
    (fun x a' _ X Y row hs hg hr => by obtain ⟨Bx, h1, h2⟩ := hs; exact ⟨Bx, blk_kept1 h1 hg (fun r e => (hr r e).2), h2⟩)
    ?assign ?body ?done ?stop
  case assign =>
    rintro l pre ⟨op, ⟨neg, num, den⟩, nm⟩ W K ⟨⟨v, hv, hrow, _⟩, hB⟩ hK
    unfold Nd.v
    gi_wp2
    exact hK _ _ ((KeepsOthers.alloc _ _).from _) ((Below.refl _ W).alloc hB.size _) ⟨⟨v, hv.alloc _, hrow.alloc _, trivial⟩, hB.alloc hB.size _⟩ ⟨W.heap.size, Blk.new W _ _, rfl⟩
  case body =>
    rintro l pre ⟨op, ⟨neg, num, den⟩, nm⟩ a' W hl ⟨r, hr⟩ ⟨⟨v, hv, hrow, _⟩, hB⟩ ⟨Bx, hbx, rfl⟩ hlt
    have hc := hv.cell
    have hcx := hbx.cells
    unfold Nd.cells at hcx
    unfold Nd.v
    simp only at hcx ⊢
    gi_wp2_with (gi_at_builtin; refine wpListIn_append_own _ rfl _ _ 22 rfl w1.heap.size 33 i0 (.agg #[.int .i64 0, .bool false, .string ⟨#[]⟩, .string ⟨#[]⟩, .string ⟨#[]⟩]) 5 64 Tryz.underlying22 hi hz0 hz1 hz2 rfl (by decide) _ _ _ rfl (hrow.alloc _) ⟨W.heap.size, 0, none⟩ 1 1 [.int .i64 op, .bool neg, .string num, .string den, .string nm] rfl rfl (cells_new1 _ _ _) (by simp [Value.oneCell']) (by unfold maxLen; omega) (by omega) (by have := hB.size; simp; omega) ?_; intro v' w5 hown' hgrow _; obtain ⟨g', cap', rfl, _⟩ := own_form hown' (by omega); obtain ⟨hv1, hv2, hr2, hk2, hb2⟩ := hv.appended (by decide) hrow hB.size (Nat.le_refl _) hown' hgrow; have hc1 := hv1.cell; have hf1 := hv1.frozen)
    exact ⟨hk2.from _, hb2, ⟨_, hv2, by rw [List.length_append, nds_snoc]; exact hr2, trivial⟩, hB.trans hb2⟩
  case done =>
    rintro D ys W hD rfl ⟨⟨v, hv, hrow, _⟩, hB⟩ hK
    have hc := hv.cell
    by_cases hne : nmd es = []
    · have h0 : (nmd es).length = 0 := by rw [hne]; rfl
      obtain ⟨A', c', rfl, h1, h2, _⟩ := own_rd hrow
      rw [h0] at hc
      have HS := Lib.hid (fun m W => (callsIn_wide (n := m)).2 (sortFuncN_none A' c' (.func (.func 60) #[] #[]) W))
      have HCC := Lib.hid (fun m W => (callsIn_wide (n := m)).2 (compactN_short A' 0 c' (by omega) W))
      gi_wp2_with fail
      refine ⟨trivial, ?_⟩
      refine (HS.out _ _).mono ?_
      rintro e w6 ⟨rfl, hw6⟩
      subst hw6
      gi_wp2_with fail
      refine ⟨trivial, ?_⟩
      refine (HCC.out _ _).mono ?_
      rintro e w7 ⟨rfl, hw7⟩
      subst hw7
      gi_wp2
      have hr0 : refsE es = [] := by unfold refsE insL; rw [hne, if_pos HZ.out]; rfl
      refine ⟨by simp, .inl ⟨_, _, rfl, run_takeDeferred hK, ?_⟩⟩
      refine ⟨_, results_tmp rfl _ _ _, _, _, _, rfl, ?_, ?_⟩
      · rw [hr0]
        exact ⟨rfl, Nat.zero_le _, h2, .inl rfl⟩
      · have hDn : w1.heap.size ≤ D := Nat.le_trans hB0.size hD
        exact (bstep hb1 hB).trans (belowK_b (w := w) (Nat.le_refl _) _ D _ _ (by have := hb1.size; omega) hK rfl rfl)
    · have hpos : 0 < (nmd es).length := List.length_pos_iff.2 hne
      obtain ⟨g, cap, rfl, hg⟩ := own_form hrow hpos
      have hcap : (nmd es).length ≤ cap ∧ cap ≤ maxLen := by
        obtain ⟨A', c', hv', h1, h2, _⟩ := own_rd hrow
        injection hv' with e1 e2 e3
        subst e3; exact ⟨h1, h2⟩
      have hWr := checkE_wr HZ.out
      have hkl : (keys es).length = (nmd es).length := by unfold keys; rw [List.length_map]
      have hle : (nmd es).length ≤ 60 := Nat.le_trans (List.length_filter_le _ _) hk60
      have hrow2 := hrow
      rw [keys_cells hWr] at hrow2
      have hH := holds_own kEnc (fun _ => rfl) (keys es) hrow2 hkl.symm
      have hgW : g < W.heap.size := (hrow.lt g rfl).2
      have HS := Lib.hid (fun m => (callsIn_wide (n := m)).2 (sortN_at (keys es) g cap W hH hgW (by omega)))
      have hnr := hv.not_row (by decide) hrow
      have HH := Lib.hid hH
      rw [hkl] at HS
      clear hH hrow2
      gi_wp2_with fail
      refine ⟨trivial, ?_⟩
      refine (HS.out _).mono ?_
      rintro e w6 ⟨rfl, d', n6, os6, hp6, hs6, rfl⟩
      have ho6 := sort_onl W g n6 d' os6
      have hsz6 : d'.size = (nmd es).length := by have := hp6.1; simpa [hkl] using this
      have hH6 := holds_nodes (holdsK_sortWorldK_c kEnc 5 W g 0 (keys es).toArray d' n6 os6 HH.out hgW (by simp [hsz6, hkl]))
      have hsr := sorted_refs HZ.out (by rw [hkl]; exact hp6) (by rw [hkl]; exact hs6)
      generalize sortWorldK kEnc 5 W g 0 n6 d' os6 = W6 at *
      have hbg : w1.heap.size ≠ g := fun h => hnr (by rw [h]; rfl)
      have hv6 : Boxed W6 w1.heap.size 22 (.slice (some ⟨g, 0, none⟩) (nmd es).length cap) := (ho6.block _ hv.lt hbg).trans hv
      have hc6 := hv6.cell
      have hl6 : (d'.map kN).size = (nmd es).length := by simp [hsz6]
      have hCC := compactN_at g 0 cap (d'.map kN) W6 hH6 (by omega) (by omega) hcap.2
      rw [hl6] at hCC
      have HCC := Lib.hid (fun m => (callsIn_wide (n := m)).2 hCC)
      clear hCC hc
      gi_wp2_with fail
      refine ⟨trivial, ?_⟩
      refine (HCC.out _).mono ?_
      intro e w7 hcp
      rw [show d'.map kN = (d'.toList.map kN).toArray from by rw [← Array.toList_map, Array.toArray_toList]] at hcp
      obtain ⟨rfl, hes, ho7⟩ := comp_es hcp (Nat.lt_of_lt_of_le hgW ho6.size) (by simp [hsz6, hcap.1]) hcap.2
      rw [hsr] at hes ⊢
      gi_wp2
      have hDg : D ≠ g := fun h => by
        rcases hrow.2 with ⟨hv', _⟩ | ⟨g', cap', cur, hv', _, hh, _⟩
        · cases hv'
        · injection hv' with e1 e2 e3
          injection e1 with e1
          injection e1 with e1
          rw [← e1, ← h, hK] at hh
          injection hh with hh; cases hh
      have hK6 := (ho6.block D (lt_of_some hK) hDg).trans hK
      have hK7 := (ho7.block D (lt_of_some hK6) hDg).trans hK6
      refine ⟨by simp, .inl ⟨_, _, rfl, run_takeDeferred hK7, ?_⟩⟩
      refine ⟨_, results_tmp rfl _ _ _, _, _, _, rfl, ?_, ?_⟩
      · refine ⟨hes.len, hes.cap, hes.max, ?_⟩
        rcases hes.rd with h | ⟨b9, o9, e9, hb9, hc9⟩
        · exact .inl h
        · have hbg9 : b9 = g := by injection e9 with e9; injection e9 with e9; exact e9.symm
          refine .inr ⟨b9, o9, e9, by simpa [World.putObj] using hb9, fun i hi => ?_⟩
          rw [← hc9 i hi]
          refine World.cell?_of_block ?_
          subst hbg9
          show ((w7.putObj D (.deferred none)).heap)[b9]? = _
          simp [World.putObj, Array.getElem?_setIfInBounds, hDg]
      · have h7 : Below w1.heap.size w1 w7 := hB.trans ((ho6.trans ho7).below hg hB.size)
        have hDn : w1.heap.size ≤ D := Nat.le_trans hB0.size hD
        exact (bstep hb1 h7).trans (belowK_b (w := w) (Nat.le_refl _) w7 D _ _ (by have := hb1.size; omega) hK7 rfl rfl)
  case stop =>
    rintro D c pre W _ _ h _
    exact h.elim
set_option maxRecDepth 100000 in
set_option maxHeartbeats 1600000 in
theorem eRefs_any (es : List Nd) (A : Option Addr) (l c : Nat) (w : World) (hL : LaidE w) (hE : Es w es A l c) (hf : ∀ n ∈ es, Fine n) :
    Calls Tryz.prog 25 #[.slice A l c] w fun e w' => ∃ A' n' c', e = .returned (.slice A' n' c') ∧ Es w' (refsE es) A' n' c' ∧ Below w.heap.size w w' := by
  obtain rfl := hE.len
  by_cases hz : checkE es = 0
  · exact (callsIn_wide (n := 6)).1 (eRefs_in1 es A c w hL hE hf hz)
  · have HC := Lib.hid (check_any es A es.length c w hL hE.len hE.cap hE.max hE.rd hf)
    have hr0 : Hid (refsE es = []) := by show _ = _; unfold refsE; rw [if_neg hz]
    have hzi : ¬ ((checkE es : Int) = 0) := by omega
    clear hL hE hf hz
    go_enter Tryz.func25, Tryz.ntmps25
    go_wp2_with (go_at_call 18; refine (HC.out).mono ?_; (rintro e w1 ⟨he, hb1⟩; subst he))
    go_ret
    refine ⟨none, 0, 0, rfl, ?_, hb1⟩
    rw [hr0.out]
    exact ⟨rfl, Nat.zero_le _, by unfold maxLen; omega, .inl rfl⟩
end Go.Proofs.YtbicehdehiakgaaGreatDoor
namespace Go.Proofs.YtbicehdehiakgaaGreatDoor
open Go.RowKit
theorem ArgsAt.below {w w' : World} {ls : List (List Nat)} {A : Option Addr} {n c : Nat} (h : ArgsAt w ls A n c) (hb : Below w.heap.size w w') : ArgsAt w' ls A n c := by
  obtain ⟨h1, h2, h3, cs, h4, h5⟩ := h
  exact ⟨h1, h2, h3, cs, h4.below hb, h5.below hb⟩
theorem ArgsAt.rows2 {w : World} {ls : List (List Nat)} {A : Option Addr} {n c : Nat} (h : ArgsAt w ls A n c) (h0 : 0 < ls.length) :
    ∃ b off, A = some ⟨b, off, none⟩ ∧ b < w.heap.size ∧ ∀ k l, ls[k]? = some l → ∃ A' c', w.cell? ⟨b, off + k, none⟩ = some (.slice A' l.length c') ∧ Rd w A' (I l) ∧ l.length ≤ maxLen := by
  obtain ⟨h1, h2, h3, cs, h4, h5⟩ := h
  obtain ⟨b, off, hA, hb, hc⟩ := h4.at_ (k := 0) (by rw [h5.len]; exact h0)
  refine ⟨b, off, hA, hb, fun k l hk => ?_⟩
  obtain ⟨v, hv, A', c', rfl, hc1, hc2, hr, _⟩ := h5.row k l hk
  obtain ⟨hkc, hvk⟩ := List.getElem?_eq_some_iff.1 hv
  exact ⟨A', c', by rw [hc k hkc, hvk], hr, Nat.le_trans hc1 hc2⟩
theorem Es_new (W : World) (es : List Nd) (cs : Array Value) (n : Nat) (hn : n = es.length) (hc : cs.toList = nds es) (hl : n ≤ 1000) : Es (W.alloc (.cells cs 33)) es (some ⟨W.heap.size, 0, none⟩) n n :=
  ⟨hn, Nat.le_refl _, by unfold maxLen; omega, by have h := (Blk.new W 33 cs).rd; rwa [hc] at h⟩
theorem eSame_es {W : World} {es fs : List Nd} {A1 A2 : Option Addr} {n1 c1 n2 c2 : Nat} (h1 : Es W es A1 n1 c1) (h2 : Es W fs A2 n2 c2) (b : Bool) (hb : decide (es = fs) = b) : Calls Tryz.prog 15 #[.slice A1 n1 c1, .slice A2 n2 c2] W fun e w' => e = .returned (.bool b) ∧ Below W.heap.size W w' := by
  subst hb
  refine (eSame_any es fs A1 A2 n1 c1 n2 c2 W h1.len h2.len (Nat.le_trans h1.cap h1.max) (Nat.le_trans h2.cap h2.max) h1.rd h2.rd).mono ?_
  rintro e w' ⟨he, n, hw⟩
  exact ⟨he, by rw [hw]; exact below_drewN (Below.refl _ _) n⟩
theorem gSame_es {W : World} {es fs : List Nd} {A1 A2 : Option Addr} {n1 c1 n2 c2 : Nat} (h1 : Es W es A1 n1 c1) (h2 : Es W fs A2 n2 c2) (b : Bool) (hb : decide (es = fs) = b) : Calls Tryz.prog 16 #[.slice A1 n1 c1, .slice A2 n2 c2] W fun e w' => e = .returned (.bool b) ∧ Below W.heap.size W w' := by
  subst hb
  refine (gSame_any es fs A1 A2 n1 c1 n2 c2 W h1.len h2.len (Nat.le_trans h1.cap h1.max) (Nat.le_trans h2.cap h2.max) h1.rd h2.rd).mono ?_
  rintro e w' ⟨he, n, hw⟩
  exact ⟨he, by rw [hw]; exact below_drewN (Below.refl _ _) n⟩
theorem sfine_of {l : List Nd} (h : ∀ n ∈ l, n ∈ sE1 ++ sE2 ++ sE3 ++ sE4 ++ sE5 ++ sE6 ++ sE7 ++ [plN 9, plN 6]) : ∀ n ∈ l, Fine n := fun n hn => f_fine n (h n hn)
theorem text_es {W : World} {es : List Nd} {A : Option Addr} {n c : Nat} (hL : LaidE W) (h : Es W es A n c) (hf : ∀ n ∈ es, Fine n) (hz : checkE es = 0) (t : List UInt8) (ht : textE es = t) : Calls Tryz.prog 22 #[.slice A n c] W fun e w' => e = .returned (.tuple #[.string ⟨t.toArray⟩, .int .i64 0]) ∧ Below W.heap.size W w' := by
  have := eText_any es A n c W hL h hf
  unfold RetText at this
  rwa [hz, if_pos rfl, ht] at this
theorem ret_es {W : World} {r : List Nd × Int} {es : List Nd} {z : Int} (hr : r = (es, z)) {f : FuncId} {args : Array Value} (h : Calls Tryz.prog f args W (RetEs r W)) : Calls Tryz.prog f args W fun e w' => ∃ A n c, e = .returned (.tuple #[.slice A n c, .int .i64 z]) ∧ Es w' es A n c ∧ Below W.heap.size W w' := by
  rw [hr] at h; exact h
theorem args_es {W : World} {A : Option Addr} {n c : Nat} (hL : LaidE W) (h : Es W sE2 A n c) : Calls Tryz.prog 23 #[.slice A n c] W fun e w' => ∃ A' c', e = .returned (.tuple #[.slice A' 7 c', .bool true]) ∧ ArgsAt w' [[], [], [0, 1], [], [], [4], [2, 3, 5]] A' 7 c' ∧ Below W.heap.size W w' := by
  refine (eArgs_any sE2 A n c W hL h (sfine_of (by intro n hn; simp [hn]))).mono ?_
  rintro e w' ⟨A', n', c', he, ha, hb⟩
  rw [f_c2, if_pos rfl, f_a2] at ha
  rw [f_c2] at he
  obtain rfl : n' = 7 := ha.len
  exact ⟨A', c', he, ha, hb⟩
end Go.Proofs.YtbicehdehiakgaaGreatDoor
