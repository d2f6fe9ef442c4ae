/- Joined: SeqA, SeqB, SrtQ. -/
import Derived.RangeFuncNested
import Derived.RangeFuncBound
import Derived.RangeFuncCalls
import Derived.RangeFuncLeaves
import Derived.RangeFuncStops
import Derived.Shelf.Abstract
import Derived.Shelf.RegionOpen
import Derived.Sort.MapsRangeIn
import Derived.Sort.KeysCollected
import Derived.Maps.AppendAt
import Derived.WalkKit
import Derived.OwnWalkIn
import Derived.TacticsInMore
import Derived.RegionIn
import Derived.LoopNIn
import Derived.LoopIn
import Derived.Test.YtcjcgehhmjnlcaaGreatDoorProg
import Derived.RangeFuncFrom
import Derived.RangeFuncBox
import Derived.Maps.OwnIn
import Derived.Test.YtcjcgehhmjnlcaaGreatDoorSrE
set_option linter.unusedVariables false
namespace Go.Proofs.YtcjcgehhmjnlcaaGreatDoor.Seq
open Go.RowKit Go.Maps Go.Sort Go.Shelf
attribute [local go_sem] Oper.semAt_some

theorem key_u16 {P : Program} {k : TypeId} (hk : P.underlying k = some (.int .u32)) {key : Value} {kl : Lit} (h : keyOf P k key = some kl) : ∃ x : Int, key = .int .u32 x ∧ kl = .int .u32 x := by
  cases key <;> simp [keyOf, hk, mapKey] at h
  rename_i q a
  obtain ⟨⟨rfl, hw⟩, rfl⟩ := h
  exact ⟨a, rfl, rfl⟩

/-- What has come so far of a map's keys. -/
def Coll {H : Type} (D0 : DataW H) (left : Lit → Bool) (ss : List Int) : Prop := ss.Nodup ∧ ∀ x, x ∈ ss ↔ (has D0 (.int .u32 x) = true ∧ left (.int .u32 x) = false)
theorem Coll.start {H : Type} (D0 : DataW H) : Coll D0 (has D0) [] := ⟨List.nodup_nil, fun x => by cases has D0 (.int .u32 x) <;> simp⟩
theorem Coll.step {H : Type} {D0 : DataW H} {left : Lit → Bool} {ss : List Int} (h : Coll D0 left ss) {x : Int} {y : DataW H} (hlk : left (.int .u32 x) = true) (hat : ∀ zd, D0.atKey (.int .u32 x) zd = y) : Coll D0 (fun z => left z && !z.sameKey (.int .u32 x)) (ss ++ [x]) := by
  have hhas : has D0 (.int .u32 x) = true := has_true_of_atKey hat
  have hnew : x ∉ ss := fun hx => by have := ((h.2 x).1 hx).2; rw [hlk] at this; cases this
  refine ⟨List.nodup_append.2 ⟨h.1, by simp, fun a ha b hb => by simp at hb; subst hb; exact fun e => hnew (e ▸ ha)⟩, fun y => ?_⟩
  by_cases hy : y = x
  · subst hy; simp [hhas, Lit.sameKey]
  · simp [h.2 y, hy, Lit.sameKey]

set_option maxRecDepth 100000 in
set_option maxHeartbeats 2000000 in
theorem keys1_in {H : Type} (F : Fence) (n : Nat) (h39 : F.fn 114) (hro : F.round = none) (hn : 1 ≤ n) (l Bm b nn : Nat) (D0 : DataW H) {R : Value → Option (DataW H × List MemPlace)} (J Jx : List Int → World → Prop)
    (hY : ∀ pre x W, J pre W → pre.length < Maps.size D0 → YieldAt F (n - 1) Tryz.prog l #[.int .u32 x] W fun e W' =>
      (e = .returned (.bool true) ∧ J (pre ++ [x]) W' ∧ KeepsWalks W W') ∨ (e = .returned (.bool false) ∧ Jx (pre ++ [x]) W'))
    (W : World) (hJ : AbidesFrom W.heap.size J) (hm : W.cell? ⟨Bm, 0, none⟩ = some (.map (some b))) (hown : W.ownsMap Tryz.prog 23 R b nn D0) (h0 : J [] W) :
    CallsIn F n Tryz.prog 114 #[.func (.yield l) #[] #[], .pointer (some ⟨Bm, 0, none⟩)] W fun e W' => (∃ v, e = .returned v) ∧
      ((∃ ss : List Int, (ss.Nodup ∧ ∀ x, x ∈ ss ↔ has D0 (.int .u32 x) = true) ∧ J ss W') ∨ (∃ pre : List Int, True ∧ Jx pre W')) := by
  refine callsIn_of_wp Tryz.func114 rfl h39 ?_ hro
  simp only [Tryz.ntmps114, List.size_toArray, List.length_cons, List.length_nil, Nat.reduceAdd, Nat.reduceSub, Array.replicate_succ, Array.replicate_zero, List.push_toArray, List.append_toArray, List.nil_append, List.cons_append]
  gi_wp2_with (gi_at_range; refine wpListIn_range_own _ rfl _ 130 rfl 23 4 (int_keyed Tryz.underlying23) Tryz.underlying130 _ b nn _ rfl hown ?_; intro w0 hrg0 hg0 hs0)
  go_frame
  gi_loopw [3] (fun _ wr => ∃ (left : Lit → Bool) (cnt : Nat) (ss : List Int), wr.ranges Tryz.prog 23 R b W.heap.size nn D0 left cnt ∧ ss.length + cnt ≤ Maps.size D0 ∧ Coll D0 left ss ∧ J ss wr)
    (fun _ wr => wr.rangeLeft b W.heap.size)
  case atStart =>
    exact ⟨_, _, [], hrg0, by simp, Coll.start D0, hJ [] W w0 none h0 hg0 (fun r e => by cases e)⟩
  case round =>
    obtain ⟨left, cnt, ss, hrg, hcs, hC, hJs⟩ := hrel
    gi_wp2_with (gi_at_next; refine wpListIn_next_ranges _ rfl _ rfl 23 (int_keyed Tryz.underlying23) R (fun x : Int => Value.int .u32 x) id (fun key kl hk => by obtain ⟨x, hx, _⟩ := key_u16 Tryz.underlying23 hk; exact ⟨x, hx⟩) (fun v _ _ => ⟨v, rfl⟩) b W.heap.size nn _ _ _ rfl hrg ?_ ?_)
    · intro hc0 hl0
      gi_wp2
      go_end0
      exact ⟨⟨_, rfl⟩, .inl ⟨ss, ⟨hC.1, fun x => by rw [hC.2 x, hl0]; simp⟩, hJs⟩⟩
    · intro x c kl yd yp w2 cnt2 hkey hlk hv hat hrg2 hlt hg2 hs2 hen
      obtain ⟨x', ex, rfl⟩ := key_u16 Tryz.underlying23 hkey
      obtain rfl : x = x' := by simpa using ex
      have hJ2 : J ss w2 := hJ ss wr w2 (some W.heap.size) hJs hg2 (fun r e => by cases e; exact ⟨Nat.le_refl _, hrg.iter_walk⟩)
      obtain ⟨fn, tmps, assign, body, hy, hR⟩ := hY ss x w2 hJ2 (by omega)
      clear hs2
      gi_wp2
      refine hR.mono ?_
      have hC2 := hC.step hlk hat
      rintro e W3 (⟨rfl, hJ3, hk3⟩ | ⟨rfl, hJx3⟩)
      · gi_wp2
        have hrg3 := hrg2.of_walks hk3
        go_roundw
        case rel => exact ⟨_, cnt2, ss ++ [x], hrg3, by simp; omega, hC2, hJ3⟩
        case measure => rw [hrg3.left_eq, hrg.left_eq]; exact hlt
      · gi_wp2
        refine bodyPost_ret (results_none rfl _ _ _) rfl ?_
        exact ⟨⟨_, rfl⟩, .inr ⟨ss ++ [x], trivial, hJx3⟩⟩

theorem keys_stops {H : Type} (F : Fence) (n : Nat) (h39 : F.fn 114) (hro : F.round = none) (hn : 1 ≤ n) (Bm b nn : Nat) (D0 : DataW H) {R : Value → Option (DataW H × List MemPlace)} (w : World) (hBm : Bm < w.heap.size)
    (hm : w.cell? ⟨Bm, 0, none⟩ = some (.map (some b))) (hown : w.ownsMap Tryz.prog 23 R b nn D0) :
    SeqStops F n Tryz.prog 114 #[.pointer (some ⟨Bm, 0, none⟩)] (fun x : Int => Value.int .u32 x) (fun ss => ss.Nodup ∧ ∀ x, x ∈ ss ↔ has D0 (.int .u32 x) = true) (fun _ => True) (Maps.size D0) w := fun l J Jx W hW hJ _ hY h0 => by
  have hown' : W.ownsMap Tryz.prog 23 R b nn D0 := by
    have hbl := hown.lt
    obtain ⟨es, clock, hb, Ft, hs, hD⟩ := hown
    exact ⟨es, clock, (hW.block b hbl).trans hb, Ft, hs, hD⟩
  exact keys1_in F n h39 hro hn l Bm b nn D0 J Jx hY W hJ ((hW.cell (p := ⟨Bm, 0, none⟩) hBm).trans hm) hown' h0
#print axioms keys_stops
end Go.Proofs.YtcjcgehhmjnlcaaGreatDoor.Seq
set_option linter.unusedVariables false
namespace Go.Proofs.YtcjcgehhmjnlcaaGreatDoor.Seq
open Go.RowKit Go.Maps Go.Sort Go.Shelf
attribute [local go_sem] Oper.semAt_some

theorem info32 : (Tryz.prog.info? 23).map (fun i => (i.zero, i.size, i.bytes)) = some (some (.int .u32 0), 1, 4) := by kernel_rfl

set_option maxRecDepth 100000 in
set_option maxHeartbeats 2000000 in
theorem appendSeq_in (F : Fence) (n : Nat) (h46 : F.fn 122) (hro : F.round = none) (hn : 2 ≤ n) (g : Nat) (lb : Array Value) (hFg : F.fn g) (eg : ∀ args w, (callFunc g args).run Tryz.prog w = .ok (.enter g args) w)
    (S Sp : List Int → Prop) (N : Nat) (hN : N ≤ 1000000) (w : World) (hseq : SeqStops F (n - 1) Tryz.prog g lb (fun x : Int => Value.int .u32 x) S Sp N w) :
    CallsIn F n Tryz.prog 122 #[.slice none 0 0, .func (.func g) #[] lb] w fun e w' => ∃ (v : Value) (ss : List Int), e = .returned v ∧ S ss ∧ ss.length ≤ N ∧ w'.ownsRow w.heap.size 23 1 v ss.length (ss.map (Value.int .u32)) ∧ Below w.heap.size w w' := by
  have h1 : 1 ≤ n := by omega
  obtain ⟨i0, hi, hz0, hz1, hz2⟩ := info_parts info32
  refine callsIn_of_wp_marks Tryz.func122 rfl h46 ?_ hro
  simp only [Tryz.ntmps122, List.size_toArray, List.length_cons, List.length_nil, Nat.reduceAdd, Nat.reduceSub, Array.replicate_succ, Array.replicate_zero, List.push_toArray, List.append_toArray, List.nil_append, List.cons_append]
  gi_wp2
  have hbx := Boxed.new w 42 (.slice none 0 0)
  have hb0 : Below w.heap.size w (w.alloc (.cells #[.slice none 0 0] 42)) := (Below.refl _ w).alloc (Nat.le_refl _) _
  refine wpIn_rangeFunc_ownF hro h1 (gf := g) (lb := lb) rfl hFg eg (seqStopsA_iff.1 (seqStops_iff.1 hseq)) walksK_t walksK_b hb0 (fun _ => rfl)
    (fun pre W => (∃ v, Boxed W w.heap.size 42 v ∧ W.ownsRow w.heap.size 23 1 v pre.length (pre.map (Value.int .u32)) ∧ pre.length ≤ N) ∧ Below w.heap.size w W)
    (fun _ _ _ => False)
    (OwnFrom.and (Own.from (holdsRow_own w.heap.size w.heap.size 42 23 1 (fun pre : List Int => pre.length) (fun pre => pre.map (Value.int .u32)) (fun pre _ => pre.length ≤ N)) _) (ownFrom_below (Nat.le_refl _) (by simp)))
    (fun _ _ _ _ _ hs _ _ => hs)
    ⟨⟨_, hbx, World.ownsRow_nil _ _ _ _, by simp⟩, hb0⟩
    (fun x => { tmps := #[.slice none 0 0, .func (.func g) #[] lb, .pointer (some ⟨w.heap.size, 0, none⟩), undef, .slice none 0 0, .int .u32 x, .func (.func g) #[] lb, .int .u32 x, undef, undef, undef, undef, undef], defers := [] }) ?assign ?body ?done ?stop
  case assign =>
    intro l x W K hK
    gi_wp2
    exact hK
  case body =>
    rintro l pre x W ⟨⟨v, hv, hrow, hlN⟩, hB⟩ hlt
    have hc := hv.cell
    gi_wp2_with (gi_at_builtin; refine wpListIn_append_own _ rfl _ _ 42 rfl w.heap.size 23 i0 (.int .u32 0) 1 4 Tryz.underlying42 hi hz0 hz1 hz2 rfl (by decide) _ _ _ rfl (hrow.alloc _) ⟨W.heap.size, 0, none⟩ 1 1 [.int .u32 x] rfl rfl (cell_one_new _ _ _) (by simp [Value.oneCell']) (by unfold maxLen; omega) (by omega) (by have := hB.size; simp; omega) ?_; intro v' w1 hown' hgrow _; obtain ⟨g', cap', rfl⟩ := ownsRow_succ hown'; obtain ⟨hv1, hv2, hr2, hk2, hb2⟩ := hv.appended (by decide) hrow hB.size (Nat.le_refl _) hown' hgrow; have hc1 := hv1.cell; have hf1 := hv1.frozen)
    exact ⟨hk2, hk2.walks, ⟨_, hv2, by simpa using hr2, by simp; omega⟩, hB.trans hb2⟩
  case done =>
    rintro D ys W hD hS ⟨⟨v, hv, hrow, hlN⟩, hB⟩ hK
    have hc := hv.cell
    gi_wp2
    refine ⟨by simp, .inl ⟨_, _, rfl, run_takeDeferred hK, ?_⟩⟩
    exact ⟨_, results_tmp rfl _ _ _, v, ys, rfl, hS, hlN, ownsRow_putObj hrow _ hK rfl, hB.trans (belowK_b (w := w) (Nat.le_refl _) W D _ _ (by simp at hD; omega) hK rfl rfl)⟩
  case stop =>
    rintro D c pre W _ _ h _
    exact h.elim

set_option maxRecDepth 100000 in
theorem collect_in (F : Fence) (n : Nat) (h38 : F.fn 96) (h46 : F.fn 122) (hro : F.round = none) (hn : 3 ≤ n) (g : Nat) (lb : Array Value) (hFg : F.fn g) (eg : ∀ args w, (callFunc g args).run Tryz.prog w = .ok (.enter g args) w)
    (S Sp : List Int → Prop) (N : Nat) (hN : N ≤ 1000000) (w : World) (hseq : SeqStops F (n - 1 - 1) Tryz.prog g lb (fun x : Int => Value.int .u32 x) S Sp N w) :
    CallsIn F n Tryz.prog 96 #[.func (.func g) #[] lb] w fun e w' => ∃ (v : Value) (ss : List Int), e = .returned v ∧ S ss ∧ ss.length ≤ N ∧ w'.ownsRow w.heap.size 23 1 v ss.length (ss.map (Value.int .u32)) ∧ Below w.heap.size w w' := by
  have h1 : 1 ≤ n := by omega
  refine callsIn_of_wp Tryz.func96 rfl h38 ?_ hro
  simp only [Tryz.ntmps96, List.size_toArray, List.length_cons, List.length_nil, Nat.reduceAdd, Nat.reduceSub, Array.replicate_succ, Array.replicate_zero, List.push_toArray, List.append_toArray, List.nil_append, List.cons_append]
  gi_wp2_with (gi_at_call 122; refine (appendSeq_in F (n - 1) h46 hro (by omega) g lb hFg eg S Sp N hN _ hseq).mono ?_; rintro e w' ⟨v, ss, rfl, hS, hlN, hrow, hb⟩)
  go_ret
  exact ⟨v, ss, rfl, hS, hlN, hrow, hb⟩

/-- maps.Keys' iterator, collected: a new slice with each key once. -/
theorem collect_keys {H : Type} (b nn : Nat) (D0 : DataW H) {R : Value → Option (DataW H × List MemPlace)} (Bm : Nat) (w : World) (hBm : Bm < w.heap.size)
    (hm : w.cell? ⟨Bm, 0, none⟩ = some (.map (some b))) (hown : w.ownsMap Tryz.prog 23 R b nn D0) (hN : Maps.size D0 ≤ 1000000) :
    Calls Tryz.prog 96 #[.func (.func 114) #[] #[.pointer (some ⟨Bm, 0, none⟩)]] w fun e w' => ∃ (v : Value) (ss : List Int), e = .returned v ∧ (ss.Nodup ∧ ∀ x, x ∈ ss ↔ has D0 (.int .u32 x) = true) ∧ ss.length ≤ Maps.size D0 ∧ w'.ownsRow w.heap.size 23 1 v ss.length (ss.map (Value.int .u32)) ∧ Below w.heap.size w w' :=
  callsIn_wide.1 (collect_in Fence.wide 5 trivial trivial rfl (by omega) 114 _ trivial (enters_of Tryz.func114 (by kernel_rfl) rfl) _ _ (Maps.size D0) hN w (keys_stops Fence.wide 3 trivial rfl (by omega) Bm b nn D0 w hBm hm hown))
#print axioms collect_keys
end Go.Proofs.YtcjcgehhmjnlcaaGreatDoor.Seq
set_option linter.unusedVariables false
namespace Go.Proofs.YtcjcgehhmjnlcaaGreatDoor.Srt
open Go.RowKit Go.Sort

/-! ### slices.Sort of no slice -/
theorem insertion_nil (w : World) : Calls Tryz.prog 153 #[.slice none 0 0, .int .i64 0, .int .i64 0] w fun e w' => e = .returned (.tuple #[]) ∧ w' = w := by
  go_enter Tryz.func153, Tryz.ntmps153
  go_wp2
  go_loopw [6] (fun vi wr => vi = .int .i64 1 ∧ wr = w) (fun vi _ => 0)
  case atStart => exact ⟨rfl, rfl⟩
  case round =>
    obtain ⟨rfl, rfl⟩ := hrel
    go_wp2
    go_end0
    exact ⟨rfl, rfl⟩
set_option maxRecDepth 1000000 in
theorem pdq_nil (w : World) : Calls Tryz.prog 141 #[.slice none 0 0, .int .i64 0, .int .i64 0, .int .i64 0] w fun e w' => e = .returned (.tuple #[]) ∧ w' = w := by
  go_enter Tryz.func141, Tryz.ntmps141
  go_wp2
  go_loopg [1, 2, 3, 8, 9] 0 (fun k s1 s2 s3 s8 s9 wr => s1 = .int .i64 0 ∧ s2 = .int .i64 0 ∧ s3 = .int .i64 0 ∧ s8 = .bool true ∧ s9 = .bool true ∧ wr = w)
  case atStart => exact ⟨rfl, rfl, rfl, rfl, rfl, rfl⟩
  case round =>
    obtain ⟨rfl, rfl, rfl, rfl, rfl, rfl⟩ := hrel
    go_wp2_with (go_at_call 153; refine (insertion_nil _).mono ?_; rintro e w1 ⟨rfl, rfl⟩)
    (try simp only [Exit.inBlock, Exit.then]); refine bodyPost_ret (results_none rfl _ _ _) rfl ?_
    exact ⟨rfl, rfl⟩
theorem sort_nil (w : World) : Calls Tryz.prog 113 #[.slice none 0 0] w fun e w' => e = .returned (.tuple #[]) ∧ w' = w := by
  have hl := fun w => bits_Len 0 w (by omega) (by omega)
  have e0 : Lib.bitLen (0 : Int).toNat = 0 := by decide
  rw [e0] at hl
  go_enter Tryz.func113, Tryz.ntmps113
  go_wp2_with (first | (go_at_call 142; refine (hl _).mono ?_; rintro e w1 ⟨rfl, rfl⟩) | (go_at_call 141; refine (pdq_nil _).mono ?_; rintro e w2 ⟨rfl, rfl⟩))
  go_end0
  exact ⟨rfl, rfl⟩

theorem sort_calls (blk off cap : Nat) (d : Array Int) (w : World) (hH : Holds encU w blk off d) (hblk : blk < w.heap.size) (hsz : d.size < 4611686018427387904) :
    Calls Tryz.prog 113 #[.slice (some ⟨blk, off, none⟩) d.size cap] w fun e w' => e = .returned (.tuple #[]) ∧ Srtd w blk off 0 d.size d w' := by
  have hl := fun w => bits_Len (d.size : Int) w (by omega) (by omega)
  simp only [Int.toNat_natCast] at hl
  have hb : Lib.bitLen d.size ≤ 63 := by
    rcases Nat.eq_zero_or_pos d.size with h | h
    · rw [h]; decide
    · exact (bitLen_bound h hsz).2
  obtain ⟨L, hL⟩ : ∃ L, Lib.bitLen d.size = L := ⟨_, rfl⟩
  rw [hL] at hb
  simp only [hL] at hl
  clear hL
  have hp := pdq_calls (d.size + 1) blk off cap 0 d.size L d w (by omega) hH hblk (by omega) (Nat.le_refl _) hsz (by omega) (Or.inl rfl)
  go_enter Tryz.func113, Tryz.ntmps113
  go_wp2_with (first | (go_at_call 142; refine (hl _).mono ?_; rintro e w1 ⟨rfl, rfl⟩) | (go_at_call 141; refine hp.mono ?_; rintro e w2 ⟨rfl, hs⟩))
  go_end0
  exact ⟨rfl, hs⟩

/-! ### A slice of the call's own, sorted -/
theorem holds_block {w : World} {g : Nat} {cur : Array Value} {e : TypeId} {ss : List Int} (hb : w.heap[g]? = some (.cells cur e (0, 0))) (ht : cur.toList.take ss.length = ss.map encU) : Holds encU w g 0 ss.toArray := by
  intro j hj
  have hj' : j < ss.length := by simpa using hj
  refine ⟨?_, by simp [World.frozen?, hb]⟩
  have h1 : (cur.toList.take ss.length)[j]? = (ss.map encU)[j]? := by rw [ht]
  rw [List.getElem?_take_of_lt hj'] at h1
  simp only [World.cell?, hb, Nat.zero_add]
  simp only [Option.isSome_none, Bool.false_eq_true, if_false]
  rw [← Array.getElem?_toList, h1]
  simp [hj']
theorem at_heap {w w' : World} {g : Nat} {cur : Array Value} {e : TypeId} {fr : Nat × Nat} {d : Array Int} (hb : w.heap[g]? = some (.cells cur e fr)) (h : At encU w g 0 d w') :
    w'.heap[g]? = some (.cells (putCells encU 0 d cur) e fr) ∧ w.grownBy w' (some g) := by
  obtain ⟨n, os, rfl⟩ := h
  have hg : g < w.heap.size := (Array.getElem?_eq_some_iff.1 hb).1
  refine ⟨?_, rfl, rfl, rfl, by simp, fun k hk hne => ?_⟩
  · rw [heap_grow_old _ _ (by simpa using hg)]
    simp [putRow, mapBlock, Sort.ahead, Array.getElem?_modify, hb, onCells]
  · rw [heap_grow_old _ _ (by simpa using hk)]
    have : g ≠ k := fun e => hne (by rw [e])
    simp [putRow, mapBlock, Sort.ahead, Array.getElem?_modify, this]
theorem take_put (cur : Array Value) (d : Array Int) (h : d.size ≤ cur.size) : (putCells encU 0 d cur).toList.take d.size = d.toList.map encU := by
  apply List.ext_getElem?
  intro j
  by_cases hj : j < d.size
  · rw [List.getElem?_take_of_lt hj, Array.getElem?_toList]
    simp [putCells, hj, show j < cur.size by omega]
  · rw [List.getElem?_take_eq_none (by omega), List.getElem?_eq_none (by simp; omega)]

/-- In ascending order, and each number once. -/
def Asc (L : List Int) : Prop := L.Pairwise (· < ·)
theorem asc_of {d d' : Array Int} (hp : PermIn 0 d.size d d') (hs : SortedIn ltInt 0 d.size d') (hn : d.toList.Nodup) : Asc d'.toList ∧ d'.toList.Perm d.toList := by
  have hsz : d'.size = d.size := hp.1
  have hperm : d'.toList.Perm d.toList := by
    have h := hp.2.2
    rw [← hsz, Array.extract_size] at h
    rw [hsz, Array.extract_size] at h
    exact h
  refine ⟨?_, hperm⟩
  have hn' : d'.toList.Nodup := hperm.nodup_iff.2 hn
  unfold Asc
  rw [List.pairwise_iff_getElem]
  intro i j hi hj hij
  have hi' : i < d'.size := by simpa using hi
  have hj' : j < d'.size := by simpa using hj
  have h1 := hs i j (Nat.zero_le _) hij (by omega)
  rw [getElem!_pos d' i hi', getElem!_pos d' j hj'] at h1
  have h2 : d'[i] ≠ d'[j] := fun e => by
    have := (List.pairwise_iff_getElem.1 hn') i j hi hj hij
    exact this (by simpa using e)
  simp [ltInt] at h1
  simp
  omega

/-- slices.Sorted(maps.Keys(m)): a new slice with the map's keys in ascending order. -/
theorem sorted_keys {H : Type} (b nn : Nat) (D0 : DataW H) {R : Value → Option (DataW H × List MemPlace)} (Bm : Nat) (w : World) (hBm : Bm < w.heap.size)
    (hm : w.cell? ⟨Bm, 0, none⟩ = some (.map (some b))) (hown : w.ownsMap Tryz.prog 23 R b nn D0) (hN : Maps.size D0 ≤ 1000000) :
    Calls Tryz.prog 83 #[.func (.func 114) #[] #[.pointer (some ⟨Bm, 0, none⟩)]] w fun e w' => ∃ (v : Value) (L : List Int), e = .returned v ∧ Asc L ∧ (∀ x, x ∈ L ↔ Maps.has D0 (.int .u32 x) = true) ∧ w'.ownsRow w.heap.size 23 1 v L.length (L.map encU) ∧ Below w.heap.size w w' := by
  go_enter Tryz.func83, Tryz.ntmps83
  go_wp2_with (go_at_call 96; refine (Seq.collect_keys b nn D0 Bm w hBm hm hown hN).mono ?_; rintro e W ⟨v, ss, rfl, ⟨hnd, hmem⟩, hsl, hrow, hb⟩)
  rcases hrow.2 with ⟨rfl, hz⟩ | ⟨gb, cap, cur, rfl, hbase, hgb, r1, r2, r3, r4⟩
  · have hss : ss = [] := List.eq_nil_of_length_eq_zero hz
    subst hss
    go_wp2_with (go_at_call 113; refine (sort_nil _).mono ?_; rintro e w' ⟨rfl, rfl⟩)
    go_ret
    exact ⟨_, [], rfl, List.Pairwise.nil, hmem, by simpa using hrow, hb⟩
  · have hH : Holds encU W gb 0 ss.toArray := holds_block hgb (by simpa using r4)
    have hgl : gb < W.heap.size := (Array.getElem?_eq_some_iff.1 hgb).1
    have cS := sort_calls gb 0 cap ss.toArray W hH hgl (by simp; omega)
    simp only [List.size_toArray] at cS
    go_wp2_with (go_at_call 113; refine cS.mono ?_; rintro e w' ⟨rfl, d', hp, hs, hw'⟩)
    go_ret
    have ha := asc_of (d := ss.toArray) (d' := d') (by simpa using hp) (by simpa using hs) (by simpa using hnd)
    have hh := at_heap hgb hw'
    have hsz : d'.size = ss.length := by have := hp.1; simpa using this
    refine ⟨_, d'.toList, rfl, ha.1, fun x => by rw [← hmem x]; simpa using ha.2.mem_iff (a := x), ?_, hb.grown hh.2 hb.size (fun j hj => by cases hj; exact hbase)⟩
    refine ⟨by simp, .inr ⟨gb, cap, _, by simp [hsz], hbase, hh.1, by simp [hsz]; exact r1, r2, by simp [putCells, r3], ?_⟩⟩
    rw [Nat.mul_one]
    simpa using take_put cur d' (by omega)
#print axioms sorted_keys
end Go.Proofs.YtcjcgehhmjnlcaaGreatDoor.Srt
