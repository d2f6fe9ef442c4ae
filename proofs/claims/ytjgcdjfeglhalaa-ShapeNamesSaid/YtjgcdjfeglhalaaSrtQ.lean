import Derived.Test.YtjgcdjfeglhalaaSeqB
import Derived.Test.YtjgcdjfeglhalaaSrtP
set_option linter.unusedVariables false
namespace Go.Proofs.Ytjgcdjfeglhalaa.Srt
open Go.RowKit Go.Sort

/-! ### slices.Sort of no slice -/
theorem insertion_nil (w : World) : Calls Try.prog 27 #[.slice none 0 0, .int .i64 0, .int .i64 0] w fun e w' => e = .returned (.tuple #[]) ∧ w' = w := by
  go_enter Try.func27, Try.ntmps27
  go_wp2
  go_loopw [6] (fun vi wr => vi = .int .i64 1 ∧ wr = w) (fun vi _ => 0)
  case atStart => exact ⟨rfl, rfl⟩
  case round =>
    obtain ⟨rfl, rfl⟩ := hrel
    go_wp2
    go_end0
    exact ⟨rfl, rfl⟩
set_option maxRecDepth 1000000 in
theorem pdq_nil (w : World) : Calls Try.prog 22 #[.slice none 0 0, .int .i64 0, .int .i64 0, .int .i64 0] w fun e w' => e = .returned (.tuple #[]) ∧ w' = w := by
  go_enter Try.func22, Try.ntmps22
  go_wp2
  go_loopg [1, 2, 3, 8, 9] 0 (fun k s1 s2 s3 s8 s9 wr => s1 = .int .i64 0 ∧ s2 = .int .i64 0 ∧ s3 = .int .i64 0 ∧ s8 = .bool true ∧ s9 = .bool true ∧ wr = w)
  case atStart => exact ⟨rfl, rfl, rfl, rfl, rfl, rfl⟩
  case round =>
    obtain ⟨rfl, rfl, rfl, rfl, rfl, rfl⟩ := hrel
    go_wp2_with (go_at_call 27; refine (insertion_nil _).mono ?_; rintro e w1 ⟨rfl, rfl⟩)
    (try simp only [Exit.inBlock, Exit.then]); refine bodyPost_ret (results_none rfl _ _ _) rfl ?_
    exact ⟨rfl, rfl⟩
theorem sort_nil (w : World) : Calls Try.prog 18 #[.slice none 0 0] w fun e w' => e = .returned (.tuple #[]) ∧ w' = w := by
  have hl := fun w => bits_Len 0 w (by omega) (by omega)
  have e0 : Lib.bitLen (0 : Int).toNat = 0 := by decide
  rw [e0] at hl
  go_enter Try.func18, Try.ntmps18
  go_wp2_with (first | (go_at_call 23; refine (hl _).mono ?_; rintro e w1 ⟨rfl, rfl⟩) | (go_at_call 22; refine (pdq_nil _).mono ?_; rintro e w2 ⟨rfl, rfl⟩))
  go_end0
  exact ⟨rfl, rfl⟩

theorem sort_calls (blk off cap : Nat) (d : Array Int) (w : World) (hH : Holds encU w blk off d) (hblk : blk < w.heap.size) (hsz : d.size < 4611686018427387904) :
    Calls Try.prog 18 #[.slice (some ⟨blk, off, none⟩) d.size cap] w fun e w' => e = .returned (.tuple #[]) ∧ Srtd w blk off 0 d.size d w' := by
  have hl := fun w => bits_Len (d.size : Int) w (by omega) (by omega)
  simp only [Int.toNat_natCast] at hl
  have hb : Lib.bitLen d.size ≤ 63 := by
    rcases Nat.eq_zero_or_pos d.size with h | h
    · rw [h]; decide
    · exact (bitLen_bound h hsz).2
  obtain ⟨L, hL⟩ : ∃ L, Lib.bitLen d.size = L := ⟨_, rfl⟩
  rw [hL] at hb
  simp only [hL] at hl
  clear hL
  have hp := pdq_calls (d.size + 1) blk off cap 0 d.size L d w (by omega) hH hblk (by omega) (Nat.le_refl _) hsz (by omega) (Or.inl rfl)
  go_enter Try.func18, Try.ntmps18
  go_wp2_with (first | (go_at_call 23; refine (hl _).mono ?_; rintro e w1 ⟨rfl, rfl⟩) | (go_at_call 22; refine hp.mono ?_; rintro e w2 ⟨rfl, hs⟩))
  go_end0
  exact ⟨rfl, hs⟩

/-! ### A slice of the call's own, sorted -/
theorem holds_block {w : World} {g : Nat} {cur : Array Value} {e : TypeId} {ss : List Int} (hb : w.heap[g]? = some (.cells cur e (0, 0))) (ht : cur.toList.take ss.length = ss.map encU) : Holds encU w g 0 ss.toArray := by
  intro j hj
  have hj' : j < ss.length := by simpa using hj
  refine ⟨?_, by simp [World.frozen?, hb]⟩
  have h1 : (cur.toList.take ss.length)[j]? = (ss.map encU)[j]? := by rw [ht]
  rw [List.getElem?_take_of_lt hj'] at h1
  simp only [World.cell?, hb, Nat.zero_add]
  simp only [Option.isSome_none, Bool.false_eq_true, if_false]
  rw [← Array.getElem?_toList, h1]
  simp [hj']
theorem at_heap {w w' : World} {g : Nat} {cur : Array Value} {e : TypeId} {fr : Nat × Nat} {d : Array Int} (hb : w.heap[g]? = some (.cells cur e fr)) (h : At encU w g 0 d w') :
    w'.heap[g]? = some (.cells (putCells encU 0 d cur) e fr) ∧ w.grownBy w' (some g) := by
  obtain ⟨n, os, rfl⟩ := h
  have hg : g < w.heap.size := (Array.getElem?_eq_some_iff.1 hb).1
  refine ⟨?_, rfl, rfl, rfl, by simp, fun k hk hne => ?_⟩
  · rw [heap_grow_old _ _ (by simpa using hg)]
    simp [putRow, mapBlock, Sort.ahead, Array.getElem?_modify, hb, onCells]
  · rw [heap_grow_old _ _ (by simpa using hk)]
    have : g ≠ k := fun e => hne (by rw [e])
    simp [putRow, mapBlock, Sort.ahead, Array.getElem?_modify, this]
theorem take_put (cur : Array Value) (d : Array Int) (h : d.size ≤ cur.size) : (putCells encU 0 d cur).toList.take d.size = d.toList.map encU := by
  apply List.ext_getElem?
  intro j
  by_cases hj : j < d.size
  · rw [List.getElem?_take_of_lt hj, Array.getElem?_toList]
    simp [putCells, hj, show j < cur.size by omega]
  · rw [List.getElem?_take_eq_none (by omega), List.getElem?_eq_none (by simp; omega)]

/-- In ascending order, and each number once. -/
def Asc (L : List Int) : Prop := L.Pairwise (· < ·)
theorem asc_of {d d' : Array Int} (hp : PermIn 0 d.size d d') (hs : SortedIn ltInt 0 d.size d') (hn : d.toList.Nodup) : Asc d'.toList ∧ d'.toList.Perm d.toList := by
  have hsz : d'.size = d.size := hp.1
  have hperm : d'.toList.Perm d.toList := by
    have h := hp.2.2
    rw [← hsz, Array.extract_size] at h
    rw [hsz, Array.extract_size] at h
    exact h
  refine ⟨?_, hperm⟩
  have hn' : d'.toList.Nodup := hperm.nodup_iff.2 hn
  unfold Asc
  rw [List.pairwise_iff_getElem]
  intro i j hi hj hij
  have hi' : i < d'.size := by simpa using hi
  have hj' : j < d'.size := by simpa using hj
  have h1 := hs i j (Nat.zero_le _) hij (by omega)
  rw [getElem!_pos d' i hi', getElem!_pos d' j hj'] at h1
  have h2 : d'[i] ≠ d'[j] := fun e => by
    have := (List.pairwise_iff_getElem.1 hn') i j hi hj hij
    exact this (by simpa using e)
  simp [ltInt] at h1
  simp
  omega

/-- slices.Sorted(maps.Keys(m)): a new slice with the map's keys in ascending order. -/
theorem sorted_keys {H : Type} (b nn : Nat) (D0 : DataW H) {R : Value → Option (DataW H × List MemPlace)} (Bm : Nat) (w : World) (hBm : Bm < w.heap.size)
    (hm : w.cell? ⟨Bm, 0, none⟩ = some (.map (some b))) (hown : w.ownsMap Try.prog 23 R b nn D0) (hN : Maps.size D0 ≤ 1000000) :
    Calls Try.prog 24 #[.func (.func 39) #[] #[.pointer (some ⟨Bm, 0, none⟩)]] w fun e w' => ∃ (v : Value) (L : List Int), e = .returned v ∧ Asc L ∧ (∀ x, x ∈ L ↔ Maps.has D0 (.int .u16 x) = true) ∧ w'.ownsRow w.heap.size 23 1 v L.length (L.map encU) ∧ Below w.heap.size w w' := by
  go_enter Try.func24, Try.ntmps24
  go_wp2_with (go_at_call 38; refine (Seq.collect_keys b nn D0 Bm w hBm hm hown hN).mono ?_; rintro e W ⟨v, ss, rfl, ⟨hnd, hmem⟩, hsl, hrow, hb⟩)
  rcases hrow.2 with ⟨rfl, hz⟩ | ⟨gb, cap, cur, rfl, hbase, hgb, r1, r2, r3, r4⟩
  · have hss : ss = [] := List.eq_nil_of_length_eq_zero hz
    subst hss
    go_wp2_with (go_at_call 18; refine (sort_nil _).mono ?_; rintro e w' ⟨rfl, rfl⟩)
    go_ret
    exact ⟨_, [], rfl, List.Pairwise.nil, hmem, by simpa using hrow, hb⟩
  · have hH : Holds encU W gb 0 ss.toArray := holds_block hgb (by simpa using r4)
    have hgl : gb < W.heap.size := (Array.getElem?_eq_some_iff.1 hgb).1
    have cS := sort_calls gb 0 cap ss.toArray W hH hgl (by simp; omega)
    simp only [List.size_toArray] at cS
    go_wp2_with (go_at_call 18; refine cS.mono ?_; rintro e w' ⟨rfl, d', hp, hs, hw'⟩)
    go_ret
    have ha := asc_of (d := ss.toArray) (d' := d') (by simpa using hp) (by simpa using hs) (by simpa using hnd)
    have hh := at_heap hgb hw'
    have hsz : d'.size = ss.length := by have := hp.1; simpa using this
    refine ⟨_, d'.toList, rfl, ha.1, fun x => by rw [← hmem x]; simpa using ha.2.mem_iff (a := x), ?_, hb.grown hh.2 hb.size (fun j hj => by cases hj; exact hbase)⟩
    refine ⟨by simp, .inr ⟨gb, cap, _, by simp [hsz], hbase, hh.1, by simp [hsz]; exact r1, r2, by simp [putCells, r3], ?_⟩⟩
    rw [Nat.mul_one]
    simpa using take_put cur d' (by omega)
#print axioms sorted_keys
end Go.Proofs.Ytjgcdjfeglhalaa.Srt
