import Derived.Test.YtjgcdjfeglhalaaSrtE
set_option linter.unusedVariables false
namespace Go.Proofs.Ytjgcdjfeglhalaa.Srt
open Go.RowKit Go.Sort

/-- The count of swaps stands in a block of its own behind the heap of w. -/
def Cnt (w : World) (s : Nat) (wr : World) : Prop := ∃ n, wr = grow (Sort.ahead w n) #[.cells #[.int .i64 s] 3 (0, 0)]

theorem cnt_facts {w wr : World} {s blk off : Nat} {d : Array Int} (h : Cnt w s wr) (hH : Holds encU w blk off d) (hblk : blk < w.heap.size) :
    ∃ G : Nat → Int, (∀ t, G t = d[t]!) ∧ (∀ t, t < d.size → wr.cell? ⟨blk, off + t, none⟩ = some (.int .u16 (G t))) ∧
      wr.cell? ⟨w.heap.size, 0, none⟩ = some (.int .i64 s) ∧ wr.frozen? ⟨w.heap.size, 0, none⟩ = false := by
  obtain ⟨n, rfl⟩ := h
  refine ⟨fun t => d[t]!, fun _ => rfl, fun t ht => ?_, ?_, ?_⟩
  · rw [cell?_grow _ _ _ (by simpa using hblk)]
    exact (hH t ht).1
  · simp [World.cell?, grow]
  · simp [World.frozen?, grow]
theorem cnt_drew {w wr : World} {s : Nat} (h : Cnt w s wr) (q : Nat) : Cnt w s (wr.drewN q) := by
  obtain ⟨n, rfl⟩ := h
  exact ⟨n + q, by show Sort.ahead (grow (Sort.ahead w n) _) q = _; rw [ahead_grow, ahead_ahead]⟩
theorem cnt_set {w wr : World} {s : Nat} (h : Cnt w s wr) : Cnt w (s + 1) (wr.setCell ⟨w.heap.size, 0, none⟩ (.int .i64 ((s : Int) + 1))) := by
  obtain ⟨n, rfl⟩ := h
  refine ⟨n, ?_⟩
  rw [setCell_eq, mapBlock_grow_new _ _ _ _ (by simp)]
  simp [onCells]

set_option maxRecDepth 1000000 in
theorem order2_calls (w : World) (blk off cap a b s : Nat) (d : Array Int) (hH : Holds encU w blk off d) (hblk : blk < w.heap.size) (ha : a < d.size) (hb : b < d.size) (hs : s < 4611686018427387904) (hsz : d.size < 4611686018427387904) (wr : World) (hC : Cnt w s wr) :
    Calls Try.prog 47 #[.slice (some ⟨blk, off, none⟩) d.size cap, .int .i64 a, .int .i64 b, .pointer (some ⟨w.heap.size, 0, none⟩)] wr fun e w' =>
      e = .returned (.tuple #[.int .i64 (order2 ltInt d a b s).1, .int .i64 (order2 ltInt d a b s).2.1]) ∧ Cnt w (order2 ltInt d a b s).2.2 w' := by
  obtain ⟨G, hG, hcw, hcc, hcf⟩ := cnt_facts hC hH hblk
  have HG : Hid (∀ t, G t = d[t]!) := hG
  clear hG
  go_enter Try.func47, Try.ntmps47
  go_wp2_with fail
  go_big_quiet (first | (go_at_call 33; refine Calls.quiet_of_same (less_calls _ _ _)))
  cases hT : ltInt (G b) (G a)
  · have E : order2 ltInt d a b s = (a, b, s) := by unfold order2; rw [← HG.out, ← HG.out, hT]; rfl
    go_wp2_with fail
    go_ret2
    exact ⟨by rw [E]; rfl, by rw [E]; exact cnt_drew hC nq⟩
  · have E : order2 ltInt d a b s = (b, a, s + 1) := by unfold order2; rw [← HG.out, ← HG.out, hT]; rfl
    have hC2 := cnt_drew hC nq
    have hcc2 : (wr.drewN nq).cell? ⟨w.heap.size, 0, none⟩ = some (.int .i64 s) := hcc
    have hcf2 : (wr.drewN nq).frozen? ⟨w.heap.size, 0, none⟩ = false := hcf
    go_wp2_with fail
    go_ret2
    exact ⟨by rw [E]; rfl, by rw [E]; exact cnt_set hC2⟩

theorem order2_range {α : Type} [Inhabited α] (lt : α → α → Bool) (d : Array α) (a b s : Nat) :
    ((order2 lt d a b s).1 = a ∧ (order2 lt d a b s).2.1 = b ∨ (order2 lt d a b s).1 = b ∧ (order2 lt d a b s).2.1 = a) ∧ (order2 lt d a b s).2.2 ≤ s + 1 := by
  unfold order2
  split <;> simp

set_option maxRecDepth 1000000 in
theorem median_calls (w : World) (blk off cap a b c s : Nat) (d : Array Int) (hH : Holds encU w blk off d) (hblk : blk < w.heap.size) (ha : a < d.size) (hb : b < d.size) (hc : c < d.size) (hs : s < 4611686018427387900) (hsz : d.size < 4611686018427387904) (wr : World) (hC : Cnt w s wr) :
    Calls Try.prog 44 #[.slice (some ⟨blk, off, none⟩) d.size cap, .int .i64 a, .int .i64 b, .int .i64 c, .pointer (some ⟨w.heap.size, 0, none⟩)] wr fun e w' =>
      e = .returned (.int .i64 (median ltInt d a b c s).1) ∧ Cnt w (median ltInt d a b c s).2 w' := by
  have R1 := order2_range ltInt d a b s
  have C1 := order2_calls w blk off cap a b s d hH hblk ha hb (by omega) hsz wr hC
  obtain ⟨a1, b1, s1, h1⟩ : ∃ a1 b1 s1, order2 ltInt d a b s = (a1, b1, s1) := ⟨_, _, _, rfl⟩
  rw [h1] at R1 C1
  simp only at R1 C1
  have R2 := order2_range ltInt d b1 c s1
  have C2 := fun wx hx => order2_calls w blk off cap b1 c s1 d hH hblk (by omega) hc (by omega) hsz wx hx
  obtain ⟨b2, c2, s2, h2⟩ : ∃ b2 c2 s2, order2 ltInt d b1 c s1 = (b2, c2, s2) := ⟨_, _, _, rfl⟩
  rw [h2] at R2
  simp only at R2
  simp only [h2] at C2
  have R3 := order2_range ltInt d a1 b2 s2
  have C3 := fun wx hx => order2_calls w blk off cap a1 b2 s2 d hH hblk (by omega) (by omega) (by omega) hsz wx hx
  obtain ⟨a3, b3, s3, h3⟩ : ∃ a3 b3 s3, order2 ltInt d a1 b2 s2 = (a3, b3, s3) := ⟨_, _, _, rfl⟩
  simp only [h3] at C3
  have E : median ltInt d a b c s = (b3, s3) := by
    unfold median
    simp only [h1, h2, h3]
  rw [E]
  clear E h1 h2 h3 R1 R2 R3
  go_enter Try.func44, Try.ntmps44
  go_wp2_with (first | (go_at_call 47; first | (refine C1.mono ?_; rintro e w1 ⟨rfl, hw1⟩; clear C1; have C2 := C2 w1 hw1) | (refine C2.mono ?_; rintro e w2 ⟨rfl, hw2⟩; clear C2; have C3 := C3 w2 hw2) | (refine C3.mono ?_; rintro e w3 ⟨rfl, hw3⟩; clear C3)))
  go_ret
  exact ⟨rfl, hw3⟩

theorem median_range {α : Type} [Inhabited α] (lt : α → α → Bool) (d : Array α) (a b c s : Nat) :
    ((median lt d a b c s).1 = a ∨ (median lt d a b c s).1 = b ∨ (median lt d a b c s).1 = c) ∧ (median lt d a b c s).2 ≤ s + 3 := by
  unfold median
  have R1 := order2_range lt d a b s
  have R2 := order2_range lt d (order2 lt d a b s).2.1 c (order2 lt d a b s).2.2
  have R3 := order2_range lt d (order2 lt d a b s).1 (order2 lt d (order2 lt d a b s).2.1 c (order2 lt d a b s).2.2).1 (order2 lt d (order2 lt d a b s).2.1 c (order2 lt d a b s).2.2).2.2
  simp only
  omega

set_option maxRecDepth 1000000 in
theorem adjacent_calls (w : World) (blk off cap a s : Nat) (d : Array Int) (hH : Holds encU w blk off d) (hblk : blk < w.heap.size) (ha : 0 < a) (hb : a + 1 < d.size) (hs : s < 4611686018427387900) (hsz : d.size < 4611686018427387904) (wr : World) (hC : Cnt w s wr) :
    Calls Try.prog 43 #[.slice (some ⟨blk, off, none⟩) d.size cap, .int .i64 a, .pointer (some ⟨w.heap.size, 0, none⟩)] wr fun e w' =>
      e = .returned (.int .i64 (medianAdjacent ltInt d a s).1) ∧ Cnt w (medianAdjacent ltInt d a s).2 w' := by
  have C1 := median_calls w blk off cap (a - 1) a (a + 1) s d hH hblk (by omega) (by omega) hb hs hsz wr hC
  rw [show ((a - 1 : Nat) : Int) = (a : Int) - 1 by omega, show ((a + 1 : Nat) : Int) = (a : Int) + 1 by omega] at C1
  have E : medianAdjacent ltInt d a s = median ltInt d (a - 1) a (a + 1) s := rfl
  rw [E]
  clear E
  go_enter Try.func43, Try.ntmps43
  go_wp2_with (go_at_call 44; refine C1.mono ?_; rintro e w1 ⟨rfl, hw1⟩; clear C1)
  go_ret
  exact ⟨rfl, hw1⟩

/-- The pivot and the count of swaps. -/
def pvPair {α : Type} [Inhabited α] (lt : α → α → Bool) (d : Array α) (l i j k : Nat) : Nat × Nat :=
  if l ≥ 8 then
    if l ≥ 50 then
      median lt d (medianAdjacent lt d i 0).1 (medianAdjacent lt d j (medianAdjacent lt d i 0).2).1 (medianAdjacent lt d k (medianAdjacent lt d j (medianAdjacent lt d i 0).2).2).1 (medianAdjacent lt d k (medianAdjacent lt d j (medianAdjacent lt d i 0).2).2).2
    else median lt d i j k 0
  else (j, 0)
theorem choosePivot_eq {α : Type} [Inhabited α] (lt : α → α → Bool) (d : Array α) (a b : Nat) :
    choosePivot lt d a b = ((pvPair lt d (b - a) (a + (b - a) / 4 * 1) (a + (b - a) / 4 * 2) (a + (b - a) / 4 * 3)).1, if (pvPair lt d (b - a) (a + (b - a) / 4 * 1) (a + (b - a) / 4 * 2) (a + (b - a) / 4 * 3)).2 = 0 then .increasing else if (pvPair lt d (b - a) (a + (b - a) / 4 * 1) (a + (b - a) / 4 * 2) (a + (b - a) / 4 * 3)).2 = 12 then .decreasing else .unknown) := rfl

/-- A hint's number. -/
def hcode : Hint → Int
  | .unknown => 0
  | .increasing => 1
  | .decreasing => 2

set_option maxRecDepth 1000000 in
set_option maxHeartbeats 3200000 in
theorem choosePivot_calls (blk off cap a b : Nat) (d : Array Int) (w : World) (hH : Holds encU w blk off d) (hblk : blk < w.heap.size) (hab : a < b) (hb : b ≤ d.size) (hsz : d.size < 4611686018427387904) :
    Calls Try.prog 30 #[.slice (some ⟨blk, off, none⟩) d.size cap, .int .i64 a, .int .i64 b] w fun e w' =>
      e = .returned (.tuple #[.int .i64 (choosePivot ltInt d a b).1, .int .i64 (hcode (choosePivot ltInt d a b).2)]) ∧ At encU w blk off d w' := by
  rw [choosePivot_eq]
  obtain ⟨i, hi⟩ : ∃ i, a + (b - a) / 4 * 1 = i := ⟨_, rfl⟩
  obtain ⟨j, hj⟩ : ∃ j, a + (b - a) / 4 * 2 = j := ⟨_, rfl⟩
  obtain ⟨k, hk⟩ : ∃ k, a + (b - a) / 4 * 3 = k := ⟨_, rfl⟩
  have hiz : (a : Int) + ((b : Int) - (a : Int)) / 4 = (i : Int) := by omega
  have hjz : (a : Int) + ((b : Int) - (a : Int)) / 4 * 2 = (j : Int) := by omega
  have hkz : (a : Int) + ((b : Int) - (a : Int)) / 4 * 3 = (k : Int) := by omega
  rw [hi, hj, hk]
  have hij : i < b ∧ j < b ∧ k < b := by omega
  have h8f : 8 ≤ b - a → 0 < i ∧ 0 < j ∧ 0 < k ∧ k + 1 < b ∧ i + 1 < b ∧ j + 1 < b := by omega
  clear hi hj hk
  obtain ⟨pv, hpv⟩ : ∃ pv, pvPair ltInt d (b - a) i j k = pv := ⟨_, rfl⟩
  rw [hpv]
  obtain ⟨p, s⟩ := pv
  have HP : Hid (pvPair ltInt d (b - a) i j k = (p, s)) := hpv
  clear hpv
  go_enter Try.func30, Try.ntmps30
  go_upto_if 32 with fail
  clear hiz hjz hkz
  have hC0 : Cnt w 0 (w.alloc (Obj.cells #[Value.int IntKind.i64 0] 3)) := ⟨0, alloc_eq_grow _ _⟩
  go_cut [11] from 13 (fun s11 wx => s11 = .int .i64 p ∧ Cnt w s wx)
  case first =>
    by_cases h8 : 8 ≤ b - a
    · have h8z : 8 ≤ (b : Int) - (a : Int) := by omega
      have H8 := h8f h8
      by_cases h50 : 50 ≤ b - a
      · have h50z : 50 ≤ (b : Int) - (a : Int) := by omega
        have HP2 := HP.out
        unfold pvPair at HP2
        rw [if_pos h8, if_pos h50] at HP2
        have C1 := adjacent_calls w blk off cap i 0 d hH hblk H8.1 (by omega) (by omega) hsz _ hC0
        have R1 := median_range ltInt d (i - 1) i (i + 1) 0
        obtain ⟨i1, s1, h1⟩ : ∃ i1 s1, medianAdjacent ltInt d i 0 = (i1, s1) := ⟨_, _, rfl⟩
        rw [show median ltInt d (i - 1) i (i + 1) 0 = (i1, s1) from h1] at R1
        simp only [h1] at C1 R1 HP2
        have C2 := fun wx hx => adjacent_calls w blk off cap j s1 d hH hblk H8.2.1 (by omega) (by omega) hsz wx hx
        have R2 := median_range ltInt d (j - 1) j (j + 1) s1
        obtain ⟨j1, s2, h2⟩ : ∃ j1 s2, medianAdjacent ltInt d j s1 = (j1, s2) := ⟨_, _, rfl⟩
        rw [show median ltInt d (j - 1) j (j + 1) s1 = (j1, s2) from h2] at R2
        simp only [h2] at C2 R2 HP2
        have C3 := fun wx hx => adjacent_calls w blk off cap k s2 d hH hblk H8.2.2.1 (by omega) (by omega) hsz wx hx
        have R3 := median_range ltInt d (k - 1) k (k + 1) s2
        obtain ⟨k1, s3, h3⟩ : ∃ k1 s3, medianAdjacent ltInt d k s2 = (k1, s3) := ⟨_, _, rfl⟩
        rw [show median ltInt d (k - 1) k (k + 1) s2 = (k1, s3) from h3] at R3
        simp only [h3] at C3 R3 HP2
        have C4 := fun wx hx => median_calls w blk off cap i1 j1 k1 s3 d hH hblk (by omega) (by omega) (by omega) (by omega) hsz wx hx
        simp only [HP2] at C4
        clear HP2 h1 h2 h3 R1 R2 R3 hC0
        go_wp2_with (first
          | (go_at_call 43; first
            | (refine C1.mono ?_; rintro e w1 ⟨rfl, hw1⟩; clear C1; have C2 := C2 w1 hw1)
            | (refine C2.mono ?_; rintro e w2 ⟨rfl, hw2⟩; clear C2; have C3 := C3 w2 hw2)
            | (refine C3.mono ?_; rintro e w3 ⟨rfl, hw3⟩; clear C3; have C4 := C4 w3 hw3))
          | (go_at_call 44; refine C4.mono ?_; rintro e w4 ⟨rfl, hw4⟩; clear C4))
        go_meet
        case rel => exact ⟨rfl, hw4⟩
      · have h50z : ¬ (50 ≤ (b : Int) - (a : Int)) := by omega
        have HP2 := HP.out
        unfold pvPair at HP2
        rw [if_pos h8, if_neg h50] at HP2
        have C1 := median_calls w blk off cap i j k 0 d hH hblk (by omega) (by omega) (by omega) (by omega) hsz _ hC0
        rw [HP2] at C1
        clear HP2
        go_wp2_with (go_at_call 44; refine C1.mono ?_; rintro e w1 ⟨rfl, hw1⟩; clear C1)
        go_meet
        case rel => exact ⟨rfl, hw1⟩
    · have h8z : ¬ (8 ≤ (b : Int) - (a : Int)) := by omega
      have HP2 := HP.out
      unfold pvPair at HP2
      rw [if_neg h8] at HP2
      have E : Hid (j = p ∧ 0 = s) := hid ⟨congrArg Prod.fst HP2, congrArg Prod.snd HP2⟩
      clear HP2
      go_wp2_with fail
      go_meet
      case rel => exact ⟨by rw [← E.out.1], by rw [← E.out.2]; exact hC0⟩
  case rest =>
    obtain ⟨rfl, hC⟩ := hcut
    clear hC0
    obtain ⟨G, hG, hcw, hcc, hcf⟩ := cnt_facts hC hH hblk
    clear hG
    have hA : At encU w blk off d wc := by
      obtain ⟨n, rfl⟩ := hC
      exact (At.refl hH).same hH rfl hblk ⟨n, _, rfl⟩
    by_cases h0 : s = 0
    · subst h0
      go_wp2_with fail
      go_ret2
      exact ⟨rfl, hA⟩
    · have h0z : ¬ ((s : Int) = 0) := by omega
      by_cases h12 : s = 12
      · subst h12
        go_wp2_with fail
        go_ret2
        exact ⟨rfl, hA⟩
      · have h12z : ¬ ((s : Int) = 12) := by omega
        go_wp2_with fail
        go_ret2
        exact ⟨rfl, hA⟩
#print axioms choosePivot_calls
end Go.Proofs.Ytjgcdjfeglhalaa.Srt
