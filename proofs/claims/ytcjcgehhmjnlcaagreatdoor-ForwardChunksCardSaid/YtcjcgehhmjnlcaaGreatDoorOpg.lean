/- Plain facts: the bytes written anew out of what 'Of' reads. -/
import Derived.Test.YtcjcgehhmjnlcaaGreatDoorOpf
set_option linter.unusedVariables false
set_option linter.unusedSimpArgs false
namespace Go.Proofs.YtcjcgehhmjnlcaaGreatDoor
open Go.RowKit Go.Shelf Go.Proofs.YtcjcgehhmjnlcaaGreatDoor.It Go.Proofs.YtcjcgehhmjnlcaaGreatDoorW.PrintWords
theorem byt_at {D : List Int} (h : Byt D) (i : Nat) (hi : i < D.length) : 0 ≤ D.getD i 0 ∧ D.getD i 0 ≤ 255 := by
  rw [List.getD_eq_getElem?_getD, List.getElem?_eq_getElem hi]
  exact h _ (List.getElem_mem hi)
theorem ext_getD {l m : List Int} (hl : l.length = m.length) (h : ∀ i, i < l.length → l.getD i 0 = m.getD i 0) : l = m := by
  apply List.ext_getElem hl
  intro i h1 h2
  have := h i h1
  rw [List.getD_eq_getElem?_getD, List.getD_eq_getElem?_getD, List.getElem?_eq_getElem h1, List.getElem?_eq_getElem h2] at this
  exact this
theorem b2_peek {D : List Int} (hB : Byt D) {i : Nat} (hi : i + 2 ≤ D.length) : b2 (peekV 2 D i) = [D.getD i 0, D.getD (i + 1) 0] := by
  have h0 := byt_at hB i (by omega)
  have h1 := byt_at hB (i + 1) (by omega)
  rw [peek_2 hi rfl rfl]
  unfold b2
  simp only [List.cons.injEq, and_true]
  omega
theorem b4_peek {D : List Int} (hB : Byt D) {i : Nat} (hi : i + 4 ≤ D.length) : b4 (peekV 4 D i) = [D.getD i 0, D.getD (i + 1) 0, D.getD (i + 2) 0, D.getD (i + 3) 0] := by
  have h0 := byt_at hB i (by omega)
  have h1 := byt_at hB (i + 1) (by omega)
  have h2 := byt_at hB (i + 2) (by omega)
  have h3 := byt_at hB (i + 3) (by omega)
  rw [peek_4 hi rfl rfl rfl rfl]
  unfold b4
  simp only [List.cons.injEq, and_true]
  omega
theorem ofL_at (inter : Bool) (D : List Int) (q j : Nat) (h : j < q) : (ofL inter D q).getD j skZ = ofSk inter D j := by
  unfold ofL
  rw [List.getD_eq_getElem?_getD, List.getElem?_map, List.getElem?_range h]
  rfl
theorem ofSk_ok {inter : Bool} {D : List Int} (hB : Byt D) (j : Nat) : (ofSk inter D j).ok := by
  have h2 := fun i => peek_bd hB 2 i
  have h4 : ∀ i, 0 ≤ peekV 4 D i ∧ peekV 4 D i ≤ 4294967295 := fun i => by
    refine ⟨(peek_bd hB 4 i).1, ?_⟩
    by_cases hi : i + 4 ≤ D.length
    · have e0 := byt_at hB i (by omega)
      have e1 := byt_at hB (i + 1) (by omega)
      have e2 := byt_at hB (i + 2) (by omega)
      have e3 := byt_at hB (i + 3) (by omega)
      rw [peek_4 hi rfl rfl rfl rfl]
      omega
    · unfold peekV
      by_cases hk : 4 ≤ D.length - i
      · omega
      · rw [if_neg hk]; omega
  unfold ofSk Sk.ok
  cases inter
  · have a := h2 (4 + 4 * j)
    have b := h2 (6 + 4 * j)
    simp only [Bool.false_eq_true, if_false]
    exact ⟨a.1, a.2 rfl, b.1, by have := b.2 rfl; omega⟩
  · have a := h2 (4 + 8 * j)
    have b := h4 (8 + 8 * j)
    simp only [if_true]
    exact ⟨a.1, a.2 rfl, b.1, b.2⟩
theorem ofL_ok {inter : Bool} {D : List Int} (hB : Byt D) (q : Nat) : ∀ s ∈ ofL inter D q, s.ok := by
  intro s hs
  unfold ofL at hs
  obtain ⟨j, _, rfl⟩ := List.mem_map.1 hs
  exact ofSk_ok hB j
theorem ofL_good {inter : Bool} {D : List Int} (hB : Byt D) (q : Nat) : (ofL inter D q).any (skBad inter) = false := by
  rw [List.any_eq_false]
  intro s hs
  unfold ofL at hs
  obtain ⟨j, _, rfl⟩ := List.mem_map.1 hs
  cases inter
  · have b := (peek_bd hB 2 (6 + 4 * j)).2 rfl
    simp [skBad, ofSk]
    omega
  · simp [skBad]
theorem ofN_q (inter : Bool) {D : List Int} {q : Nat} (h : D.length = 4 + (if inter = true then 8 else 4) * q) : ofN inter D = q := by
  unfold ofN
  cases inter <;> simp at h ⊢ <;> omega
theorem mk_of (inter : Bool) (D : List Int) (q : Nat) (hB : Byt D) (h : D.length = 4 + (if inter = true then 8 else 4) * q) (hg : inter = true → ∀ j, j < q → ¬ 1 < peekV 2 D (6 + 8 * j)) :
    mkD inter (peekV 4 D 0) (ofL inter D q) = D := by
  have hlen := mkD_len inter (peekV 4 D 0) (ofL inter D q)
  rw [ofL_len] at hlen
  refine ext_getD (by rw [hlen, h]) (fun i hi => ?_)
  rcases Nat.lt_or_ge i 4 with h4 | h4
  · unfold mkD
    rw [getD_app_l (by simp [b4]; omega), b4_peek hB (by omega)]
    have : i = 0 ∨ i = 1 ∨ i = 2 ∨ i = 3 := by omega
    rcases this with rfl | rfl | rfl | rfl <;> rfl
  · cases inter
    · simp only [Bool.false_eq_true, if_false] at h hlen
      obtain ⟨j, t, hj, ht, rfl⟩ : ∃ j t, j < q ∧ t < 4 ∧ i = 4 + 4 * j + t := ⟨(i - 4) / 4, (i - 4) % 4, by omega, by omega, by omega⟩
      rw [mkD_at4 _ _ j t (by rw [ofL_len]; exact hj) ht, ofL_at false D q j hj]
      unfold skB ofSk
      simp only [Bool.false_eq_true, if_false]
      rw [b2_peek hB (by omega), b2_peek hB (by omega)]
      have : t = 0 ∨ t = 1 ∨ t = 2 ∨ t = 3 := by omega
      rcases this with rfl | rfl | rfl | rfl
      · rfl
      · rfl
      · show D.getD (6 + 4 * j) 0 = _
        rw [show 4 + 4 * j + 2 = 6 + 4 * j by omega]
      · show D.getD (6 + 4 * j + 1) 0 = _
        rw [show 4 + 4 * j + 3 = 6 + 4 * j + 1 by omega]
    · simp only [if_true] at h hlen
      obtain ⟨j, t, hj, ht, rfl⟩ : ∃ j t, j < q ∧ t < 8 ∧ i = 4 + 8 * j + t := ⟨(i - 4) / 8, (i - 4) % 8, by omega, by omega, by omega⟩
      rw [mkD_at8 _ _ j t (by rw [ofL_len]; exact hj) ht, ofL_at true D q j hj]
      have hu : b2 (ofB (peekV 2 D (6 + 8 * j) == 1)) = b2 (peekV 2 D (6 + 8 * j)) := by
        have h1 := hg rfl j hj
        have h2 := (peek_bd hB 2 (6 + 8 * j)).1
        have : peekV 2 D (6 + 8 * j) = 0 ∨ peekV 2 D (6 + 8 * j) = 1 := by omega
        rcases this with e | e <;> rw [e] <;> rfl
      unfold skB ofSk
      simp only [if_true]
      rw [hu, b2_peek hB (by omega), b2_peek hB (by omega), b4_peek hB (by omega)]
      have : t = 0 ∨ t = 1 ∨ t = 2 ∨ t = 3 ∨ t = 4 ∨ t = 5 ∨ t = 6 ∨ t = 7 := by omega
      rcases this with rfl | rfl | rfl | rfl | rfl | rfl | rfl | rfl
      · rfl
      · rfl
      · show D.getD (6 + 8 * j) 0 = _
        rw [show 4 + 8 * j + 2 = 6 + 8 * j by omega]
      · show D.getD (6 + 8 * j + 1) 0 = _
        rw [show 4 + 8 * j + 3 = 6 + 8 * j + 1 by omega]
      · show D.getD (8 + 8 * j) 0 = _
        rw [show 4 + 8 * j + 4 = 8 + 8 * j by omega]
      · show D.getD (8 + 8 * j + 1) 0 = _
        rw [show 4 + 8 * j + 5 = 8 + 8 * j + 1 by omega]
      · show D.getD (8 + 8 * j + 2) 0 = _
        rw [show 4 + 8 * j + 6 = 8 + 8 * j + 2 by omega]
      · show D.getD (8 + 8 * j + 3) 0 = _
        rw [show 4 + 8 * j + 7 = 8 + 8 * j + 3 by omega]
end Go.Proofs.YtcjcgehhmjnlcaaGreatDoor
