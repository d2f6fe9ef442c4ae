/- Plain facts: what 'Of' reads out of the bytes that 'Make' wrote. -/
import Derived.Test.YtcjcgehhmjnlcaaGreatDoorMf
set_option linter.unusedVariables false
set_option linter.unusedSimpArgs false
namespace Go.Proofs.YtcjcgehhmjnlcaaGreatDoor
open Go.RowKit Go.Shelf Go.Proofs.YtcjcgehhmjnlcaaGreatDoor.It Go.Proofs.YtcjcgehhmjnlcaaGreatDoorW.PrintWords
theorem getD_app_l {l m : List Int} {i : Nat} (h : i < l.length) : (l ++ m).getD i 0 = l.getD i 0 := by
  simp [List.getD_eq_getElem?_getD, List.getElem?_append_left h]
theorem getD_app_r {l m : List Int} {i : Nat} : (l ++ m).getD (l.length + i) 0 = m.getD i 0 := by
  simp [List.getD_eq_getElem?_getD, List.getElem?_append_right]
theorem peek_2 {D : List Int} {i : Nat} {a b : Int} (hi : i + 2 ≤ D.length) (h0 : D.getD i 0 = a) (h1 : D.getD (i + 1) 0 = b) : peekV 2 D i = a * 256 + b := by
  unfold peekV
  rw [if_pos (by omega)]
  simp only [numAt, Nat.add_zero, h0, h1]
  omega
theorem peek_4 {D : List Int} {i : Nat} {a b c d : Int} (hi : i + 4 ≤ D.length) (h0 : D.getD i 0 = a) (h1 : D.getD (i + 1) 0 = b) (h2 : D.getD (i + 2) 0 = c) (h3 : D.getD (i + 3) 0 = d) : peekV 4 D i = a * 16777216 + b * 65536 + c * 256 + d := by
  unfold peekV
  rw [if_pos (by omega)]
  simp only [numAt, Nat.add_zero, h0, h1, h2, h3]
  omega
theorem mkD_head (inter : Bool) (x : Int) (l : List Sk) (h0 : 0 ≤ x) (h1 : x ≤ 4294967295) : peekV 4 (mkD inter x l) 0 = x := by
  rw [peek_4 (a := x / 16777216 % 256) (b := x / 65536 % 256) (c := x / 256 % 256) (d := x % 256) (by rw [mkD_len]; omega) (by simp [mkD, b4]) (by simp [mkD, b4]) (by simp [mkD, b4]) (by simp [mkD, b4])]
  omega
theorem flat_at4 (l : List Sk) (j i : Nat) (hj : j < l.length) (hi : i < 4) : (l.flatMap (skB false)).getD (4 * j + i) 0 = (skB false (l.getD j skZ)).getD i 0 := by
  induction l generalizing j with
  | nil => simp at hj
  | cons s l ih =>
    rw [List.flatMap_cons]
    have hs : (skB false s).length = 4 := skB_len false s
    rcases j with _ | j
    · rw [Nat.mul_zero, Nat.zero_add, getD_app_l (by omega)]
      rfl
    · rw [show 4 * (j + 1) + i = (skB false s).length + (4 * j + i) by omega, getD_app_r, ih j (by simpa using hj)]
      simp
theorem mkD_at4 (x : Int) (l : List Sk) (j i : Nat) (hj : j < l.length) (hi : i < 4) : (mkD false x l).getD (4 + 4 * j + i) 0 = (skB false (l.getD j skZ)).getD i 0 := by
  unfold mkD
  rw [show 4 + 4 * j + i = (b4 x).length + (4 * j + i) by simp [b4]; omega, getD_app_r, flat_at4 l j i hj hi]
theorem mkD_at8 (x : Int) (l : List Sk) (j i : Nat) (hj : j < l.length) (hi : i < 8) : (mkD true x l).getD (4 + 8 * j + i) 0 = (skB true (l.getD j skZ)).getD i 0 := by
  unfold mkD
  rw [show 4 + 8 * j + i = (b4 x).length + (8 * j + i) by simp [b4]; omega, getD_app_r, flat_at l j i hj hi]
theorem ofSk_mk (inter : Bool) (x : Int) (l : List Sk) (j : Nat) (hj : j < l.length) (hok : (l.getD j skZ).ok) (hgd : skBad inter (l.getD j skZ) = false) : ofSk inter (mkD inter x l) j = l.getD j skZ := by
  obtain ⟨s, hs⟩ : ∃ s, s = l.getD j skZ := ⟨_, rfl⟩
  rw [← hs] at hok hgd ⊢
  obtain ⟨h0, h1, h2, h3⟩ := hok
  have hlen := mkD_len inter x l
  cases inter
  · simp only [skBad, Bool.not_false, Bool.true_and, Bool.or_eq_false_iff, decide_eq_false_iff_not] at hgd
    simp only [Bool.false_eq_true, if_false] at hlen
    have e0 := mkD_at4 x l j 0 hj (by omega)
    have e1 := mkD_at4 x l j 1 hj (by omega)
    have e2 := mkD_at4 x l j 2 hj (by omega)
    have e3 := mkD_at4 x l j 3 hj (by omega)
    rw [← hs] at e0 e1 e2 e3
    simp [skB, b2] at e0 e1 e2 e3
    unfold ofSk
    rw [if_neg (by decide), peek_2 (by omega) e0 e1, show 6 + 4 * j = 4 + 4 * j + 2 by omega, peek_2 (by omega) e2 e3]
    obtain ⟨st, un, sq⟩ := s
    simp only at h0 h1 h2 h3 hgd ⊢
    simp only [Sk.mk.injEq]
    exact ⟨by omega, hgd.1.symm, by omega⟩
  · simp only [if_true] at hlen
    have e0 := mkD_at8 x l j 0 hj (by omega)
    have e1 := mkD_at8 x l j 1 hj (by omega)
    have e2 := mkD_at8 x l j 2 hj (by omega)
    have e3 := mkD_at8 x l j 3 hj (by omega)
    have e4 := mkD_at8 x l j 4 hj (by omega)
    have e5 := mkD_at8 x l j 5 hj (by omega)
    have e6 := mkD_at8 x l j 6 hj (by omega)
    have e7 := mkD_at8 x l j 7 hj (by omega)
    rw [← hs] at e0 e1 e2 e3 e4 e5 e6 e7
    simp [skB, b2, b4] at e0 e1 e2 e3 e4 e5 e6 e7
    unfold ofSk
    rw [if_pos rfl, peek_2 (by omega) e0 e1, show 6 + 8 * j = 4 + 8 * j + 2 by omega, peek_2 (by omega) e2 e3, show 8 + 8 * j = 4 + 8 * j + 4 by omega, peek_4 (by omega) e4 e5 e6 e7]
    obtain ⟨st, un, sq⟩ := s
    simp only at h0 h1 h2 h3 hgd ⊢
    simp only [Sk.mk.injEq]
    refine ⟨by omega, ?_, by omega⟩
    cases un <;> simp [ofB]
theorem ofN_mk (inter : Bool) (x : Int) (l : List Sk) : ofN inter (mkD inter x l) = l.length := by
  unfold ofN
  rw [mkD_len]
  cases inter <;> simp <;> omega
theorem ofL_mk (inter : Bool) (x : Int) (l : List Sk) (hok : ∀ s ∈ l, s.ok) (hgd : l.any (skBad inter) = false) : ofL inter (mkD inter x l) l.length = l := by
  apply List.ext_getElem?
  intro j
  unfold ofL
  rw [List.getElem?_map]
  rcases Nat.lt_or_ge j l.length with h | h
  · rw [List.getElem?_range h, List.getElem?_eq_getElem h]
    have e : l.getD j skZ = l[j] := by rw [List.getD_eq_getElem?_getD, List.getElem?_eq_getElem h]; rfl
    have hm := List.getElem_mem h
    rw [Option.map_some, ofSk_mk inter x l j h (by rw [e]; exact hok _ hm) (by rw [e]; simpa using List.any_eq_false.1 hgd _ hm), e]
  · rw [List.getElem?_eq_none (by simpa using h), List.getElem?_eq_none h]
    rfl
end Go.Proofs.YtcjcgehhmjnlcaaGreatDoor
