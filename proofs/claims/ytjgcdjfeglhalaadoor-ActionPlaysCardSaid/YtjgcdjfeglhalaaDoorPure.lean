/- The plain law of playing a list of actions: what the printed functions answer. -/
import Derived.Test.YtjgcdjfeglhalaaDoorPlay
namespace Go.Proofs.YtjgcdjfeglhalaaDoor
open Go.RowKit Go.Proofs.YtjgcdjfeglhalaaDoorW.PrintWords

/-- A list of actions, played from the index i on: what is processed, what is reported, whether it was stopped. -/
def playS : List Int → Int → List Int × List Int × Bool
  | [], _ => ([], [], false)
  | a :: l, i =>
    let r := playS l (i + 1)
    if a = 4 then (i :: r.1, r.2.1, r.2.2) else if a = 3 then (r.1, i :: r.2.1, r.2.2) else if a = 1 then ([], [i], true) else if a = 0 then ([], [], true) else r
def stopS : List Int → Int → Int
  | [], i => i
  | a :: l, i => if a = 0 ∨ a = 1 then i else stopS l (i + 1)
theorem stopS_cons (a : Int) (l : List Int) (i : Int) : stopS (a :: l) i = if a = 0 ∨ a = 1 then i else stopS l (i + 1) := rfl
theorem stopS_ge : ∀ (l : List Int) (i : Int), i ≤ stopS l i
  | [], i => Int.le_refl _
  | a :: l, i => by
    unfold stopS
    split
    · exact Int.le_refl _
    · have := stopS_ge l (i + 1); omega
theorem stopS_le : ∀ (l : List Int) (i : Int), stopS l i ≤ i + l.length
  | [], i => by simp [stopS]
  | a :: l, i => by
    unfold stopS
    split
    · simp; omega
    · have := stopS_le l (i + 1); simp; omega
theorem drop_cons {l : List Int} {i : Nat} (h : i < l.length) : l.drop i = l[i] :: l.drop (i + 1) := List.drop_eq_getElem_cons h
theorem rd_at {l : List Int} {i : Nat} (h : i < l.length) : rd l (i : Int) = l[i] := by simp [rd, h]
theorem wrap_next {i : Nat} {n : Nat} (h : i < n) (hn : n ≤ 9223372036854775807) : wrap64 ((i : Int) + 1) = ((i + 1 : Nat) : Int) := by unfold wrap64; omega
abbrev cap44 : Nat := 17592186044416

theorem play_loop (l : List Int) (hl : l.length ≤ 1000) : ∀ (d k i : Nat) (x2 x3 : List Int), l.length - i = d → i ≤ l.length → d < k → x2.length ≤ i → x3.length ≤ i →
    Pl.action_Play.l0 k x2 x3 l (l.length : Int) i = some (x2 ++ (playS (l.drop i) i).1, x3 ++ (playS (l.drop i) i).2.1, (playS (l.drop i) i).2.2) := by
  intro d
  induction d with
  | zero =>
    intro k i x2 x3 hd hi hk _ _
    obtain ⟨k, rfl⟩ : ∃ m, k = m + 1 := ⟨k - 1, by omega⟩
    have : l.drop i = [] := List.drop_eq_nil_of_le (by omega)
    rw [this]
    simp only [Pl.action_Play.l0]
    rw [if_neg (by omega)]
    simp [playS]
  | succ d ih =>
    intro k i x2 x3 hd hi hk h2 h3
    obtain ⟨k, rfl⟩ : ∃ m, k = m + 1 := ⟨k - 1, by omega⟩
    have hlt : i < l.length := by omega
    have hw := wrap_next (n := l.length) hlt (by omega)
    rw [drop_cons hlt]
    simp only [Pl.action_Play.l0]
    rw [if_pos (by omega), if_pos (by omega), if_pos (by omega), rd_at hlt, hw]
    unfold playS
    by_cases c4 : l[i] = 4
    · rw [if_pos c4, if_pos (by omega), ih k (i + 1) _ x3 (by omega) (by omega) (by omega) (by simp; omega) (by omega), if_pos c4]
      simp
    · rw [if_neg c4, if_neg c4]
      by_cases c3 : l[i] = 3
      · rw [if_pos c3, if_pos (by omega), ih k (i + 1) x2 _ (by omega) (by omega) (by omega) (by omega) (by simp; omega), if_pos c3]
        simp
      · rw [if_neg c3, if_neg c3]
        by_cases c1 : l[i] = 1
        · rw [if_pos c1, if_pos (by omega), if_pos c1]
          simp
        · rw [if_neg c1, if_neg c1]
          by_cases c0 : l[i] = 0
          · rw [if_pos c0, if_pos c0]
            simp
          · rw [if_neg c0, if_neg c0, ih k (i + 1) x2 x3 (by omega) (by omega) (by omega) (by omega) (by omega)]
            simp
theorem play_f (l : List Int) (hl : l.length ≤ 1000) (k : Nat) (hk : l.length < k) : Pl.action_Play.f k l = some (playS l 0) := by
  have := play_loop l hl l.length k 0 [] [] (by omega) (by omega) hk (by simp) (by simp)
  simpa [Pl.action_Play.f] using this
theorem stop_loop (l : List Int) (hl : l.length ≤ 200) : ∀ (d k i : Nat), l.length - i = d → i ≤ l.length → d < k → Pl.wharfref23_Stop.l0 k l i = some (stopS (l.drop i) i) := by
  intro d
  induction d with
  | zero =>
    intro k i hd hi hk
    obtain ⟨k, rfl⟩ : ∃ m, k = m + 1 := ⟨k - 1, by omega⟩
    have : l.drop i = [] := List.drop_eq_nil_of_le (by omega)
    rw [this]
    simp only [Pl.wharfref23_Stop.l0]
    rw [if_neg (by omega)]
    simp [stopS]; omega
  | succ d ih =>
    intro k i hd hi hk
    obtain ⟨k, rfl⟩ : ∃ m, k = m + 1 := ⟨k - 1, by omega⟩
    have hlt : i < l.length := by omega
    have hw := wrap_next (n := l.length) hlt (by omega)
    rw [drop_cons hlt]
    simp only [Pl.wharfref23_Stop.l0]
    rw [if_pos (by omega), if_pos (by omega), rd_at hlt, hw]
    unfold stopS
    by_cases c0 : l[i] = 0
    · rw [if_pos c0, if_pos (.inl c0)]
    · rw [if_neg c0]
      by_cases c1 : l[i] = 1
      · rw [if_pos c1, if_pos (.inr c1)]
      · rw [if_neg c1, if_neg (by simp [c0, c1]), ih k (i + 1) (by omega) (by omega) (by omega)]
        simp
theorem stop_f (l : List Int) (hl : l.length ≤ 200) (k : Nat) (hk : l.length < k) : Pl.wharfref23_Stop.f k l = some (stopS l 0) := by
  have := stop_loop l hl l.length k 0 (by omega) (by omega) hk
  simpa [Pl.wharfref23_Stop.f] using this
theorem proc_loop (l : List Int) (hl : l.length ≤ 200) : ∀ (d k i : Nat) (x3 : List Int), l.length - i = d → i ≤ l.length → d + l.length + 1 < k → x3.length ≤ i → stopS (l.drop i) i = stopS l 0 →
    Pl.wharfref23_Processed.l0 k l x3 i = some (x3 ++ (playS (l.drop i) i).1) := by
  intro d
  induction d with
  | zero =>
    intro k i x3 hd hi hk _ ht
    obtain ⟨k, rfl⟩ : ∃ m, k = m + 1 := ⟨k - 1, by omega⟩
    have he : l.drop i = [] := List.drop_eq_nil_of_le (by omega)
    rw [he] at ht ⊢
    simp only [Pl.wharfref23_Processed.l0]
    rw [stop_f l hl k (by omega)]
    simp only [Option.bind_some]
    rw [if_neg (by rw [← ht]; simp [stopS])]
    simp [playS]
  | succ d ih =>
    intro k i x3 hd hi hk h3 ht
    obtain ⟨k, rfl⟩ : ∃ m, k = m + 1 := ⟨k - 1, by omega⟩
    have hlt : i < l.length := by omega
    have hw := wrap_next (n := l.length) hlt (by omega)
    rw [drop_cons hlt] at ht ⊢
    simp only [Pl.wharfref23_Processed.l0]
    rw [stop_f l hl k (by omega)]
    simp only [Option.bind_some]
    unfold playS
    rw [stopS_cons] at ht
    by_cases c : l[i] = 0 ∨ l[i] = 1
    · rw [if_pos c] at ht
      rw [if_neg (by omega)]
      rcases c with c | c <;> simp [c]
    · rw [if_neg c] at ht
      have hge := stopS_ge (l.drop (i + 1)) ((i : Int) + 1)
      have ht' : stopS (l.drop (i + 1)) ((i + 1 : Nat) : Int) = stopS l 0 := by simpa using ht
      rw [if_pos (by omega), if_pos (by omega), if_pos (by omega), rd_at hlt, hw]
      by_cases c4 : l[i] = 4
      · rw [if_pos c4, if_pos c4, if_pos (by omega), ih k (i + 1) _ (by omega) (by omega) (by omega) (by simp; omega) ht']
        simp
      · rw [if_neg c4, if_neg c4, ih k (i + 1) _ (by omega) (by omega) (by omega) (by omega) ht']
        by_cases c3 : l[i] = 3
        · rw [if_pos c3]; simp
        · rw [if_neg c3, if_neg (fun e => c (.inr e)), if_neg (fun e => c (.inl e))]; simp
theorem proc_f (l : List Int) (hl : l.length ≤ 200) (k : Nat) (hk : 2 * l.length + 1 < k) : Pl.wharfref23_Processed.f k l = some (playS l 0).1 := by
  have := proc_loop l hl l.length k 0 [] (by omega) (by omega) (by omega) (by simp) rfl
  simpa [Pl.wharfref23_Processed.f] using this
theorem rep_past (l : List Int) (hl : l.length ≤ 200) (k i : Nat) (x3 : List Int) (hk : l.length + 2 < k) (hi : i ≤ l.length) (ht : stopS l 0 < i) : Pl.wharfref23_Reported.l0 k l x3 i = some x3 := by
  obtain ⟨k, rfl⟩ : ∃ m, k = m + 1 := ⟨k - 1, by omega⟩
  obtain ⟨k, rfl⟩ : ∃ m, k = m + 1 := ⟨k - 1, by omega⟩
  unfold Pl.wharfref23_Reported.l0
  rw [stop_f l hl (k + 1) (by omega)]
  simp only [Option.bind_some]
  rw [show decide ((i : Int) ≤ stopS l 0) = false from by simp; omega]
  unfold Pl.wharfref23_Reported.j1
  split <;> simp
theorem rep_loop (l : List Int) (hl : l.length ≤ 200) : ∀ (d k i : Nat) (x3 : List Int), l.length - i = d → i ≤ l.length → 2 * d + l.length + 5 < k → x3.length ≤ i → stopS (l.drop i) i = stopS l 0 →
    Pl.wharfref23_Reported.l0 k l x3 i = some (x3 ++ (playS (l.drop i) i).2.1) := by
  intro d
  induction d with
  | zero =>
    intro k i x3 hd hi hk _ ht
    obtain ⟨k, rfl⟩ : ∃ m, k = m + 1 := ⟨k - 1, by omega⟩
    obtain ⟨k, rfl⟩ : ∃ m, k = m + 1 := ⟨k - 1, by omega⟩
    have he : l.drop i = [] := List.drop_eq_nil_of_le (by omega)
    rw [he]
    unfold Pl.wharfref23_Reported.l0
    rw [if_neg (by omega)]
    unfold Pl.wharfref23_Reported.j1
    simp [playS]
  | succ d ih =>
    intro k i x3 hd hi hk h3 ht
    obtain ⟨k, rfl⟩ : ∃ m, k = m + 1 := ⟨k - 1, by omega⟩
    obtain ⟨k, rfl⟩ : ∃ m, k = m + 1 := ⟨k - 1, by omega⟩
    have hlt : i < l.length := by omega
    have hw := wrap_next (n := l.length) hlt (by omega)
    have hge := stopS_ge (l.drop i) (i : Int)
    rw [drop_cons hlt] at ht ⊢
    unfold Pl.wharfref23_Reported.l0
    rw [if_pos (by omega), stop_f l hl (k + 1) (by omega)]
    simp only [Option.bind_some]
    rw [show decide ((i : Int) ≤ stopS l 0) = true from by rw [decide_eq_true_eq, ← ht, ← drop_cons hlt]; exact hge]
    unfold Pl.wharfref23_Reported.j1
    rw [if_pos rfl, if_pos (by omega), if_pos (by omega), rd_at hlt, hw]
    unfold playS
    rw [stopS_cons] at ht
    by_cases c1 : l[i] = 1
    · rw [if_pos (.inr c1)] at ht
      rw [if_pos c1, if_pos (by omega), rep_past l hl k (i + 1) _ (by omega) (by omega) (by omega)]
      simp [c1]
    · by_cases c0 : l[i] = 0
      · rw [if_pos (.inl c0)] at ht
        rw [if_neg c1, if_neg (by omega), rep_past l hl k (i + 1) _ (by omega) (by omega) (by omega)]
        simp [c0]
      · rw [if_neg (by simp [c0, c1])] at ht
        have ht' : stopS (l.drop (i + 1)) ((i + 1 : Nat) : Int) = stopS l 0 := by simpa using ht
        rw [if_neg c1]
        by_cases c3 : l[i] = 3
        · rw [if_pos c3, if_pos (by omega), ih k (i + 1) _ (by omega) (by omega) (by omega) (by simp; omega) ht']
          simp [c3]
        · rw [if_neg c3, ih k (i + 1) _ (by omega) (by omega) (by omega) (by omega) ht']
          by_cases c4 : l[i] = 4
          · simp [c4]
          · simp [c4, c3, c1, c0]
theorem rep_f (l : List Int) (hl : l.length ≤ 200) (k : Nat) (hk : 3 * l.length + 5 < k) : Pl.wharfref23_Reported.f k l = some (playS l 0).2.1 := by
  have := rep_loop l hl l.length k 0 [] (by omega) (by omega) (by omega) (by simp) rfl
  simpa [Pl.wharfref23_Reported.f] using this
theorem play_stopped : ∀ (l : List Int) (i : Int), (playS l i).2.2 = decide (stopS l i < i + l.length)
  | [], i => by simp [playS, stopS]
  | a :: l, i => by
    have ih := play_stopped l (i + 1)
    unfold playS stopS
    by_cases c : a = 0 ∨ a = 1
    · rw [if_pos c]
      rcases c with rfl | rfl <;> simp <;> omega
    · rw [if_neg c]
      have e : i + ((a :: l).length : Nat) = i + 1 + (l.length : Nat) := by simp; omega
      rw [e, ← ih]
      simp only []
      split
      · rfl
      · split
        · rfl
        · rw [if_neg (fun e => c (.inr e)), if_neg (fun e => c (.inl e))]
theorem play_len : ∀ (l : List Int) (i : Int), (playS l i).1.length ≤ l.length ∧ (playS l i).2.1.length ≤ l.length
  | [], i => by simp [playS]
  | a :: l, i => by
    have ih := play_len l (i + 1)
    unfold playS
    repeat' split
    all_goals simp <;> omega
theorem eq_loop (p : List Int) (hl : p.length ≤ 1000000) : ∀ (d k i : Nat), p.length - i = d → i ≤ p.length → d < k → Pl.slices_Equal_int_int.l0 k p p (p.length : Int) i = some true := by
  intro d
  induction d with
  | zero =>
    intro k i hd hi hk
    obtain ⟨k, rfl⟩ : ∃ m, k = m + 1 := ⟨k - 1, by omega⟩
    simp only [Pl.slices_Equal_int_int.l0]
    rw [if_neg (by omega)]
  | succ d ih =>
    intro k i hd hi hk
    obtain ⟨k, rfl⟩ : ∃ m, k = m + 1 := ⟨k - 1, by omega⟩
    have hlt : i < p.length := by omega
    simp only [Pl.slices_Equal_int_int.l0]
    rw [if_pos (by omega), if_pos (by omega), if_pos (by omega), if_pos (by omega), if_pos trivial, wrap_next (n := p.length) hlt (by omega)]
    exact ih k (i + 1) (by omega) (by omega) (by omega)
theorem eq_f (p : List Int) (hl : p.length ≤ 1000000) : Pl.slices_Equal_int_int.f (p.length + 1) p p = some true := by
  unfold Pl.slices_Equal_int_int.f
  rw [if_pos rfl]
  exact eq_loop p hl p.length _ 0 (by omega) (by omega) (by omega)
end Go.Proofs.YtjgcdjfeglhalaaDoor
