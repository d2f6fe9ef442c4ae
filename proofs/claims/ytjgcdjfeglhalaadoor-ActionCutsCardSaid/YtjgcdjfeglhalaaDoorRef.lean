/- The reference's look-ups: 'wharfref11.Of', 'wharfref07.Of'; 'wharfref23.Chunk', 'wharfref23.Param', 'wharfref23.Name'. -/
import Derived.Test.YtjgcdjfeglhalaaDoorRefTab
namespace Go.Proofs.YtjgcdjfeglhalaaDoor
open Go.RowKit Go.Proofs.YtjgcdjfeglhalaaDoorW.PrintWords

theorem flat7 {α : Type} (f : α → List Value) (hf : ∀ x, (f x).length = 7) (l : List α) : ∀ (i : Nat) (x : α), l[i]? = some x → ∀ j, j < 7 → (l.flatMap f).toArray[i * 7 + j]? = (f x)[j]? := by
  induction l with
  | nil => intro i x h; simp at h
  | cons r l ih =>
    intro i x h j hj
    rw [List.flatMap_cons, List.getElem?_toArray]
    cases i with
    | zero =>
      simp only [List.getElem?_cons_zero, Option.some.injEq] at h
      subst h
      rw [Nat.zero_mul, Nat.zero_add, List.getElem?_append_left (by rw [hf]; exact hj)]
    | succ i =>
      have := ih i x (by simpa using h) j hj
      rw [List.getElem?_toArray] at this
      rw [List.getElem?_append_right (by rw [hf]; omega), ← this, hf]
      congr 1
      omega
theorem krow_at {w : World} {b : Nat} (h : w.heap[b]? = some (.cells kCells 41 (0, 0))) (i : Nat) (r : KR) (hr : kRows[i]? = some r) :
    w.cell? ⟨b, i * 7, none⟩ = some (.int .u8 r.ty) ∧ w.cell? ⟨b, i * 7 + 1, none⟩ = some (.string r.nm) ∧ w.cell? ⟨b, i * 7 + 2, none⟩ = some (.int .u8 r.mask) ∧ w.cell? ⟨b, i * 7 + 3, none⟩ = some (.int .i64 r.least) ∧
    w.cell? ⟨b, i * 7 + 4, none⟩ = some (.int .i64 r.most) ∧ w.cell? ⟨b, i * 7 + 5, none⟩ = some (.int .i64 r.unit) ∧ w.cell? ⟨b, i * 7 + 6, none⟩ = some (.int .i64 r.kids) := by
  have hc : ∀ j, j < 7 → w.cell? ⟨b, i * 7 + j, none⟩ = (r.cells)[j]? := fun j hj => by
    rw [← flat7 KR.cells (fun _ => rfl) kRows i r hr j hj]
    simp [World.cell?, h, kCells]
  exact ⟨hc 0 (by omega), hc 1 (by omega), hc 2 (by omega), hc 3 (by omega), hc 4 (by omega), hc 5 (by omega), hc 6 (by omega)⟩
theorem rrow_at {w : World} {b : Nat} (h : w.heap[b]? = some (.cells rCells 45 (0, 0))) (i : Nat) (k : Int) (r : FR) (hr : rRows[i]? = some (k, r)) :
    w.cell? ⟨b, i * 7, none⟩ = some (.int .i64 k) ∧ w.cell? ⟨b, i * 7 + 1, none⟩ = some (.int .u16 r.ty) ∧ w.cell? ⟨b, i * 7 + 2, none⟩ = some (.string r.nm) ∧ w.cell? ⟨b, i * 7 + 3, none⟩ = some (.int .i64 r.least) ∧
    w.cell? ⟨b, i * 7 + 4, none⟩ = some (.int .i64 r.most) ∧ w.cell? ⟨b, i * 7 + 5, none⟩ = some (.int .i64 r.unit) ∧ w.cell? ⟨b, i * 7 + 6, none⟩ = some (.int .i64 r.kids) := by
  have hc : ∀ j, j < 7 → w.cell? ⟨b, i * 7 + j, none⟩ = (rCell (k, r))[j]? := fun j hj => by
    rw [← flat7 rCell (fun _ => rfl) rRows i (k, r) hr j hj]
    simp [World.cell?, h, rCells]
  exact ⟨hc 0 (by omega), hc 1 (by omega), hc 2 (by omega), hc 3 (by omega), hc 4 (by omega), hc 5 (by omega), hc 6 (by omega)⟩
/-- None of the first i of a list is wanted. -/
def NoneOf {α : Type} (p : α → Bool) (l : List α) (i : Nat) : Prop := ∀ a x, l[a]? = some x → a < i → p x = false
theorem NoneOf.zero {α : Type} (p : α → Bool) (l : List α) : NoneOf p l 0 := fun a x _ h => by omega
theorem NoneOf.step {α : Type} {p : α → Bool} {l : List α} {i : Nat} {x : α} (h : NoneOf p l i) (hx : l[i]? = some x) (hp : p x = false) : NoneOf p l (i + 1) := fun a y hy ha => by
  rcases Nat.lt_or_ge a i with g | g
  · exact h a y hy g
  · obtain rfl : a = i := by omega
    rw [hx] at hy
    cases hy
    exact hp
theorem NoneOf.found {α : Type} {p : α → Bool} : ∀ {l : List α} {i : Nat} {x : α}, NoneOf p l i → l[i]? = some x → p x = true → l.find? p = some x := by
  intro l
  induction l with
  | nil => intro i x _ h; simp at h
  | cons y l ih =>
    intro i x h hx hp
    cases i with
    | zero =>
      simp only [List.getElem?_cons_zero, Option.some.injEq] at hx
      subst hx
      rw [List.find?_cons, hp]
    | succ i =>
      rw [List.find?_cons, h 0 y rfl (by omega)]
      exact ih (i := i) (fun a z hz ha => h (a + 1) z (by simpa using hz) (Nat.succ_lt_succ ha)) (by simpa using hx) hp
theorem NoneOf.all {α : Type} {p : α → Bool} {l : List α} {n : Nat} (h : NoneOf p l n) (hn : l.length ≤ n) : l.find? p = none := by
  rw [List.find?_eq_none]
  intro x hx
  obtain ⟨a, ha, rfl⟩ := List.getElem_of_mem hx
  have := h a _ (List.getElem?_eq_getElem ha) (Nat.lt_of_lt_of_le ha hn)
  rw [this]
  simp
def kIs (t : Int) (r : KR) : Bool := r.ty == t
/-- What 'wharfref11.Of' gives. -/
def ROfPost (t : Int) (w : World) (e : Ending) (w' : World) : Prop := ∃ (r : KR) (b : Bool), r = (kRows.find? (kIs t)).getD kZ ∧ b = (kRows.find? (kIs t)).isSome ∧ e = .returned (.tuple #[.agg #[.int .u8 r.ty, .string r.nm, .int .u8 r.mask, .int .i64 r.least, .int .i64 r.most, .int .i64 r.unit, .int .i64 r.kids], .bool b]) ∧ Below w.heap.size w w'
theorem kRows_len : kRows.length = 23 := rfl
theorem rRows_len : rRows.length = 46 := rfl
set_option maxHeartbeats 1000000 in
theorem rof_any (t : Int) (w : World) : Calls Tryd.prog 23 #[.int .u8 t] w (ROfPost t w) := by
  go_enter Tryd.func23, Tryd.ntmps23
  go_wp2_with fail
  refine (ktab_any _).mono ?_
  rintro e w1 ⟨b, hb0, rfl, hc, hB⟩
  have HC := hid hc
  have s7 := seven (new_blk hB)
  have hsz : w.heap.size < w1.heap.size := by have := hB.size; simp at this; omega
  have HB := hid (((Below.refl w.heap.size w).alloc (Nat.le_refl _) _).trans (hB.mono (by simp)))
  clear hB hc
  go_wp2_with fail
  go_loop [5] (fun vi => ∃ i : Nat, vi = .int .i64 i ∧ i ≤ 23 ∧ NoneOf (kIs t) kRows i) (fun vi => 23 - (intOf vi).toNat)
  case atStart => exact ⟨0, rfl, by omega, NoneOf.zero _ _⟩
  case round =>
    obtain ⟨i, rfl, hi, hn⟩ := hrel
    by_cases hlt : i < 23
    · obtain ⟨r, hr⟩ : ∃ r, kRows[i]? = some r := ⟨_, List.getElem?_eq_getElem (by rw [kRows_len]; exact hlt)⟩
      have cs := krow_at HC.out i r hr
      have hr' := hid hr
      clear hr
      cases hx : kIs t r
      · have hx1 : (r.ty == t) = false := hx
        have hx' := hid hx
        clear hx
        go_wp2_with fail
        go_round
        case rel => exact ⟨i + 1, by go_num, by omega, hn.step hr'.out hx'.out⟩
        case measure => simp [intOf]; omega
      · have hx1 : (r.ty == t) = true := hx
        have hx' := hid hx
        clear hx
        go_wp2_with fail
        have hf := hn.found hr'.out hx'.out
        refine bodyPost_ret (v := .tuple #[.agg #[.int .u8 r.ty, .string r.nm, .int .u8 r.mask, .int .i64 r.least, .int .i64 r.most, .int .i64 r.unit, .int .i64 r.kids], .bool true]) (by simp [results, Tryd.results23, go_sem, s7]) rfl ⟨r, true, by rw [hf]; rfl, by rw [hf]; rfl, rfl, ?_⟩
        repeat (first | with_reducible exact HB.out | with_reducible apply below_alloc | with_reducible apply below_set0)
    · obtain rfl : i = 23 := by omega
      go_wp2_with fail
      have hf := hn.all (by rw [kRows_len]; exact Nat.le_refl _)
      refine bodyPost_ret (v := .tuple #[.agg #[.int .u8 kZ.ty, .string kZ.nm, .int .u8 kZ.mask, .int .i64 kZ.least, .int .i64 kZ.most, .int .i64 kZ.unit, .int .i64 kZ.kids], .bool false]) (by simp [results, Tryd.results23, go_sem, s7, kZ]) rfl ⟨kZ, false, by rw [hf]; rfl, by rw [hf]; rfl, rfl, ?_⟩
      repeat (first | with_reducible exact HB.out | with_reducible apply below_alloc | with_reducible apply below_set0)
def rIs (c t : Int) (p : Int × FR) : Bool := p.1 == c && p.2.ty == t
/-- The reference's form. -/
def rAt (c t : Int) : Int × FR := (rRows.find? (rIs c t)).getD (0, fZ)
def RFPost (c t : Int) (w : World) (e : Ending) (w' : World) : Prop := ∃ (k : Int) (r : FR), (k, r) = rAt c t ∧ e = .returned (.agg #[.int .i64 k, .int .u16 r.ty, .string r.nm, .int .i64 r.least, .int .i64 r.most, .int .i64 r.unit, .int .i64 r.kids]) ∧ Below w.heap.size w w'
set_option maxHeartbeats 1000000 in
theorem rfof_any (c t : Int) (w : World) : Calls Tryd.prog 24 #[.int .i64 c, .int .u16 t] w (RFPost c t w) := by
  go_enter Tryd.func24, Tryd.ntmps24
  go_wp2_with fail
  refine (rtab_any _).mono ?_
  rintro e w1 ⟨b, hb0, rfl, hc, hB⟩
  have HC := hid hc
  have s7 := seven (new_blk hB)
  have hsz : w.heap.size < w1.heap.size := by have := hB.size; simp at this; omega
  have HB := hid (((Below.refl w.heap.size w).alloc (Nat.le_refl _) _).trans (hB.mono (by simp)))
  clear hB hc
  go_wp2_with fail
  go_loop [6] (fun vi => ∃ i : Nat, vi = .int .i64 i ∧ i ≤ 46 ∧ NoneOf (rIs c t) rRows i) (fun vi => 46 - (intOf vi).toNat)
  case atStart => exact ⟨0, rfl, by omega, NoneOf.zero _ _⟩
  case round =>
    obtain ⟨i, rfl, hi, hn⟩ := hrel
    by_cases hlt : i < 46
    · obtain ⟨k, r, hr⟩ : ∃ k r, rRows[i]? = some (k, r) := ⟨_, _, List.getElem?_eq_getElem (by rw [rRows_len]; exact hlt)⟩
      have cs := rrow_at HC.out i k r hr
      have hr' := hid hr
      clear hr
      cases hx : (k == c)
      · have hx' := hid (show rIs c t (k, r) = false by simp only [rIs, hx]; rfl)
        go_wp2_with fail
        go_round
        case rel => exact ⟨i + 1, by go_num, by omega, hn.step hr'.out hx'.out⟩
        case measure => simp [intOf]; omega
      · cases hy : (r.ty == t)
        · have hx' := hid (show rIs c t (k, r) = false by simp only [rIs, hx, hy]; rfl)
          go_wp2_with fail
          go_round
          case rel => exact ⟨i + 1, by go_num, by omega, hn.step hr'.out hx'.out⟩
          case measure => simp [intOf]; omega
        · have hx' := hid (show rIs c t (k, r) = true by simp only [rIs, hx, hy]; rfl)
          go_wp2_with fail
          have hf := hn.found hr'.out hx'.out
          refine bodyPost_ret (v := .agg #[.int .i64 k, .int .u16 r.ty, .string r.nm, .int .i64 r.least, .int .i64 r.most, .int .i64 r.unit, .int .i64 r.kids]) (by simp [results, Tryd.results24, go_sem, s7]) rfl ⟨k, r, by unfold rAt; rw [hf]; rfl, rfl, ?_⟩
          repeat (first | with_reducible exact HB.out | with_reducible apply below_alloc | with_reducible apply below_set0)
    · obtain rfl : i = 46 := by omega
      go_wp2_with fail
      have hf := hn.all (by rw [rRows_len]; exact Nat.le_refl _)
      refine bodyPost_ret (v := .agg #[.int .i64 0, .int .u16 fZ.ty, .string fZ.nm, .int .i64 fZ.least, .int .i64 fZ.most, .int .i64 fZ.unit, .int .i64 fZ.kids]) (by simp [results, Tryd.results24, go_sem, s7, fZ]) rfl ⟨0, fZ, by unfold rAt; rw [hf]; rfl, rfl, ?_⟩
      repeat (first | with_reducible exact HB.out | with_reducible apply below_alloc | with_reducible apply below_set0)

/-! ### the two sides agree -/
theorem kFind_known (t : Int) : (kRows.find? (kIs t)).isSome = kKnown t := by
  rw [Bool.eq_iff_iff, List.find?_isSome]
  unfold kKnown kTypes
  simp [kIs]
theorem find_class (c t : Int) (h : c = 1 ∨ c = 2) : rRows.find? (rIs c t) = (((fRowsOf c).find? (fun r => r.ty == t)).map fun r => (c, r)) := by
  have hm : ∀ (k : Int) (l : List FR), (l.map fun r => (k, r)).find? (rIs c t) = if k = c then (l.find? (fun r => r.ty == t)).map (fun r => (k, r)) else none := by
    intro k l
    rw [List.find?_map]
    split
    · rename_i h
      have hp : (rIs c t ∘ fun r : FR => (k, r)) = fun r => r.ty == t := by
        funext x
        simp [rIs, h]
      rw [hp]
    · rename_i h
      rw [List.find?_eq_none.2 (by intro x _; simp [rIs, h])]
      rfl
  unfold rRows
  rw [List.find?_append, hm, hm]
  rcases h with rfl | rfl <;> simp [fRowsOf]
set_option maxHeartbeats 400000 in
theorem rchunk_any (t : Int) (w : World) (h3 : 0 ≤ t) (h4 : t ≤ 255) : Calls Tryd.prog 10 #[.int .u8 t] w (IsPost (.int .i64 (chunkAct t)) w) := by
  go_enter Tryd.func10, Tryd.ntmps10
  go_wp2_with fail
  refine (rof_any t _).mono ?_
  rintro e w1 ⟨r, b, hr, hbb, rfl, hb⟩
  rw [kFind_known] at hbb
  have hb' := hid hb
  cases b
  all_goals
    have hx := hid hbb
    clear hr hbb hb
    go_wp2_with fail
    go_ret
    exact ⟨by rw [chunkAct, ← hx.out]; rfl, by repeat (first | with_reducible exact hb'.out | with_reducible apply below_alloc)⟩
theorem rAt_known (t : Int) : ((rAt 1 t).1 > 0) = (fHas 1 t = true) := by
  unfold rAt fHas
  rw [find_class 1 t (.inl rfl)]
  cases h : (fRowsOf 1).find? (fun r => r.ty == t) with
  | none =>
    rw [List.find?_eq_none] at h
    have : (fRowsOf 1).any (fun r => r.ty == t) = false := by
      rw [List.any_eq_false]
      exact h
    rw [this]
    simp
  | some r =>
    have : (fRowsOf 1).any (fun r => r.ty == t) = true := by
      rw [List.any_eq_true]
      exact ⟨r, List.mem_of_find?_eq_some h, List.find?_some (p := fun r : FR => r.ty == t) h⟩
    rw [this]
    simp
set_option maxHeartbeats 400000 in
theorem rparam_any (t : Int) (w : World) (h3 : 0 ≤ t) (h4 : t ≤ 65535) : Calls Tryd.prog 11 #[.int .u16 t] w (IsPost (.int .i64 (pAct t)) w) := by
  have hfd : ∀ (k : Int) (v1 v2 v3 v4 v5 v6 : Value) (w : World), (Instr.field 45 (.agg #[.int .i64 k, v1, v2, v3, v4, v5, v6]) 0).run Tryd.prog w = .ok (.int .i64 k) w := fun _ _ _ _ _ _ _ _ => by kernel_rfl
  go_enter Tryd.func11, Tryd.ntmps11
  go_wp2_with fail
  refine (rfof_any 1 t _).mono ?_
  rintro e w1 ⟨k, r, hr, rfl, hb⟩
  have hk : (0 < k) = (fHas 1 t = true) := by rw [← rAt_known, ← hr]
  have hb' := hid hb
  have hk' := hid hk
  clear hr hb hk
  by_cases h0 : 0 < k
  · have h1 : fHas 1 t = true := by rw [← hk'.out]; exact h0
    have hx := hid h1
    clear h1
    go_wp2_with fail
    go_ret
    exact ⟨by rw [pAct, hx.out]; rfl, hb'.out⟩
  · have h1 : fHas 1 t = false := by
      cases h : fHas 1 t
      · rfl
      · exact absurd (by rw [hk'.out]; exact h) h0
    have hx := hid h1
    clear h1
    go_wp2_with fail
    go_ret
    exact ⟨by rw [pAct, hx.out]; rfl, hb'.out⟩

/-! ### names -/
def aNames : List ByteArray := [⟨#[115, 116, 111, 112]⟩, ⟨#[115, 116, 111, 112, 45, 114, 101, 112, 111, 114, 116]⟩, ⟨#[115, 107, 105, 112]⟩, ⟨#[115, 107, 105, 112, 45, 114, 101, 112, 111, 114, 116]⟩, ⟨#[112, 114, 111, 99, 101, 115, 115]⟩]
def aName (n : Int) : ByteArray := if n < 0 ∨ 4 < n then ⟨#[]⟩ else aNames.getD n.toNat ⟨#[]⟩
def NTab (w : World) : Prop := 2 ≤ w.heap.size ∧ ∀ i, i < 5 → w.cell? ⟨0, i, none⟩ = some (.string (aNames.getD i ⟨#[]⟩))
theorem NTab.below {w w' : World} (h : NTab w) (hb : Below w.heap.size w w') : NTab w' := by
  have hz := h.1
  exact ⟨Nat.le_trans h.1 hb.size, fun i hi => by rw [hb.cell (p := ⟨0, i, none⟩) (by simp; omega)]; exact h.2 i hi⟩
set_option maxHeartbeats 400000 in
theorem name_any (n : Int) (w : World) (hn : NTab w) : Calls Tryd.prog 12 #[.int .i64 n] w (IsPost (.string (aName n)) w) := by
  have hnn := hid hn
  clear hn
  by_cases h0 : n < 0
  · have hx := hid (show aName n = ⟨#[]⟩ by rw [aName, if_pos (.inl h0)])
    go_enter Tryd.func12, Tryd.ntmps12
    go_wp2
    go_ret
    exact ⟨by rw [hx.out]; rfl, Below.refl _ _⟩
  · by_cases h4 : 4 < n
    · have hx := hid (show aName n = ⟨#[]⟩ by rw [aName, if_pos (.inr h4)])
      have h5 : 5 ≤ n := by omega
      go_enter Tryd.func12, Tryd.ntmps12
      go_wp2
      go_ret
      exact ⟨by rw [hx.out]; rfl, Below.refl _ _⟩
    · obtain ⟨m, rfl⟩ := Int.eq_ofNat_of_zero_le (by omega : 0 ≤ n)
      have hm : m < 5 := by omega
      have hc := hnn.out.2 m hm
      have h5 : ¬ 5 ≤ (m : Int) := by omega
      obtain ⟨s, hs⟩ : ∃ s, s = aNames.getD m ⟨#[]⟩ := ⟨_, rfl⟩
      rw [← hs] at hc
      have hx := hid (show aName (m : Int) = s by rw [aName, if_neg (by omega), hs]; rfl)
      clear hs
      go_enter Tryd.func12, Tryd.ntmps12
      go_wp2
      go_ret
      exact ⟨by rw [hx.out]; rfl, Below.refl _ _⟩
set_option maxHeartbeats 400000 in
theorem rname_any (n : Int) (w : World) : Calls Tryd.prog 13 #[.int .i64 n] w (IsPost (.string (aName n)) w) := by
  by_cases h0 : n < 0
  · have hx := hid (show aName n = ⟨#[]⟩ by rw [aName, if_pos (.inl h0)])
    go_enter Tryd.func13, Tryd.ntmps13
    go_wp2
    go_ret
    exact ⟨by rw [hx.out]; rfl, Below.refl _ _⟩
  · by_cases h4 : 4 < n
    · have hx := hid (show aName n = ⟨#[]⟩ by rw [aName, if_pos (.inr h4)])
      go_enter Tryd.func13, Tryd.ntmps13
      go_wp2
      go_ret
      exact ⟨by rw [hx.out]; rfl, Below.refl _ _⟩
    · obtain ⟨m, rfl⟩ := Int.eq_ofNat_of_zero_le (by omega : 0 ≤ n)
      have hm : m < 5 := by omega
      have hv : m = 0 ∨ m = 1 ∨ m = 2 ∨ m = 3 ∨ m = 4 := by omega
      rcases hv with rfl | rfl | rfl | rfl | rfl
      all_goals
        go_enter Tryd.func13, Tryd.ntmps13
        go_wp2
        go_ret
        exact ⟨rfl, (Below.refl _ _).alloc (Nat.le_refl _) _⟩
set_option maxHeartbeats 400000 in
theorem stops_any (n : Int) (w : World) : Calls Tryd.prog 14 #[.int .i64 n] w (IsPost (.bool (n == 0 || n == 1)) w) := by
  cases h0 : (n == 0)
  all_goals
    go_enter Tryd.func14, Tryd.ntmps14
    go_wp2
    go_ret
    exact ⟨rfl, Below.refl _ _⟩
set_option maxHeartbeats 400000 in
theorem reports_any (n : Int) (w : World) : Calls Tryd.prog 15 #[.int .i64 n] w (IsPost (.bool (n == 1 || n == 3)) w) := by
  cases h0 : (n == 1)
  all_goals
    go_enter Tryd.func15, Tryd.ntmps15
    go_wp2
    go_ret
    exact ⟨rfl, Below.refl _ _⟩
end Go.Proofs.YtjgcdjfeglhalaaDoor
