/- The reference's table of kinds, and its look-up. -/
import Derived.Test.YtmfmomfhiieilaaGreatDoorMa
set_option linter.unusedVariables false
namespace Go.Proofs.YtmfmomfhiieilaaGreatDoor
open Go.RowKit Go.Proofs.YtmfmomfhiieilaaGreatDoorW.PrintWords
theorem below_set0 {w W : World} {j : Nat} {u : Value} (h : Below w.heap.size w W) : Below w.heap.size w (W.setCell ⟨w.heap.size, j, none⟩ u) := below_set h (Nat.le_refl _) u
section
variable {P : Program} {ops : Array Oper} {Q : Exit → Act → World → Prop}
/-- A list of plain operations, run one after the other. -/
def runOps (P : Program) : List Oper → Act → World → Option (Act × World)
  | [], a, w => some (a, w)
  | o :: l, a, w => match o.guard, (execOp a.eval o).run P w with
    | none, .ok (.value v) w1 => runOps P l (a.put o.dst v) w1
    | _, _ => none
theorem wpList_all : ∀ (L : List Oper) {a : Act} {w : World} (a' : Act) (w' : World), runOps P L a w = some (a', w') → Q .normal a' w' → wpList P ops Q L a w := by
  intro L
  induction L with
  | nil =>
    intro a w a' w' h hk
    cases h
    exact wpList_nil hk
  | cons o l ih =>
    intro a w a' w' h hk
    unfold runOps at h
    split at h
    · rename_i v w1 hg hr
      exact Kd.event_run hg hr (ih _ _ h hk)
    · cases h
end
def kCell (r : KR) : List Value := [.int .u8 r.ty, .string r.nm, .int .u8 r.mask, .int .i64 r.least, .int .i64 r.most, .int .i64 r.unit, .int .i64 r.kids]
def kCells : Array Value := (kRows.flatMap kCell).toArray
def RTabPost (n : Nat) (cells : Array Value) (t : Nat) (w : World) (e : Ending) (w' : World) : Prop := ∃ b : Nat, w.heap.size ≤ b ∧ e = .returned (.slice (some ⟨b, 0, none⟩) n n) ∧ w'.heap[b]? = some (.cells cells t (0, 0)) ∧ Below w.heap.size w w'
def ktabFrame (b0 : Nat) : Array Value := #[.slice (some ⟨b0, 0, none⟩) 23 23, .int .i64 65531, .int .i64 65531, .agg #[.int .u8 0, .string ⟨#[100, 97, 116, 97]⟩, .int .u8 15, .int .i64 13, .int .i64 65531, .int .i64 1, .int .i64 0], .agg #[.int .u8 1, .string ⟨#[105, 110, 105, 116]⟩, .int .u8 0, .int .i64 16, .int .i64 16, .int .i64 1, .int .i64 2], .agg #[.int .u8 2, .string ⟨#[105, 110, 105, 116, 45, 97, 99, 107]⟩, .int .u8 0, .int .i64 16, .int .i64 16, .int .i64 1, .int .i64 2], .int .i64 65531, .agg #[.int .u8 3, .string ⟨#[115, 97, 99, 107]⟩, .int .u8 0, .int .i64 12, .int .i64 65531, .int .i64 4, .int .i64 0], .agg #[.int .u8 4, .string ⟨#[104, 101, 97, 114, 116, 98, 101, 97, 116]⟩, .int .u8 0, .int .i64 0, .int .i64 0, .int .i64 1, .int .i64 1], .agg #[.int .u8 5, .string ⟨#[104, 101, 97, 114, 116, 98, 101, 97, 116, 45, 97, 99, 107]⟩, .int .u8 0, .int .i64 0, .int .i64 0, .int .i64 1, .int .i64 1], .agg #[.int .u8 6, .string ⟨#[97, 98, 111, 114, 116]⟩, .int .u8 1, .int .i64 0, .int .i64 0, .int .i64 1, .int .i64 3], .agg #[.int .u8 7, .string ⟨#[115, 104, 117, 116, 100, 111, 119, 110]⟩, .int .u8 0, .int .i64 4, .int .i64 4, .int .i64 1, .int .i64 0], .agg #[.int .u8 8, .string ⟨#[115, 104, 117, 116, 100, 111, 119, 110, 45, 97, 99, 107]⟩, .int .u8 0, .int .i64 0, .int .i64 0, .int .i64 1, .int .i64 0], .agg #[.int .u8 9, .string ⟨#[101, 114, 114, 111, 114]⟩, .int .u8 0, .int .i64 0, .int .i64 0, .int .i64 1, .int .i64 4], .int .i64 65531, .agg #[.int .u8 10, .string ⟨#[99, 111, 111, 107, 105, 101, 45, 101, 99, 104, 111]⟩, .int .u8 0, .int .i64 1, .int .i64 65531, .int .i64 1, .int .i64 0], .agg #[.int .u8 11, .string ⟨#[99, 111, 111, 107, 105, 101, 45, 97, 99, 107]⟩, .int .u8 0, .int .i64 0, .int .i64 0, .int .i64 1, .int .i64 0], .agg #[.int .u8 12, .string ⟨#[101, 99, 110, 101]⟩, .int .u8 0, .int .i64 4, .int .i64 4, .int .i64 1, .int .i64 0], .agg #[.int .u8 13, .string ⟨#[99, 119, 114]⟩, .int .u8 0, .int .i64 4, .int .i64 4, .int .i64 1, .int .i64 0], .agg #[.int .u8 14, .string ⟨#[115, 104, 117, 116, 100, 111, 119, 110, 45, 99, 111, 109, 112, 108, 101, 116, 101]⟩, .int .u8 1, .int .i64 0, .int .i64 0, .int .i64 1, .int .i64 0], .int .i64 65531, .agg #[.int .u8 15, .string ⟨#[97, 117, 116, 104]⟩, .int .u8 0, .int .i64 5, .int .i64 65531, .int .i64 1, .int .i64 0], .int .i64 65531, .agg #[.int .u8 64, .string ⟨#[105, 45, 100, 97, 116, 97]⟩, .int .u8 15, .int .i64 17, .int .i64 65531, .int .i64 1, .int .i64 0], .agg #[.int .u8 128, .string ⟨#[97, 115, 99, 111, 110, 102, 45, 97, 99, 107]⟩, .int .u8 0, .int .i64 4, .int .i64 4, .int .i64 1, .int .i64 2], .agg #[.int .u8 130, .string ⟨#[114, 101, 45, 99, 111, 110, 102, 105, 103]⟩, .int .u8 0, .int .i64 0, .int .i64 0, .int .i64 1, .int .i64 5], .int .i64 65531, .agg #[.int .u8 132, .string ⟨#[112, 97, 100]⟩, .int .u8 0, .int .i64 0, .int .i64 65531, .int .i64 1, .int .i64 0], .int .i64 65531, .agg #[.int .u8 192, .string ⟨#[102, 111, 114, 119, 97, 114, 100, 45, 116, 115, 110]⟩, .int .u8 0, .int .i64 4, .int .i64 65531, .int .i64 4, .int .i64 0], .agg #[.int .u8 193, .string ⟨#[97, 115, 99, 111, 110, 102]⟩, .int .u8 0, .int .i64 4, .int .i64 4, .int .i64 1, .int .i64 6], .int .i64 65531, .agg #[.int .u8 194, .string ⟨#[105, 45, 102, 111, 114, 119, 97, 114, 100, 45, 116, 115, 110]⟩, .int .u8 0, .int .i64 4, .int .i64 65531, .int .i64 8, .int .i64 0], .slice (some ⟨b0, 0, none⟩) 23 23]
theorem ktab_fold (w : World) {ops : Array Oper} {Q : Exit → Act → World → Prop} (L : List Oper) (a : Act) (h : runOps Tryz.prog L a w = some (⟨ktabFrame w.heap.size, []⟩, w.alloc (.cells kCells 95))) (hk : Q .normal ⟨ktabFrame w.heap.size, []⟩ (w.alloc (.cells kCells 95))) : wpList Tryz.prog ops Q L a w :=
  wpList_all L _ _ h hk
set_option maxHeartbeats 1000000 in
set_option maxRecDepth 100000 in
theorem ktab_any (w : World) : Calls Tryz.prog 91 #[] w (RTabPost 23 kCells 95 w) := by
  go_enter Tryz.func91, Tryz.ntmps91
  iterate 18 go_step
  try apply wp_region_lit
  refine ktab_fold w _ _ (by kernel_rfl) ?_
  go_step
  go_step
  go_step
  refine bodyPost_ret (v := .slice (some ⟨w.heap.size, 0, none⟩) 23 23) (by kernel_rfl) rfl ⟨_, Nat.le_refl _, rfl, heap_alloc_new _ _, (Below.refl _ _).alloc (Nat.le_refl _) _⟩
theorem flat7 {α : Type} (f : α → List Value) (hf : ∀ x, (f x).length = 7) (l : List α) : ∀ (i : Nat) (x : α), l[i]? = some x → ∀ j, j < 7 → (l.flatMap f).toArray[i * 7 + j]? = (f x)[j]? := by
  induction l with
  | nil => intro i x h; simp at h
  | cons r l ih =>
    intro i x h j hj
    rw [List.flatMap_cons, List.getElem?_toArray]
    cases i with
    | zero =>
      simp only [List.getElem?_cons_zero, Option.some.injEq] at h
      subst h
      rw [Nat.zero_mul, Nat.zero_add, List.getElem?_append_left (by rw [hf]; exact hj)]
    | succ i =>
      have := ih i x (by simpa using h) j hj
      rw [List.getElem?_toArray] at this
      rw [List.getElem?_append_right (by rw [hf]; omega), ← this, hf]
      congr 1
      omega
theorem krow_at {w : World} {b : Nat} (h : w.heap[b]? = some (.cells kCells 95 (0, 0))) (i : Nat) (r : KR) (hr : kRows[i]? = some r) :
    w.cell? ⟨b, i * 7, none⟩ = some (.int .u8 r.ty) ∧ w.cell? ⟨b, i * 7 + 1, none⟩ = some (.string r.nm) ∧ w.cell? ⟨b, i * 7 + 2, none⟩ = some (.int .u8 r.mask) ∧ w.cell? ⟨b, i * 7 + 3, none⟩ = some (.int .i64 r.least) ∧
    w.cell? ⟨b, i * 7 + 4, none⟩ = some (.int .i64 r.most) ∧ w.cell? ⟨b, i * 7 + 5, none⟩ = some (.int .i64 r.unit) ∧ w.cell? ⟨b, i * 7 + 6, none⟩ = some (.int .i64 r.kids) := by
  have hc : ∀ j, j < 7 → w.cell? ⟨b, i * 7 + j, none⟩ = (kCell r)[j]? := fun j hj => by
    rw [← flat7 kCell (fun _ => rfl) kRows i r hr j hj]
    simp [World.cell?, h, kCells]
  exact ⟨hc 0 (by omega), hc 1 (by omega), hc 2 (by omega), hc 3 (by omega), hc 4 (by omega), hc 5 (by omega), hc 6 (by omega)⟩
/-- None of the first i of a list is wanted. -/
def NoneOf {α : Type} (p : α → Bool) (l : List α) (i : Nat) : Prop := ∀ a x, l[a]? = some x → a < i → p x = false
theorem NoneOf.zero {α : Type} (p : α → Bool) (l : List α) : NoneOf p l 0 := fun a x _ h => by omega
theorem NoneOf.step {α : Type} {p : α → Bool} {l : List α} {i : Nat} {x : α} (h : NoneOf p l i) (hx : l[i]? = some x) (hp : p x = false) : NoneOf p l (i + 1) := fun a y hy ha => by
  rcases Nat.lt_or_ge a i with g | g
  · exact h a y hy g
  · obtain rfl : a = i := by omega
    rw [hx] at hy
    cases hy
    exact hp
theorem NoneOf.found {α : Type} {p : α → Bool} : ∀ {l : List α} {i : Nat} {x : α}, NoneOf p l i → l[i]? = some x → p x = true → l.find? p = some x := by
  intro l
  induction l with
  | nil => intro i x _ h; simp at h
  | cons y l ih =>
    intro i x h hx hp
    cases i with
    | zero =>
      simp only [List.getElem?_cons_zero, Option.some.injEq] at hx
      subst hx
      rw [List.find?_cons, hp]
    | succ i =>
      rw [List.find?_cons, h 0 y rfl (by omega)]
      exact ih (i := i) (fun a z hz ha => h (a + 1) z (by simpa using hz) (Nat.succ_lt_succ ha)) (by simpa using hx) hp
theorem NoneOf.all {α : Type} {p : α → Bool} {l : List α} {n : Nat} (h : NoneOf p l n) (hn : l.length ≤ n) : l.find? p = none := by
  rw [List.find?_eq_none]
  intro x hx
  obtain ⟨a, ha, rfl⟩ := List.getElem_of_mem hx
  have := h a _ (List.getElem?_eq_getElem ha) (Nat.lt_of_lt_of_le ha hn)
  rw [this]
  simp
def kIs (t : Int) (r : KR) : Bool := r.ty == t
/-- What 'wharfref11.Of' gives. -/
def ROfPost (t : Int) (w : World) (e : Ending) (w' : World) : Prop := ∃ (r : KR) (b : Bool), r = (kRows.find? (kIs t)).getD kZ ∧ b = (kRows.find? (kIs t)).isSome ∧ e = .returned (.tuple #[.agg #[.int .u8 r.ty, .string r.nm, .int .u8 r.mask, .int .i64 r.least, .int .i64 r.most, .int .i64 r.unit, .int .i64 r.kids], .bool b]) ∧ Below w.heap.size w w'
theorem kRows_len : kRows.length = 23 := rfl
set_option maxHeartbeats 1000000 in
theorem rof_any (t : Int) (w : World) : Calls Tryz.prog 57 #[.int .u8 t] w (ROfPost t w) := by
  go_enter Tryz.func57, Tryz.ntmps57
  go_wp2_with fail
  refine (ktab_any _).mono ?_
  rintro e w1 ⟨b, hb0, rfl, hc, hB⟩
  have HC := hid hc
  have s7 := seven (new_blk hB)
  have hsz : w.heap.size < w1.heap.size := by have := hB.size; simp at this; omega
  have HB := hid (((Below.refl w.heap.size w).alloc (Nat.le_refl _) _).trans (hB.mono (by simp)))
  clear hB hc
  go_wp2_with fail
  go_loop [5] (fun vi => ∃ i : Nat, vi = .int .i64 i ∧ i ≤ 23 ∧ NoneOf (kIs t) kRows i) (fun vi => 23 - (intOf vi).toNat)
  case atStart => exact ⟨0, rfl, by omega, NoneOf.zero _ _⟩
  case round =>
    obtain ⟨i, rfl, hi, hn⟩ := hrel
    by_cases hlt : i < 23
    · obtain ⟨r, hr⟩ : ∃ r, kRows[i]? = some r := ⟨_, List.getElem?_eq_getElem (by rw [kRows_len]; exact hlt)⟩
      have cs := krow_at HC.out i r hr
      have hr' := hid hr
      clear hr
      cases hx : kIs t r
      · have hx1 : (r.ty == t) = false := hx
        have hx' := hid hx
        clear hx
        go_wp2_with fail
        go_round
        case rel => exact ⟨i + 1, by go_num, by omega, hn.step hr'.out hx'.out⟩
        case measure => simp [intOf]; omega
      · have hx1 : (r.ty == t) = true := hx
        have hx' := hid hx
        clear hx
        go_wp2_with fail
        have hf := hn.found hr'.out hx'.out
        refine bodyPost_ret (v := .tuple #[.agg #[.int .u8 r.ty, .string r.nm, .int .u8 r.mask, .int .i64 r.least, .int .i64 r.most, .int .i64 r.unit, .int .i64 r.kids], .bool true]) (by simp [results, Tryz.results57, go_sem, s7]) rfl ⟨r, true, by rw [hf]; rfl, by rw [hf]; rfl, rfl, ?_⟩
        repeat (first | with_reducible exact HB.out | with_reducible apply below_alloc | with_reducible apply below_set0)
    · obtain rfl : i = 23 := by omega
      go_wp2_with fail
      have hf := hn.all (by rw [kRows_len]; exact Nat.le_refl _)
      refine bodyPost_ret (v := .tuple #[.agg #[.int .u8 kZ.ty, .string kZ.nm, .int .u8 kZ.mask, .int .i64 kZ.least, .int .i64 kZ.most, .int .i64 kZ.unit, .int .i64 kZ.kids], .bool false]) (by simp [results, Tryz.results57, go_sem, s7, kZ]) rfl ⟨kZ, false, by rw [hf]; rfl, by rw [hf]; rfl, rfl, ?_⟩
      repeat (first | with_reducible exact HB.out | with_reducible apply below_alloc | with_reducible apply below_set0)
end Go.Proofs.YtmfmomfhiieilaaGreatDoor
