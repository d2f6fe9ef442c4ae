/- The forms of nodes of the reference implementation: wharfref07.Table, wharfref07.Of. (Turned from the texts of the shape seat.) -/
import Derived.Test.YtmfmomfhiieilaaGreatDoorBst
set_option linter.unusedVariables false
set_option linter.unusedSimpArgs false
namespace Go.Proofs.YtmfmomfhiieilaaGreatDoor
open Go.RowKit Go.Shelf Go.Proofs.YtmfmomfhiieilaaGreatDoor.It Go.Proofs.YtmfmomfhiieilaaGreatDoorW.PrintWords
namespace Sh
section
variable {P : Program} {ops : Array Oper} {Q : Exit → Act → World → Prop}
/-- A list of plain operations, run one after the other. -/
def runOps (P : Program) : List Oper → Act → World → Option (Act × World)
  | [], a, w => some (a, w)
  | o :: l, a, w => match o.guard, (execOp a.eval o).run P w with
    | none, .ok (.value v) w1 => runOps P l (a.put o.dst v) w1
    | _, _ => none
theorem wpList_all : ∀ (L : List Oper) {a : Act} {w : World} (a' : Act) (w' : World), runOps P L a w = some (a', w') → Q .normal a' w' → wpList P ops Q L a w := by
  intro L
  induction L with
  | nil =>
    intro a w a' w' h hk
    cases h
    exact wpList_nil hk
  | cons o l ih =>
    intro a w a' w' h hk
    unfold runOps at h
    split at h
    · rename_i v w1 hg hr
      exact Kd.event_run hg hr (ih _ _ h hk)
    · cases h
end
def rRows : List (Int × FR) := fRows1.map (fun r => (1, r)) ++ fRows2.map (fun r => (2, r))
def rCell (p : Int × FR) : List Value := [.int .i64 p.1, .int .u16 p.2.ty, .string p.2.nm, .int .i64 p.2.least, .int .i64 p.2.most, .int .i64 p.2.unit, .int .i64 p.2.kids]
def rCells : Array Value := (rRows.flatMap rCell).toArray
def RTabPost (n : Nat) (cells : Array Value) (t : Nat) (w : World) (e : Ending) (w' : World) : Prop := ∃ b : Nat, w.heap.size ≤ b ∧ e = .returned (.slice (some ⟨b, 0, none⟩) n n) ∧ w'.heap[b]? = some (.cells cells t (0, 0)) ∧ Below w.heap.size w w'
def rtabFrame (b0 : Nat) : Array Value := #[.slice (some ⟨b0, 0, none⟩) 46 46, .int .i64 65531, .int .i64 65531, .agg #[.int .i64 1, .int .u16 1, .string ⟨#[104, 101, 97, 114, 116, 98, 101, 97, 116, 45, 105, 110, 102, 111]⟩, .int .i64 0, .int .i64 65531, .int .i64 1, .int .i64 0], .agg #[.int .i64 1, .int .u16 5, .string ⟨#[105, 112, 118, 52]⟩, .int .i64 4, .int .i64 4, .int .i64 1, .int .i64 0], .agg #[.int .i64 1, .int .u16 6, .string ⟨#[105, 112, 118, 54]⟩, .int .i64 16, .int .i64 16, .int .i64 1, .int .i64 0], .int .i64 65531, .agg #[.int .i64 1, .int .u16 7, .string ⟨#[115, 116, 97, 116, 101, 45, 99, 111, 111, 107, 105, 101]⟩, .int .i64 0, .int .i64 65531, .int .i64 1, .int .i64 0], .agg #[.int .i64 1, .int .u16 8, .string ⟨#[117, 110, 114, 101, 99, 111, 103, 110, 105, 122, 101, 100]⟩, .int .i64 0, .int .i64 0, .int .i64 1, .int .i64 1], .agg #[.int .i64 1, .int .u16 9, .string ⟨#[99, 111, 111, 107, 105, 101, 45, 112, 114, 101, 115, 101, 114, 118, 97, 116, 105, 118, 101]⟩, .int .i64 4, .int .i64 4, .int .i64 1, .int .i64 0], .int .i64 65531, .agg #[.int .i64 1, .int .u16 11, .string ⟨#[104, 111, 115, 116, 45, 110, 97, 109, 101]⟩, .int .i64 1, .int .i64 65531, .int .i64 1, .int .i64 0], .int .i64 65531, .agg #[.int .i64 1, .int .u16 12, .string ⟨#[97, 100, 100, 114, 101, 115, 115, 45, 116, 121, 112, 101, 115]⟩, .int .i64 2, .int .i64 65531, .int .i64 2, .int .i64 0], .int .i64 65531, .agg #[.int .i64 1, .int .u16 13, .string ⟨#[111, 117, 116, 103, 111, 105, 110, 103, 45, 114, 101, 115, 101, 116]⟩, .int .i64 12, .int .i64 65531, .int .i64 2, .int .i64 0], .int .i64 65531, .agg #[.int .i64 1, .int .u16 14, .string ⟨#[105, 110, 99, 111, 109, 105, 110, 103, 45, 114, 101, 115, 101, 116]⟩, .int .i64 4, .int .i64 65531, .int .i64 2, .int .i64 0], .agg #[.int .i64 1, .int .u16 15, .string ⟨#[116, 115, 110, 45, 114, 101, 115, 101, 116]⟩, .int .i64 4, .int .i64 4, .int .i64 1, .int .i64 0], .agg #[.int .i64 1, .int .u16 16, .string ⟨#[114, 101, 99, 111, 110, 102, 105, 103, 45, 114, 101, 115, 112, 111, 110, 115, 101]⟩, .int .i64 8, .int .i64 16, .int .i64 8, .int .i64 0], .agg #[.int .i64 1, .int .u16 17, .string ⟨#[97, 100, 100, 45, 111, 117, 116, 103, 111, 105, 110, 103]⟩, .int .i64 8, .int .i64 8, .int .i64 1, .int .i64 0], .agg #[.int .i64 1, .int .u16 18, .string ⟨#[97, 100, 100, 45, 105, 110, 99, 111, 109, 105, 110, 103]⟩, .int .i64 8, .int .i64 8, .int .i64 1, .int .i64 0], .agg #[.int .i64 1, .int .u16 32768, .string ⟨#[101, 99, 110]⟩, .int .i64 0, .int .i64 0, .int .i64 1, .int .i64 0], .int .i64 65531, .agg #[.int .i64 1, .int .u16 32770, .string ⟨#[114, 97, 110, 100, 111, 109]⟩, .int .i64 1, .int .i64 65531, .int .i64 1, .int .i64 0], .int .i64 65531, .agg #[.int .i64 1, .int .u16 32771, .string ⟨#[99, 104, 117, 110, 107, 45, 108, 105, 115, 116]⟩, .int .i64 0, .int .i64 65531, .int .i64 1, .int .i64 0], .int .i64 65531, .agg #[.int .i64 1, .int .u16 32772, .string ⟨#[104, 109, 97, 99, 45, 97, 108, 103, 111, 114, 105, 116, 104, 109, 115]⟩, .int .i64 2, .int .i64 65531, .int .i64 2, .int .i64 0], .int .i64 65531, .agg #[.int .i64 1, .int .u16 32773, .string ⟨#[112, 97, 100, 100, 105, 110, 103]⟩, .int .i64 0, .int .i64 65531, .int .i64 1, .int .i64 0], .int .i64 65531, .agg #[.int .i64 1, .int .u16 32776, .string ⟨#[101, 120, 116, 101, 110, 115, 105, 111, 110, 115]⟩, .int .i64 0, .int .i64 65531, .int .i64 1, .int .i64 0], .agg #[.int .i64 1, .int .u16 49152, .string ⟨#[102, 111, 114, 119, 97, 114, 100, 45, 116, 115, 110]⟩, .int .i64 0, .int .i64 0, .int .i64 1, .int .i64 0], .agg #[.int .i64 1, .int .u16 49153, .string ⟨#[97, 100, 100, 45, 105, 112]⟩, .int .i64 4, .int .i64 4, .int .i64 1, .int .i64 4], .agg #[.int .i64 1, .int .u16 49154, .string ⟨#[100, 101, 108, 101, 116, 101, 45, 105, 112]⟩, .int .i64 4, .int .i64 4, .int .i64 1, .int .i64 4], .agg #[.int .i64 1, .int .u16 49155, .string ⟨#[101, 114, 114, 111, 114, 45, 105, 110, 100, 105, 99, 97, 116, 105, 111, 110]⟩, .int .i64 4, .int .i64 4, .int .i64 1, .int .i64 3], .agg #[.int .i64 1, .int .u16 49156, .string ⟨#[115, 101, 116, 45, 112, 114, 105, 109, 97, 114, 121]⟩, .int .i64 4, .int .i64 4, .int .i64 1, .int .i64 4], .agg #[.int .i64 1, .int .u16 49157, .string ⟨#[115, 117, 99, 99, 101, 115, 115]⟩, .int .i64 4, .int .i64 4, .int .i64 1, .int .i64 0], .agg #[.int .i64 1, .int .u16 49158, .string ⟨#[97, 100, 97, 112, 116, 97, 116, 105, 111, 110]⟩, .int .i64 4, .int .i64 4, .int .i64 1, .int .i64 0], .agg #[.int .i64 2, .int .u16 1, .string ⟨#[105, 110, 118, 97, 108, 105, 100, 45, 115, 116, 114, 101, 97, 109]⟩, .int .i64 4, .int .i64 4, .int .i64 1, .int .i64 0], .int .i64 65531, .agg #[.int .i64 2, .int .u16 2, .string ⟨#[109, 105, 115, 115, 105, 110, 103, 45, 112, 97, 114, 97, 109, 101, 116, 101, 114]⟩, .int .i64 6, .int .i64 65531, .int .i64 2, .int .i64 0], .agg #[.int .i64 2, .int .u16 3, .string ⟨#[115, 116, 97, 108, 101, 45, 99, 111, 111, 107, 105, 101]⟩, .int .i64 4, .int .i64 4, .int .i64 1, .int .i64 0], .agg #[.int .i64 2, .int .u16 4, .string ⟨#[111, 117, 116, 45, 111, 102, 45, 114, 101, 115, 111, 117, 114, 99, 101]⟩, .int .i64 0, .int .i64 0, .int .i64 1, .int .i64 0], .agg #[.int .i64 2, .int .u16 5, .string ⟨#[117, 110, 114, 101, 115, 111, 108, 118, 97, 98, 108, 101, 45, 97, 100, 100, 114, 101, 115, 115]⟩, .int .i64 0, .int .i64 0, .int .i64 1, .int .i64 1], .int .i64 65531, .agg #[.int .i64 2, .int .u16 6, .string ⟨#[117, 110, 114, 101, 99, 111, 103, 110, 105, 122, 101, 100, 45, 99, 104, 117, 110, 107]⟩, .int .i64 4, .int .i64 65531, .int .i64 1, .int .i64 0], .agg #[.int .i64 2, .int .u16 7, .string ⟨#[105, 110, 118, 97, 108, 105, 100, 45, 112, 97, 114, 97, 109, 101, 116, 101, 114]⟩, .int .i64 0, .int .i64 0, .int .i64 1, .int .i64 0], .agg #[.int .i64 2, .int .u16 8, .string ⟨#[117, 110, 114, 101, 99, 111, 103, 110, 105, 122, 101, 100, 45, 112, 97, 114, 97, 109, 101, 116, 101, 114, 115]⟩, .int .i64 0, .int .i64 0, .int .i64 1, .int .i64 2], .agg #[.int .i64 2, .int .u16 9, .string ⟨#[110, 111, 45, 117, 115, 101, 114, 45, 100, 97, 116, 97]⟩, .int .i64 4, .int .i64 4, .int .i64 1, .int .i64 0], .agg #[.int .i64 2, .int .u16 10, .string ⟨#[99, 111, 111, 107, 105, 101, 45, 119, 104, 105, 108, 101, 45, 115, 104, 117, 116, 116, 105, 110, 103, 45, 100, 111, 119, 110]⟩, .int .i64 0, .int .i64 0, .int .i64 1, .int .i64 0], .agg #[.int .i64 2, .int .u16 11, .string ⟨#[114, 101, 115, 116, 97, 114, 116]⟩, .int .i64 0, .int .i64 0, .int .i64 1, .int .i64 2], .int .i64 65531, .agg #[.int .i64 2, .int .u16 12, .string ⟨#[117, 115, 101, 114, 45, 97, 98, 111, 114, 116]⟩, .int .i64 0, .int .i64 65531, .int .i64 1, .int .i64 0], .int .i64 65531, .agg #[.int .i64 2, .int .u16 13, .string ⟨#[112, 114, 111, 116, 111, 99, 111, 108, 45, 118, 105, 111, 108, 97, 116, 105, 111, 110]⟩, .int .i64 0, .int .i64 65531, .int .i64 1, .int .i64 0], .agg #[.int .i64 2, .int .u16 160, .string ⟨#[100, 101, 108, 101, 116, 101, 45, 108, 97, 115, 116, 45, 97, 100, 100, 114, 101, 115, 115]⟩, .int .i64 0, .int .i64 0, .int .i64 1, .int .i64 1], .int .i64 65531, .agg #[.int .i64 2, .int .u16 161, .string ⟨#[114, 101, 115, 111, 117, 114, 99, 101, 45, 115, 104, 111, 114, 116, 97, 103, 101]⟩, .int .i64 0, .int .i64 65531, .int .i64 1, .int .i64 0], .agg #[.int .i64 2, .int .u16 162, .string ⟨#[100, 101, 108, 101, 116, 101, 45, 115, 111, 117, 114, 99, 101, 45, 97, 100, 100, 114, 101, 115, 115]⟩, .int .i64 0, .int .i64 0, .int .i64 1, .int .i64 1], .int .i64 65531, .agg #[.int .i64 2, .int .u16 163, .string ⟨#[105, 108, 108, 101, 103, 97, 108, 45, 97, 115, 99, 111, 110, 102, 45, 97, 99, 107]⟩, .int .i64 0, .int .i64 65531, .int .i64 1, .int .i64 0], .int .i64 65531, .agg #[.int .i64 2, .int .u16 164, .string ⟨#[110, 111, 45, 97, 117, 116, 104, 111, 114, 105, 122, 97, 116, 105, 111, 110]⟩, .int .i64 0, .int .i64 65531, .int .i64 1, .int .i64 0], .agg #[.int .i64 2, .int .u16 261, .string ⟨#[117, 110, 115, 117, 112, 112, 111, 114, 116, 101, 100, 45, 104, 109, 97, 99]⟩, .int .i64 2, .int .i64 2, .int .i64 1, .int .i64 0], .slice (some ⟨b0, 0, none⟩) 46 46]
theorem rtab_fold (w : World) {ops : Array Oper} {Q : Exit → Act → World → Prop} (L : List Oper) (a : Act) (h : runOps Tryz.prog L a w = some (⟨rtabFrame w.heap.size, []⟩, w.alloc (.cells rCells 180))) (hk : Q .normal ⟨rtabFrame w.heap.size, []⟩ (w.alloc (.cells rCells 180))) : wpList Tryz.prog ops Q L a w :=
  wpList_all L _ _ h hk
set_option maxHeartbeats 1000000 in
set_option maxRecDepth 100000 in
theorem rtab_any (w : World) : Calls Tryz.prog 125 #[] w (RTabPost 46 rCells 180 w) := by
  go_enter Tryz.func125, Tryz.ntmps125
  iterate 18 go_step
  try apply wp_region_lit
  refine rtab_fold w _ _ (by kernel_rfl) ?_
  go_step
  go_step
  go_step
  refine bodyPost_ret (v := .slice (some ⟨w.heap.size, 0, none⟩) 46 46) (by kernel_rfl) rfl ⟨_, Nat.le_refl _, rfl, heap_alloc_new _ _, (Below.refl _ _).alloc (Nat.le_refl _) _⟩

theorem flat7 {α : Type} (f : α → List Value) (hf : ∀ x, (f x).length = 7) (l : List α) : ∀ (i : Nat) (x : α), l[i]? = some x → ∀ j, j < 7 → (l.flatMap f).toArray[i * 7 + j]? = (f x)[j]? := by
  induction l with
  | nil => intro i x h; simp at h
  | cons r l ih =>
    intro i x h j hj
    rw [List.flatMap_cons, List.getElem?_toArray]
    cases i with
    | zero =>
      simp only [List.getElem?_cons_zero, Option.some.injEq] at h
      subst h
      rw [Nat.zero_mul, Nat.zero_add, List.getElem?_append_left (by rw [hf]; exact hj)]
    | succ i =>
      have := ih i x (by simpa using h) j hj
      rw [List.getElem?_toArray] at this
      rw [List.getElem?_append_right (by rw [hf]; omega), ← this, hf]
      congr 1
      omega
theorem rrow_at {w : World} {b : Nat} (h : w.heap[b]? = some (.cells rCells 180 (0, 0))) (i : Nat) (k : Int) (r : FR) (hr : rRows[i]? = some (k, r)) :
    w.cell? ⟨b, i * 7, none⟩ = some (.int .i64 k) ∧ w.cell? ⟨b, i * 7 + 1, none⟩ = some (.int .u16 r.ty) ∧ w.cell? ⟨b, i * 7 + 2, none⟩ = some (.string r.nm) ∧ w.cell? ⟨b, i * 7 + 3, none⟩ = some (.int .i64 r.least) ∧
    w.cell? ⟨b, i * 7 + 4, none⟩ = some (.int .i64 r.most) ∧ w.cell? ⟨b, i * 7 + 5, none⟩ = some (.int .i64 r.unit) ∧ w.cell? ⟨b, i * 7 + 6, none⟩ = some (.int .i64 r.kids) := by
  have hc : ∀ j, j < 7 → w.cell? ⟨b, i * 7 + j, none⟩ = (rCell (k, r))[j]? := fun j hj => by
    rw [← flat7 rCell (fun _ => rfl) rRows i (k, r) hr j hj]
    simp [World.cell?, h, rCells]
  exact ⟨hc 0 (by omega), hc 1 (by omega), hc 2 (by omega), hc 3 (by omega), hc 4 (by omega), hc 5 (by omega), hc 6 (by omega)⟩
/-- None of the first i of a list is wanted. -/
def NoneOf {α : Type} (p : α → Bool) (l : List α) (i : Nat) : Prop := ∀ a x, l[a]? = some x → a < i → p x = false
theorem NoneOf.zero {α : Type} (p : α → Bool) (l : List α) : NoneOf p l 0 := fun a x _ h => by omega
theorem NoneOf.step {α : Type} {p : α → Bool} {l : List α} {i : Nat} {x : α} (h : NoneOf p l i) (hx : l[i]? = some x) (hp : p x = false) : NoneOf p l (i + 1) := fun a y hy ha => by
  rcases Nat.lt_or_ge a i with g | g
  · exact h a y hy g
  · obtain rfl : a = i := by omega
    rw [hx] at hy
    cases hy
    exact hp
theorem NoneOf.found {α : Type} {p : α → Bool} : ∀ {l : List α} {i : Nat} {x : α}, NoneOf p l i → l[i]? = some x → p x = true → l.find? p = some x := by
  intro l
  induction l with
  | nil => intro i x _ h; simp at h
  | cons y l ih =>
    intro i x h hx hp
    cases i with
    | zero =>
      simp only [List.getElem?_cons_zero, Option.some.injEq] at hx
      subst hx
      rw [List.find?_cons, hp]
    | succ i =>
      rw [List.find?_cons, h 0 y rfl (by omega)]
      exact ih (i := i) (fun a z hz ha => h (a + 1) z (by simpa using hz) (Nat.succ_lt_succ ha)) (by simpa using hx) hp
theorem NoneOf.all {α : Type} {p : α → Bool} {l : List α} {n : Nat} (h : NoneOf p l n) (hn : l.length ≤ n) : l.find? p = none := by
  rw [List.find?_eq_none]
  intro x hx
  obtain ⟨a, ha, rfl⟩ := List.getElem_of_mem hx
  have := h a _ (List.getElem?_eq_getElem ha) (Nat.lt_of_lt_of_le ha hn)
  rw [this]
  simp
theorem rRows_len : rRows.length = 46 := rfl
def rIs (c t : Int) (p : Int × FR) : Bool := p.1 == c && p.2.ty == t
/-- The reference's form. -/
def rAt (c t : Int) : Int × FR := (rRows.find? (rIs c t)).getD (0, fZ)
def RFPost (c t : Int) (w : World) (e : Ending) (w' : World) : Prop := ∃ (k : Int) (r : FR), (k, r) = rAt c t ∧ e = .returned (.agg #[.int .i64 k, .int .u16 r.ty, .string r.nm, .int .i64 r.least, .int .i64 r.most, .int .i64 r.unit, .int .i64 r.kids]) ∧ Below w.heap.size w w'
set_option maxHeartbeats 1000000 in
theorem rfof_any (c t : Int) (w : World) : Calls Tryz.prog 111 #[.int .i64 c, .int .u16 t] w (RFPost c t w) := by
  go_enter Tryz.func111, Tryz.ntmps111
  go_wp2_with fail
  refine (rtab_any _).mono ?_
  rintro e w1 ⟨b, hb0, rfl, hc, hB⟩
  have HC := hid hc
  have s7 := seven (new_blk hB)
  have hsz : w.heap.size < w1.heap.size := by have := hB.size; simp at this; omega
  have HB := hid (((Below.refl w.heap.size w).alloc (Nat.le_refl _) _).trans (hB.mono (by simp)))
  clear hB hc
  go_wp2_with fail
  go_loop [6] (fun vi => ∃ i : Nat, vi = .int .i64 i ∧ i ≤ 46 ∧ NoneOf (rIs c t) rRows i) (fun vi => 46 - (intOf vi).toNat)
  case atStart => exact ⟨0, rfl, by omega, NoneOf.zero _ _⟩
  case round =>
    obtain ⟨i, rfl, hi, hn⟩ := hrel
    by_cases hlt : i < 46
    · obtain ⟨k, r, hr⟩ : ∃ k r, rRows[i]? = some (k, r) := ⟨_, _, List.getElem?_eq_getElem (by rw [rRows_len]; exact hlt)⟩
      have cs := rrow_at HC.out i k r hr
      have hr' := hid hr
      clear hr
      cases hx : (k == c)
      · have hx' := hid (show rIs c t (k, r) = false by simp only [rIs, hx]; rfl)
        go_wp2_with fail
        go_round
        case rel => exact ⟨i + 1, by go_num, by omega, hn.step hr'.out hx'.out⟩
        case measure => simp [intOf]; omega
      · cases hy : (r.ty == t)
        · have hx' := hid (show rIs c t (k, r) = false by simp only [rIs, hx, hy]; rfl)
          go_wp2_with fail
          go_round
          case rel => exact ⟨i + 1, by go_num, by omega, hn.step hr'.out hx'.out⟩
          case measure => simp [intOf]; omega
        · have hx' := hid (show rIs c t (k, r) = true by simp only [rIs, hx, hy]; rfl)
          go_wp2_with fail
          have hf := hn.found hr'.out hx'.out
          refine bodyPost_ret (v := .agg #[.int .i64 k, .int .u16 r.ty, .string r.nm, .int .i64 r.least, .int .i64 r.most, .int .i64 r.unit, .int .i64 r.kids]) (by simp [results, Tryz.results111, go_sem, s7]) rfl ⟨k, r, by unfold rAt; rw [hf]; rfl, rfl, ?_⟩
          repeat (first | with_reducible exact HB.out | with_reducible apply below_alloc | with_reducible apply below_set0)
    · obtain rfl : i = 46 := by omega
      go_wp2_with fail
      have hf := hn.all (by rw [rRows_len]; exact Nat.le_refl _)
      refine bodyPost_ret (v := .agg #[.int .i64 0, .int .u16 fZ.ty, .string fZ.nm, .int .i64 fZ.least, .int .i64 fZ.most, .int .i64 fZ.unit, .int .i64 fZ.kids]) (by simp [results, Tryz.results111, go_sem, s7, fZ]) rfl ⟨0, fZ, by unfold rAt; rw [hf]; rfl, rfl, ?_⟩
      repeat (first | with_reducible exact HB.out | with_reducible apply below_alloc | with_reducible apply below_set0)

/-! ### the two sides agree -/
theorem find_class (c t : Int) (h : c = 1 ∨ c = 2) : rRows.find? (rIs c t) = (((fRowsOf c).find? (fun r => r.ty == t)).map fun r => (c, r)) := by
  have hm : ∀ (k : Int) (l : List FR), (l.map fun r => (k, r)).find? (rIs c t) = if k = c then (l.find? (fun r => r.ty == t)).map (fun r => (k, r)) else none := by
    intro k l
    rw [List.find?_map]
    split
    · rename_i h
      have hp : (rIs c t ∘ fun r : FR => (k, r)) = fun r => r.ty == t := by
        funext x
        simp [rIs, h]
      rw [hp]
    · rename_i h
      rw [List.find?_eq_none.2 (by intro x _; simp [rIs, h])]
      rfl
  unfold rRows
  rw [List.find?_append, hm, hm]
  rcases h with rfl | rfl <;> simp [fRowsOf]
theorem nodup1 : (fRows1.map (·.ty)).Nodup := by decide
theorem nodup2 : (fRows2.map (·.ty)).Nodup := by decide
theorem find_rev (l : List FR) (t : Int) (h : (l.map (·.ty)).Nodup) : l.reverse.find? (fun r => r.ty == t) = l.find? (fun r => r.ty == t) := by
  induction l with
  | nil => rfl
  | cons r l ih =>
    rw [List.map_cons, List.nodup_cons] at h
    rw [List.reverse_cons, List.find?_append, ih h.2, List.find?_cons]
    by_cases e : r.ty = t
    · have : l.find? (fun r => r.ty == t) = none := by
        rw [List.find?_eq_none]
        intro x hx
        simp only [beq_iff_eq]
        intro hxt
        exact h.1 (by rw [e, ← hxt]; exact List.mem_map_of_mem hx)
      rw [this]
      simp [e]
    · have e2 : (r.ty == t) = false := by simp [e]
      rw [e2]
      rw [List.find?_cons, e2]
      simp
theorem fRowsOf_nodup (c : Int) : ((fRowsOf c).map (·.ty)).Nodup := by
  unfold fRowsOf
  split
  · exact nodup1
  · split
    · exact nodup2
    · exact List.nodup_nil
/-- The reference's look-up is the program's. -/
theorem rAt_eq (c t : Int) : rAt c t = fAt c t := by
  unfold rAt fAt fFindIn
  rw [find_rev _ _ (fRowsOf_nodup c)]
  by_cases h : c = 1 ∨ c = 2
  · rw [find_class c t h]
    cases (fRowsOf c).find? (fun r => r.ty == t) <;> rfl
  · have hr : fRowsOf c = [] := by unfold fRowsOf; rw [if_neg (by omega), if_neg (by omega)]
    rw [hr]
    have hn : rRows.find? (rIs c t) = none := by
      rw [List.find?_eq_none]
      intro p hp
      have : p.1 = 1 ∨ p.1 = 2 := by
        unfold rRows at hp
        rw [List.mem_append, List.mem_map, List.mem_map] at hp
        rcases hp with ⟨_, _, rfl⟩ | ⟨_, _, rfl⟩ <;> simp
      unfold rIs
      simp
      omega
    rw [hn]
    rfl
end Sh
end Go.Proofs.YtmfmomfhiieilaaGreatDoor
