/- The reference's table of kinds, and its look-up. -/
import Derived.Test.YtcjcgehhmjnlcaaGreatDoorMa
import Derived.Test.YtcjcgehhmjnlcaaGreatDoorMd
import Derived.Test.YtcjcgehhmjnlcaaGreatDoorQfc
set_option linter.unusedVariables false
namespace Go.Proofs.YtcjcgehhmjnlcaaGreatDoor
open Go.RowKit Go.Proofs.YtcjcgehhmjnlcaaGreatDoorW.PrintWords
theorem below_set0 {w W : World} {j : Nat} {u : Value} (h : Below w.heap.size w W) : Below w.heap.size w (W.setCell ⟨w.heap.size, j, none⟩ u) := below_set h (Nat.le_refl _) u
section
variable {P : Program} {ops : Array Oper} {Q : Exit → Act → World → Prop}
/-- A list of plain operations, run one after the other. -/
def runOps (P : Program) : List Oper → Act → World → Option (Act × World)
  | [], a, w => some (a, w)
  | o :: l, a, w => match o.guard, (execOp a.eval o).run P w with
    | none, .ok (.value v) w1 => runOps P l (a.put o.dst v) w1
    | _, _ => none
theorem wpList_all : ∀ (L : List Oper) {a : Act} {w : World} (a' : Act) (w' : World), runOps P L a w = some (a', w') → Q .normal a' w' → wpList P ops Q L a w := by
  intro L
  induction L with
  | nil =>
    intro a w a' w' h hk
    cases h
    exact wpList_nil hk
  | cons o l ih =>
    intro a w a' w' h hk
    unfold runOps at h
    split at h
    · rename_i v w1 hg hr
      exact Kd.event_run hg hr (ih _ _ h hk)
    · cases h
end
def kCell (r : KR) : List Value := [.int .u8 r.ty, .string r.nm, .int .u8 r.mask, .int .i64 r.least, .int .i64 r.most, .int .i64 r.unit, .int .i64 r.kids]
def kCells : Array Value := (kRows.flatMap kCell).toArray
def RTabPost (n : Nat) (cells : Array Value) (t : Nat) (w : World) (e : Ending) (w' : World) : Prop := ∃ b : Nat, w.heap.size ≤ b ∧ e = .returned (.slice (some ⟨b, 0, none⟩) n n) ∧ w'.heap[b]? = some (.cells cells t (0, 0)) ∧ Below w.heap.size w w'
def ktabFrame (b0 : Nat) : Array Value := #[.slice (some ⟨b0, 0, none⟩) 23 23, .int .i64 65531, .int .i64 65531, .agg #[.int .u8 0, .string ⟨#[100, 97, 116, 97]⟩, .int .u8 15, .int .i64 13, .int .i64 65531, .int .i64 1, .int .i64 0], .agg #[.int .u8 1, .string ⟨#[105, 110, 105, 116]⟩, .int .u8 0, .int .i64 16, .int .i64 16, .int .i64 1, .int .i64 2], .agg #[.int .u8 2, .string ⟨#[105, 110, 105, 116, 45, 97, 99, 107]⟩, .int .u8 0, .int .i64 16, .int .i64 16, .int .i64 1, .int .i64 2], .int .i64 65531, .agg #[.int .u8 3, .string ⟨#[115, 97, 99, 107]⟩, .int .u8 0, .int .i64 12, .int .i64 65531, .int .i64 4, .int .i64 0], .agg #[.int .u8 4, .string ⟨#[104, 101, 97, 114, 116, 98, 101, 97, 116]⟩, .int .u8 0, .int .i64 0, .int .i64 0, .int .i64 1, .int .i64 1], .agg #[.int .u8 5, .string ⟨#[104, 101, 97, 114, 116, 98, 101, 97, 116, 45, 97, 99, 107]⟩, .int .u8 0, .int .i64 0, .int .i64 0, .int .i64 1, .int .i64 1], .agg #[.int .u8 6, .string ⟨#[97, 98, 111, 114, 116]⟩, .int .u8 1, .int .i64 0, .int .i64 0, .int .i64 1, .int .i64 3], .agg #[.int .u8 7, .string ⟨#[115, 104, 117, 116, 100, 111, 119, 110]⟩, .int .u8 0, .int .i64 4, .int .i64 4, .int .i64 1, .int .i64 0], .agg #[.int .u8 8, .string ⟨#[115, 104, 117, 116, 100, 111, 119, 110, 45, 97, 99, 107]⟩, .int .u8 0, .int .i64 0, .int .i64 0, .int .i64 1, .int .i64 0], .agg #[.int .u8 9, .string ⟨#[101, 114, 114, 111, 114]⟩, .int .u8 0, .int .i64 0, .int .i64 0, .int .i64 1, .int .i64 4], .int .i64 65531, .agg #[.int .u8 10, .string ⟨#[99, 111, 111, 107, 105, 101, 45, 101, 99, 104, 111]⟩, .int .u8 0, .int .i64 1, .int .i64 65531, .int .i64 1, .int .i64 0], .agg #[.int .u8 11, .string ⟨#[99, 111, 111, 107, 105, 101, 45, 97, 99, 107]⟩, .int .u8 0, .int .i64 0, .int .i64 0, .int .i64 1, .int .i64 0], .agg #[.int .u8 12, .string ⟨#[101, 99, 110, 101]⟩, .int .u8 0, .int .i64 4, .int .i64 4, .int .i64 1, .int .i64 0], .agg #[.int .u8 13, .string ⟨#[99, 119, 114]⟩, .int .u8 0, .int .i64 4, .int .i64 4, .int .i64 1, .int .i64 0], .agg #[.int .u8 14, .string ⟨#[115, 104, 117, 116, 100, 111, 119, 110, 45, 99, 111, 109, 112, 108, 101, 116, 101]⟩, .int .u8 1, .int .i64 0, .int .i64 0, .int .i64 1, .int .i64 0], .int .i64 65531, .agg #[.int .u8 15, .string ⟨#[97, 117, 116, 104]⟩, .int .u8 0, .int .i64 5, .int .i64 65531, .int .i64 1, .int .i64 0], .int .i64 65531, .agg #[.int .u8 64, .string ⟨#[105, 45, 100, 97, 116, 97]⟩, .int .u8 15, .int .i64 17, .int .i64 65531, .int .i64 1, .int .i64 0], .agg #[.int .u8 128, .string ⟨#[97, 115, 99, 111, 110, 102, 45, 97, 99, 107]⟩, .int .u8 0, .int .i64 4, .int .i64 4, .int .i64 1, .int .i64 2], .agg #[.int .u8 130, .string ⟨#[114, 101, 45, 99, 111, 110, 102, 105, 103]⟩, .int .u8 0, .int .i64 0, .int .i64 0, .int .i64 1, .int .i64 5], .int .i64 65531, .agg #[.int .u8 132, .string ⟨#[112, 97, 100]⟩, .int .u8 0, .int .i64 0, .int .i64 65531, .int .i64 1, .int .i64 0], .int .i64 65531, .agg #[.int .u8 192, .string ⟨#[102, 111, 114, 119, 97, 114, 100, 45, 116, 115, 110]⟩, .int .u8 0, .int .i64 4, .int .i64 65531, .int .i64 4, .int .i64 0], .agg #[.int .u8 193, .string ⟨#[97, 115, 99, 111, 110, 102]⟩, .int .u8 0, .int .i64 4, .int .i64 4, .int .i64 1, .int .i64 6], .int .i64 65531, .agg #[.int .u8 194, .string ⟨#[105, 45, 102, 111, 114, 119, 97, 114, 100, 45, 116, 115, 110]⟩, .int .u8 0, .int .i64 4, .int .i64 65531, .int .i64 8, .int .i64 0], .slice (some ⟨b0, 0, none⟩) 23 23]
theorem ktab_fold (w : World) {ops : Array Oper} {Q : Exit → Act → World → Prop} (L : List Oper) (a : Act) (h : runOps Tryz.prog L a w = some (⟨ktabFrame w.heap.size, []⟩, w.alloc (.cells kCells 117))) (hk : Q .normal ⟨ktabFrame w.heap.size, []⟩ (w.alloc (.cells kCells 117))) : wpList Tryz.prog ops Q L a w :=
  wpList_all L _ _ h hk
set_option maxHeartbeats 1000000 in
set_option maxRecDepth 100000 in
theorem ktab_any (w : World) : Calls Tryz.prog 108 #[] w (RTabPost 23 kCells 117 w) := by
  go_enter Tryz.func108, Tryz.ntmps108
  iterate 18 go_step
  try apply wp_region_lit
  refine ktab_fold w _ _ (by kernel_rfl) ?_
  go_step
  go_step
  go_step
  refine bodyPost_ret (v := .slice (some ⟨w.heap.size, 0, none⟩) 23 23) (by kernel_rfl) rfl ⟨_, Nat.le_refl _, rfl, heap_alloc_new _ _, (Below.refl _ _).alloc (Nat.le_refl _) _⟩
theorem flat7 {α : Type} (f : α → List Value) (hf : ∀ x, (f x).length = 7) (l : List α) : ∀ (i : Nat) (x : α), l[i]? = some x → ∀ j, j < 7 → (l.flatMap f).toArray[i * 7 + j]? = (f x)[j]? := by
  induction l with
  | nil => intro i x h; simp at h
  | cons r l ih =>
    intro i x h j hj
    rw [List.flatMap_cons, List.getElem?_toArray]
    cases i with
    | zero =>
      simp only [List.getElem?_cons_zero, Option.some.injEq] at h
      subst h
      rw [Nat.zero_mul, Nat.zero_add, List.getElem?_append_left (by rw [hf]; exact hj)]
    | succ i =>
      have := ih i x (by simpa using h) j hj
      rw [List.getElem?_toArray] at this
      rw [List.getElem?_append_right (by rw [hf]; omega), ← this, hf]
      congr 1
      omega
theorem krow_at {w : World} {b : Nat} (h : w.heap[b]? = some (.cells kCells 117 (0, 0))) (i : Nat) (r : KR) (hr : kRows[i]? = some r) :
    w.cell? ⟨b, i * 7, none⟩ = some (.int .u8 r.ty) ∧ w.cell? ⟨b, i * 7 + 1, none⟩ = some (.string r.nm) ∧ w.cell? ⟨b, i * 7 + 2, none⟩ = some (.int .u8 r.mask) ∧ w.cell? ⟨b, i * 7 + 3, none⟩ = some (.int .i64 r.least) ∧
    w.cell? ⟨b, i * 7 + 4, none⟩ = some (.int .i64 r.most) ∧ w.cell? ⟨b, i * 7 + 5, none⟩ = some (.int .i64 r.unit) ∧ w.cell? ⟨b, i * 7 + 6, none⟩ = some (.int .i64 r.kids) := by
  have hc : ∀ j, j < 7 → w.cell? ⟨b, i * 7 + j, none⟩ = (kCell r)[j]? := fun j hj => by
    rw [← flat7 kCell (fun _ => rfl) kRows i r hr j hj]
    simp [World.cell?, h, kCells]
  exact ⟨hc 0 (by omega), hc 1 (by omega), hc 2 (by omega), hc 3 (by omega), hc 4 (by omega), hc 5 (by omega), hc 6 (by omega)⟩
/-- None of the first i of a list is wanted. -/
def NoneOf {α : Type} (p : α → Bool) (l : List α) (i : Nat) : Prop := ∀ a x, l[a]? = some x → a < i → p x = false
theorem NoneOf.zero {α : Type} (p : α → Bool) (l : List α) : NoneOf p l 0 := fun a x _ h => by omega
theorem NoneOf.step {α : Type} {p : α → Bool} {l : List α} {i : Nat} {x : α} (h : NoneOf p l i) (hx : l[i]? = some x) (hp : p x = false) : NoneOf p l (i + 1) := fun a y hy ha => by
  rcases Nat.lt_or_ge a i with g | g
  · exact h a y hy g
  · obtain rfl : a = i := by omega
    rw [hx] at hy
    cases hy
    exact hp
theorem NoneOf.found {α : Type} {p : α → Bool} : ∀ {l : List α} {i : Nat} {x : α}, NoneOf p l i → l[i]? = some x → p x = true → l.find? p = some x := by
  intro l
  induction l with
  | nil => intro i x _ h; simp at h
  | cons y l ih =>
    intro i x h hx hp
    cases i with
    | zero =>
      simp only [List.getElem?_cons_zero, Option.some.injEq] at hx
      subst hx
      rw [List.find?_cons, hp]
    | succ i =>
      rw [List.find?_cons, h 0 y rfl (by omega)]
      exact ih (i := i) (fun a z hz ha => h (a + 1) z (by simpa using hz) (Nat.succ_lt_succ ha)) (by simpa using hx) hp
theorem NoneOf.all {α : Type} {p : α → Bool} {l : List α} {n : Nat} (h : NoneOf p l n) (hn : l.length ≤ n) : l.find? p = none := by
  rw [List.find?_eq_none]
  intro x hx
  obtain ⟨a, ha, rfl⟩ := List.getElem_of_mem hx
  have := h a _ (List.getElem?_eq_getElem ha) (Nat.lt_of_lt_of_le ha hn)
  rw [this]
  simp
def kIs (t : Int) (r : KR) : Bool := r.ty == t
/-- What 'wharfref11.Of' gives. -/
def ROfPost (t : Int) (w : World) (e : Ending) (w' : World) : Prop := ∃ (r : KR) (b : Bool), r = (kRows.find? (kIs t)).getD kZ ∧ b = (kRows.find? (kIs t)).isSome ∧ e = .returned (.tuple #[.agg #[.int .u8 r.ty, .string r.nm, .int .u8 r.mask, .int .i64 r.least, .int .i64 r.most, .int .i64 r.unit, .int .i64 r.kids], .bool b]) ∧ Below w.heap.size w w'
theorem kRows_len : kRows.length = 23 := rfl
set_option maxHeartbeats 1000000 in
theorem rof_any (t : Int) (w : World) : Calls Tryz.prog 70 #[.int .u8 t] w (ROfPost t w) := by
  go_enter Tryz.func70, Tryz.ntmps70
  go_wp2_with fail
  refine (ktab_any _).mono ?_
  rintro e w1 ⟨b, hb0, rfl, hc, hB⟩
  have HC := hid hc
  have s7 := seven (new_blk hB)
  have hsz : w.heap.size < w1.heap.size := by have := hB.size; simp at this; omega
  have HB := hid (((Below.refl w.heap.size w).alloc (Nat.le_refl _) _).trans (hB.mono (by simp)))
  clear hB hc
  go_wp2_with fail
  go_loop [5] (fun vi => ∃ i : Nat, vi = .int .i64 i ∧ i ≤ 23 ∧ NoneOf (kIs t) kRows i) (fun vi => 23 - (intOf vi).toNat)
  case atStart => exact ⟨0, rfl, by omega, NoneOf.zero _ _⟩
  case round =>
    obtain ⟨i, rfl, hi, hn⟩ := hrel
    by_cases hlt : i < 23
    · obtain ⟨r, hr⟩ : ∃ r, kRows[i]? = some r := ⟨_, List.getElem?_eq_getElem (by rw [kRows_len]; exact hlt)⟩
      have cs := krow_at HC.out i r hr
      have hr' := hid hr
      clear hr
      cases hx : kIs t r
      · have hx1 : (r.ty == t) = false := hx
        have hx' := hid hx
        clear hx
        go_wp2_with fail
        go_round
        case rel => exact ⟨i + 1, by go_num, by omega, hn.step hr'.out hx'.out⟩
        case measure => simp [intOf]; omega
      · have hx1 : (r.ty == t) = true := hx
        have hx' := hid hx
        clear hx
        go_wp2_with fail
        have hf := hn.found hr'.out hx'.out
        refine bodyPost_ret (v := .tuple #[.agg #[.int .u8 r.ty, .string r.nm, .int .u8 r.mask, .int .i64 r.least, .int .i64 r.most, .int .i64 r.unit, .int .i64 r.kids], .bool true]) (by simp [results, Tryz.results70, go_sem, s7]) rfl ⟨r, true, by rw [hf]; rfl, by rw [hf]; rfl, rfl, ?_⟩
        repeat (first | with_reducible exact HB.out | with_reducible apply below_alloc | with_reducible apply below_set0)
    · obtain rfl : i = 23 := by omega
      go_wp2_with fail
      have hf := hn.all (by rw [kRows_len]; exact Nat.le_refl _)
      refine bodyPost_ret (v := .tuple #[.agg #[.int .u8 kZ.ty, .string kZ.nm, .int .u8 kZ.mask, .int .i64 kZ.least, .int .i64 kZ.most, .int .i64 kZ.unit, .int .i64 kZ.kids], .bool false]) (by simp [results, Tryz.results70, go_sem, s7, kZ]) rfl ⟨kZ, false, by rw [hf]; rfl, by rw [hf]; rfl, rfl, ?_⟩
      repeat (first | with_reducible exact HB.out | with_reducible apply below_alloc | with_reducible apply below_set0)
end Go.Proofs.YtcjcgehhmjnlcaaGreatDoor
/- 'wharfref12.Check' at the forms without nodes, and its parts. -/
set_option linter.unusedVariables false
set_option linter.unusedSimpArgs false
namespace Go.Proofs.YtcjcgehhmjnlcaaGreatDoor
open Go.RowKit Go.Shelf Go.Proofs.YtcjcgehhmjnlcaaGreatDoor.It Go.Proofs.YtcjcgehhmjnlcaaGreatDoorW.PrintWords Go.Proofs.YtcjcgehhmjnlcaaGreatDoorW.PrintLast Go.Proofs.YtcjcgehhmjnlcaaGreatDoorW.PrintMore
theorem nat_eq0 (m : Nat) : ((m : Int) == 0) = (m == 0) := by
  rw [Bool.eq_iff_iff]
  simp
set_option maxHeartbeats 1000000 in
theorem rwanted_0 (r : KR) (K : Option Addr) (m d : Nat) (hk : r.kids = 0) (w : World) : Calls Tryz.prog 72 #[r.val, .slice K m d] w (IsPost (.bool (m == 0)) w) := by
  unfold KR.val
  rw [hk]
  go_enter Tryz.func72, Tryz.ntmps72
  go_wp2_with fail
  go_ret
  exact ⟨by rw [← nat_eq0]; rfl, below_alloc (Below.refl _ _) _⟩
set_option maxHeartbeats 1000000 in
theorem rclass_0 (w : World) : Calls Tryz.prog 76 #[.int .i64 0] w fun e w' => e = .returned (.int .i64 0) ∧ w' = w := by
  go_enter Tryz.func76, Tryz.ntmps76
  go_wp2_with fail
  go_ret
  exact ⟨rfl, rfl⟩
set_option maxHeartbeats 1000000 in
theorem rall_0 (k : Int) (K : Option Addr) (d : Nat) (w : World) : Calls Tryz.prog 75 #[.int .i64 k, .slice K 0 d] w fun e w' => e = .returned (.int .i64 0) ∧ w' = w := by
  go_enter Tryz.func75, Tryz.ntmps75
  go_wp2_with fail
  go_loop [5] (fun vi => vi = .int .i64 0) (fun vi => 0)
  case atStart => exact rfl
  case round =>
    obtain rfl := hrel
    go_wp2_with fail
    go_ret
    exact ⟨rfl, rfl⟩
set_option maxHeartbeats 1000000 in
theorem rsize08_0 (K : Option Addr) (d : Nat) (w : World) : Calls Tryz.prog 111 #[.slice K 0 d] w fun e w' => e = .returned (.int .i64 0) ∧ w' = w := by
  go_enter Tryz.func111, Tryz.ntmps111
  go_wp2_with fail
  go_loop [3, 4] (fun vn vi => vn = .int .i64 0 ∧ vi = .int .i64 0) (fun vn vi => 0)
  case atStart => exact ⟨rfl, rfl⟩
  case round =>
    obtain ⟨rfl, rfl⟩ := hrel
    go_wp2_with fail
    go_ret
    exact ⟨rfl, rfl⟩
set_option maxHeartbeats 1000000 in
theorem rsize_0 (t f : Int) (A K : Option Addr) (n c d : Nat) (w : World) (hn : n ≤ 1099511627776) : Calls Tryz.prog 77 #[ckV t f A n c K 0 d] w (IsPost (.int .i64 (4 + n)) w) := by
  have hw : IntKind.i64.wrap (IntKind.i64.wrap (4 + (n : Int)) + 0) = 4 + n := by rw [IntWalk.i64_in (4 + (n : Int)) (by omega), IntWalk.i64_in _ (by omega)]; omega
  obtain ⟨⟨x0, x1, x2, x3⟩, -⟩ := four (blk_new w (.cells #[.int .u8 t, .int .u8 f, .slice A n c, .slice K 0 d] 35))
  have HW := hid hw
  clear hw
  unfold ckV
  go_enter Tryz.func77, Tryz.ntmps77
  go_wp2_with fail
  go_quiet ((go_at_call 111; exact Calls.quiet_of_same (rsize08_0 _ _ _)))
  go_wp2_with fail
  go_ret
  exact ⟨by rw [← HW.out]; simp, below_drew (below_alloc (Below.refl _ _) _) _⟩
section
variable (r : KR) (t f : Int) (A K : Option Addr) (n c m d : Nat) (w : World) (hkd : r.kids = 0)
  (hOf : ∀ W, Calls Tryz.prog 70 #[.int .u8 t] W (IsPost (.tuple #[r.val, .bool true]) W))
set_option maxRecDepth 100000 in
set_option maxHeartbeats 2000000 in
include hkd hOf in
theorem rck_6 (hmk : r.mask = 0) (hf0 : 0 ≤ f) (hf1 : f ≤ 255) (hbf : (bits .and .i64 f 255 != 0) = true) : Calls Tryz.prog 31 #[ckV t f A n c K m d] w (IsPost (.int .i64 6) w) := by
  obtain ⟨ty, nm, mask, least, most, unit, kids⟩ := r
  simp only at hkd hmk
  subst hkd hmk
  have HOF := hid hOf
  clear hOf
  unfold KR.val at *
  unfold ckV at *
  simp only at *
  go_enter Tryz.func31, Tryz.ntmps31
  go_wp2_with fail
  refine (HOF.out _).mono ?_
  rintro e w1 ⟨rfl, hb⟩
  have B1 := hid (cthen (below_alloc (Below.refl w.heap.size w) _) hb)
  have K1 := hid (new_blk hb)
  have K2 := hid (blk_alloc (x := .cells #[.int .u8 ty, .string nm, .int .u8 0, .int .i64 least, .int .i64 most, .int .i64 unit, .int .i64 0] 117) K1.out)
  have Q2 := hid (blk_new w1 (.cells #[.int .u8 ty, .string nm, .int .u8 0, .int .i64 least, .int .i64 most, .int .i64 unit, .int .i64 0] 117))
  have B2 := hid (below_alloc B1.out (.cells #[.int .u8 ty, .string nm, .int .u8 0, .int .i64 least, .int .i64 most, .int .i64 unit, .int .i64 0] 117))
  obtain ⟨⟨x0, x1, x2, x3⟩, -⟩ := four K2.out
  clear hb HOF
  obtain ⟨⟨y0, y1, y2, y3, y4, y5, y6⟩, -⟩ := seven Q2.out
  go_wp2_with fail
  go_ret
  exact ⟨rfl, B2.out⟩
set_option maxRecDepth 100000 in
set_option maxHeartbeats 2000000 in
include hkd hOf in
theorem rck_7a (hmk : r.mask = 0) (hf0 : 0 ≤ f) (hf1 : f ≤ 255) (hbf : (bits .and .i64 f 255 != 0) = false) (hft : ∀ W, Calls Tryz.prog 71 #[r.val, .int .i64 n] W (IsPost (.bool false) W)) : Calls Tryz.prog 31 #[ckV t f A n c K m d] w (IsPost (.int .i64 7) w) := by
  obtain ⟨ty, nm, mask, least, most, unit, kids⟩ := r
  simp only at hkd hmk
  subst hkd hmk
  have HOF := hid hOf
  have HFT := hid hft
  clear hOf hft
  unfold KR.val at *
  unfold ckV at *
  simp only at *
  go_enter Tryz.func31, Tryz.ntmps31
  go_wp2_with fail
  refine (HOF.out _).mono ?_
  rintro e w1 ⟨rfl, hb⟩
  have B1 := hid (cthen (below_alloc (Below.refl w.heap.size w) _) hb)
  have K1 := hid (new_blk hb)
  have K2 := hid (blk_alloc (x := .cells #[.int .u8 ty, .string nm, .int .u8 0, .int .i64 least, .int .i64 most, .int .i64 unit, .int .i64 0] 117) K1.out)
  have Q2 := hid (blk_new w1 (.cells #[.int .u8 ty, .string nm, .int .u8 0, .int .i64 least, .int .i64 most, .int .i64 unit, .int .i64 0] 117))
  have B2 := hid (below_alloc B1.out (.cells #[.int .u8 ty, .string nm, .int .u8 0, .int .i64 least, .int .i64 most, .int .i64 unit, .int .i64 0] 117))
  obtain ⟨⟨x0, x1, x2, x3⟩, -⟩ := four K2.out
  clear hb HOF
  obtain ⟨⟨y0, y1, y2, y3, y4, y5, y6⟩, -⟩ := seven Q2.out
  go_wp2_with fail
  refine (HFT.out _).mono ?_
  rintro e w3 ⟨rfl, hb⟩
  have B3 := hid (cthen B2.out hb)
  have K3 := hid (blk_below K2.out hb)
  have Q3 := hid (blk_below Q2.out hb)
  obtain ⟨⟨x0, x1, x2, x3⟩, -⟩ := four K3.out
  clear hb K2 Q2
  go_wp2_with fail
  go_ret
  exact ⟨rfl, B3.out⟩
set_option maxRecDepth 100000 in
set_option maxHeartbeats 2000000 in
include hkd hOf in
theorem rck_7b (hmk : r.mask = 0) (hf0 : 0 ≤ f) (hf1 : f ≤ 255) (hbf : (bits .and .i64 f 255 != 0) = false) (hft : ∀ W, Calls Tryz.prog 71 #[r.val, .int .i64 n] W (IsPost (.bool true) W)) (hm : m ≠ 0) : Calls Tryz.prog 31 #[ckV t f A n c K m d] w (IsPost (.int .i64 7) w) := by
  obtain ⟨ty, nm, mask, least, most, unit, kids⟩ := r
  simp only at hkd hmk
  subst hkd hmk
  have HOF := hid hOf
  have HFT := hid hft
  clear hOf hft
  unfold KR.val at *
  unfold ckV at *
  simp only at *
  go_enter Tryz.func31, Tryz.ntmps31
  go_wp2_with fail
  refine (HOF.out _).mono ?_
  rintro e w1 ⟨rfl, hb⟩
  have B1 := hid (cthen (below_alloc (Below.refl w.heap.size w) _) hb)
  have K1 := hid (new_blk hb)
  have K2 := hid (blk_alloc (x := .cells #[.int .u8 ty, .string nm, .int .u8 0, .int .i64 least, .int .i64 most, .int .i64 unit, .int .i64 0] 117) K1.out)
  have Q2 := hid (blk_new w1 (.cells #[.int .u8 ty, .string nm, .int .u8 0, .int .i64 least, .int .i64 most, .int .i64 unit, .int .i64 0] 117))
  have B2 := hid (below_alloc B1.out (.cells #[.int .u8 ty, .string nm, .int .u8 0, .int .i64 least, .int .i64 most, .int .i64 unit, .int .i64 0] 117))
  obtain ⟨⟨x0, x1, x2, x3⟩, -⟩ := four K2.out
  clear hb HOF
  obtain ⟨⟨y0, y1, y2, y3, y4, y5, y6⟩, -⟩ := seven Q2.out
  go_wp2_with fail
  refine (HFT.out _).mono ?_
  rintro e w3 ⟨rfl, hb⟩
  have B3 := hid (cthen B2.out hb)
  have K3 := hid (blk_below K2.out hb)
  have Q3 := hid (blk_below Q2.out hb)
  obtain ⟨⟨x0, x1, x2, x3⟩, -⟩ := four K3.out
  clear hb K2 Q2
  obtain ⟨⟨y0, y1, y2, y3, y4, y5, y6⟩, -⟩ := seven Q3.out
  have hmz : (m == 0) = false := by simpa using hm
  go_wp2_with fail
  refine (rwanted_0 ⟨ty, nm, 0, least, most, unit, 0⟩ K m d rfl _).mono ?_
  rintro e w4 ⟨rfl, hb⟩
  have B4 := hid (cthen B3.out hb)
  have K4 := hid (blk_below K3.out hb)
  have Q4 := hid (blk_below Q3.out hb)
  obtain ⟨⟨x0, x1, x2, x3⟩, -⟩ := four K4.out
  clear hb K3 Q3
  go_wp2_with fail
  go_ret
  exact ⟨rfl, B4.out⟩
set_option maxRecDepth 100000 in
set_option maxHeartbeats 2000000 in
include hkd hOf in
theorem rck_8 (hmk : r.mask = 0) (hf0 : 0 ≤ f) (hf1 : f ≤ 255) (hbf : (bits .and .i64 f 255 != 0) = false) (hft : ∀ W, Calls Tryz.prog 71 #[r.val, .int .i64 n] W (IsPost (.bool true) W)) (hcn : ∀ W, Below w.heap.size w W → Calls Tryz.prog 73 #[.int .u8 t, .slice A n c] W (IsPost (.bool false) W)) : Calls Tryz.prog 31 #[ckV t f A n c K 0 d] w (IsPost (.int .i64 8) w) := by
  obtain ⟨ty, nm, mask, least, most, unit, kids⟩ := r
  simp only at hkd hmk
  subst hkd hmk
  have HOF := hid hOf
  have HFT := hid hft
  have HCN := hid hcn
  clear hOf hft hcn
  unfold KR.val at *
  unfold ckV at *
  simp only at *
  go_enter Tryz.func31, Tryz.ntmps31
  go_wp2_with fail
  refine (HOF.out _).mono ?_
  rintro e w1 ⟨rfl, hb⟩
  have B1 := hid (cthen (below_alloc (Below.refl w.heap.size w) _) hb)
  have K1 := hid (new_blk hb)
  have K2 := hid (blk_alloc (x := .cells #[.int .u8 ty, .string nm, .int .u8 0, .int .i64 least, .int .i64 most, .int .i64 unit, .int .i64 0] 117) K1.out)
  have Q2 := hid (blk_new w1 (.cells #[.int .u8 ty, .string nm, .int .u8 0, .int .i64 least, .int .i64 most, .int .i64 unit, .int .i64 0] 117))
  have B2 := hid (below_alloc B1.out (.cells #[.int .u8 ty, .string nm, .int .u8 0, .int .i64 least, .int .i64 most, .int .i64 unit, .int .i64 0] 117))
  obtain ⟨⟨x0, x1, x2, x3⟩, -⟩ := four K2.out
  clear hb HOF
  obtain ⟨⟨y0, y1, y2, y3, y4, y5, y6⟩, -⟩ := seven Q2.out
  go_wp2_with fail
  refine (HFT.out _).mono ?_
  rintro e w3 ⟨rfl, hb⟩
  have B3 := hid (cthen B2.out hb)
  have K3 := hid (blk_below K2.out hb)
  have Q3 := hid (blk_below Q2.out hb)
  obtain ⟨⟨x0, x1, x2, x3⟩, -⟩ := four K3.out
  clear hb K2 Q2
  obtain ⟨⟨y0, y1, y2, y3, y4, y5, y6⟩, -⟩ := seven Q3.out
  go_wp2_with fail
  refine (rwanted_0 ⟨ty, nm, 0, least, most, unit, 0⟩ K 0 d rfl _).mono ?_
  rintro e w4 ⟨rfl, hb⟩
  have B4 := hid (cthen B3.out hb)
  have K4 := hid (blk_below K3.out hb)
  have Q4 := hid (blk_below Q3.out hb)
  obtain ⟨⟨x0, x1, x2, x3⟩, -⟩ := four K4.out
  clear hb K3 Q3
  go_wp2_with fail
  refine (HCN.out _ B4.out).mono ?_
  rintro e w5 ⟨rfl, hb⟩
  have B5 := hid (cthen B4.out hb)
  have K5 := hid (blk_below K4.out hb)
  have Q5 := hid (blk_below Q4.out hb)
  obtain ⟨⟨x0, x1, x2, x3⟩, -⟩ := four K5.out
  clear hb K4 Q4
  go_wp2_with fail
  go_ret
  exact ⟨rfl, B5.out⟩
set_option maxRecDepth 100000 in
set_option maxHeartbeats 2000000 in
include hkd hOf in
theorem rck_0 (hmk : r.mask = 0) (hf0 : 0 ≤ f) (hf1 : f ≤ 255) (hbf : (bits .and .i64 f 255 != 0) = false) (hft : ∀ W, Calls Tryz.prog 71 #[r.val, .int .i64 n] W (IsPost (.bool true) W)) (hcn : ∀ W, Below w.heap.size w W → Calls Tryz.prog 73 #[.int .u8 t, .slice A n c] W (IsPost (.bool true) W)) (od : Int) (hod : ∀ W, Below w.heap.size w W → Calls Tryz.prog 74 #[.int .u8 t, .slice A n c] W (IsPost (.int .i64 od) W)) (ho : od < 0) (hn : n ≤ 65531) : Calls Tryz.prog 31 #[ckV t f A n c K 0 d] w (IsPost (.int .i64 0) w) := by
  obtain ⟨ty, nm, mask, least, most, unit, kids⟩ := r
  simp only at hkd hmk
  subst hkd hmk
  have HOF := hid hOf
  have HFT := hid hft
  have HCN := hid hcn
  have HOD := hid hod
  clear hOf hft hcn hod
  unfold KR.val at *
  unfold ckV at *
  simp only at *
  go_enter Tryz.func31, Tryz.ntmps31
  go_wp2_with fail
  refine (HOF.out _).mono ?_
  rintro e w1 ⟨rfl, hb⟩
  have B1 := hid (cthen (below_alloc (Below.refl w.heap.size w) _) hb)
  have K1 := hid (new_blk hb)
  have K2 := hid (blk_alloc (x := .cells #[.int .u8 ty, .string nm, .int .u8 0, .int .i64 least, .int .i64 most, .int .i64 unit, .int .i64 0] 117) K1.out)
  have Q2 := hid (blk_new w1 (.cells #[.int .u8 ty, .string nm, .int .u8 0, .int .i64 least, .int .i64 most, .int .i64 unit, .int .i64 0] 117))
  have B2 := hid (below_alloc B1.out (.cells #[.int .u8 ty, .string nm, .int .u8 0, .int .i64 least, .int .i64 most, .int .i64 unit, .int .i64 0] 117))
  obtain ⟨⟨x0, x1, x2, x3⟩, -⟩ := four K2.out
  clear hb HOF
  obtain ⟨⟨y0, y1, y2, y3, y4, y5, y6⟩, -⟩ := seven Q2.out
  go_wp2_with fail
  refine (HFT.out _).mono ?_
  rintro e w3 ⟨rfl, hb⟩
  have B3 := hid (cthen B2.out hb)
  have K3 := hid (blk_below K2.out hb)
  have Q3 := hid (blk_below Q2.out hb)
  obtain ⟨⟨x0, x1, x2, x3⟩, -⟩ := four K3.out
  clear hb K2 Q2
  obtain ⟨⟨y0, y1, y2, y3, y4, y5, y6⟩, -⟩ := seven Q3.out
  go_wp2_with fail
  refine (rwanted_0 ⟨ty, nm, 0, least, most, unit, 0⟩ K 0 d rfl _).mono ?_
  rintro e w4 ⟨rfl, hb⟩
  have B4 := hid (cthen B3.out hb)
  have K4 := hid (blk_below K3.out hb)
  have Q4 := hid (blk_below Q3.out hb)
  obtain ⟨⟨x0, x1, x2, x3⟩, -⟩ := four K4.out
  clear hb K3 Q3
  go_wp2_with fail
  refine (HCN.out _ B4.out).mono ?_
  rintro e w5 ⟨rfl, hb⟩
  have B5 := hid (cthen B4.out hb)
  have K5 := hid (blk_below K4.out hb)
  have Q5 := hid (blk_below Q4.out hb)
  obtain ⟨⟨x0, x1, x2, x3⟩, -⟩ := four K5.out
  clear hb K4 Q4
  go_wp2_with fail
  refine (HOD.out _ B5.out).mono ?_
  rintro e w6 ⟨rfl, hb⟩
  have B6 := hid (cthen B5.out hb)
  have K6 := hid (blk_below K5.out hb)
  have Q6 := hid (blk_below Q5.out hb)
  obtain ⟨⟨x0, x1, x2, x3⟩, -⟩ := four K6.out
  clear hb K5 Q5
  obtain ⟨⟨y0, y1, y2, y3, y4, y5, y6⟩, -⟩ := seven Q6.out
  go_wp2_with fail
  go_quiet ((first | (go_at_call 76; exact Calls.quiet_of_same (rclass_0 _)) | (go_at_call 75; exact Calls.quiet_of_same (rall_0 _ _ _ _))))
  have hsz := fun W => rsize_0 t f A K n c d W (by omega)
  have HSZ := hid hsz
  unfold ckV at HSZ
  clear hsz
  have hn4 : (4 : Int) + (n : Int) ≤ 65535 := by omega
  go_wp2_with fail
  refine (HSZ.out _).mono ?_
  rintro e w7 ⟨rfl, hb⟩
  have B7 := hid (cthen (below_drew B6.out _) hb)
  clear hb
  go_wp2_with fail
  go_ret
  exact ⟨rfl, B7.out⟩
end
end Go.Proofs.YtcjcgehhmjnlcaaGreatDoor
/- The parts of 'wharfref12.Check' in plain words: forms, sizes, reserved numbers; 'wharfref12.Few'. -/
set_option linter.unusedVariables false
set_option linter.unusedSimpArgs false
namespace Go.Proofs.YtcjcgehhmjnlcaaGreatDoor
open Go.RowKit Go.Shelf Go.Proofs.YtcjcgehhmjnlcaaGreatDoor.It Go.Proofs.YtcjcgehhmjnlcaaGreatDoorW.PrintWords Go.Proofs.YtcjcgehhmjnlcaaGreatDoorW.PrintLast Go.Proofs.YtcjcgehhmjnlcaaGreatDoorW.PrintMore PForwardChunks
theorem kR_get (i : Nat) (h : i < 23) : kRows[i]? = some (kR i) := by
  unfold kR
  rw [List.getD_eq_getElem?_getD, List.getElem?_eq_getElem (by rw [kRows_len]; exact h)]
  rfl
theorem rof_at (i0 : Nat) (hi0 : i0 < 23) (t : Int) (ht : kT i0 = t) (w : World) : Calls Tryz.prog 70 #[.int .u8 t] w (IsPost (.tuple #[(kR i0).val, .bool true]) w) := by
  refine (rof_any t w).mono ?_
  rintro e w' ⟨r, b, hr, hb, rfl, hw⟩
  have hf : kRows.find? (kIs t) = some (kR i0) := by
    refine NoneOf.found (i := i0) (fun a x hx ha => ?_) (kR_get i0 hi0) (by simp [kIs]; exact ht)
    have : x = kR a := Option.some.inj (hx.symm.trans (kR_get a (by omega)))
    subst this
    have := kT_mono a i0 ha hi0
    simp only [kIs]
    have h2 : (kR a).ty = kT a := rfl
    rw [h2]
    simp
    omega
  rw [hf] at hr hb
  obtain rfl : r = kR i0 := hr
  obtain rfl : b = true := hb
  exact ⟨rfl, hw⟩
theorem rfits_ev (ty : Int) (nm : ByteArray) (mask lo hi un kd n : Int) (h1 : 0 ≤ lo) (h2 : hi ≤ 65531) (h3 : 1 ≤ un) (h4 : un ≤ 8) : ∀ (d : Nat) (x : Int), (hi + 1 - x).toNat ≤ d → lo ≤ x → x ≤ 65539 → (x - lo) % un = 0 →
    Ev (fun k => wharfref11_Fits.l0 k n x ty nm mask lo hi un kd) (decide (n ≥ x) && decide (n ≤ hi) && ((n - lo) % un == 0)) := by
  intro d
  induction d with
  | zero =>
    intro x hd hx hb hm
    refine Ev.step (f := fun _ => some false) (fun k => ?_) (by
      have : (decide (n ≥ x) && decide (n ≤ hi) && ((n - lo) % un == 0)) = false := by
        by_cases h : n ≥ x
        · have : ¬ n ≤ hi := by omega
          simp [this]
        · simp [h]
      rw [this]
      exact Ev.now _)
    simp only [wharfref11_Fits.l0]
    rw [if_neg (by omega)]
  | succ d ih =>
    intro x hd hx hb hm
    by_cases hle : x ≤ hi
    · by_cases he : x = n
      · refine Ev.step (f := fun _ => some true) (fun k => ?_) (by
          have : (decide (n ≥ x) && decide (n ≤ hi) && ((n - lo) % un == 0)) = true := by
            rw [← he]
            simp [hle, hm]
          rw [this]
          exact Ev.now _)
        simp only [wharfref11_Fits.l0]
        rw [if_pos hle, if_pos he]
      · have hw : wrap64 (x + un) = x + un := by unfold wrap64; omega
        have hm2 : (x + un - lo) % un = 0 := by
          rw [show x + un - lo = (x - lo) + un by omega, Int.add_emod_right]
          exact hm
        have hi2 := ih (x + un) (by omega) (by omega) (by omega) hm2
        have heq : (decide (n ≥ x + un) && decide (n ≤ hi) && ((n - lo) % un == 0)) = (decide (n ≥ x) && decide (n ≤ hi) && ((n - lo) % un == 0)) := by
          by_cases hz : (n - lo) % un = 0
          · have hiff : n ≥ x + un ↔ n ≥ x := by
              constructor
              · intro h; omega
              · intro h
                have hdv : un ∣ n - x := by
                  have e1 : (n - x) % un = 0 := by
                    rw [show n - x = (n - lo) - (x - lo) by omega, Int.sub_emod, hz, hm]
                    simp
                  exact Int.dvd_of_emod_eq_zero e1
                have := Int.le_of_dvd (by omega) hdv
                omega
            simp [hz, hiff]
          · have hzf : ((n - lo) % un == 0) = false := by simpa using hz
            rw [hzf]
            simp
        rw [heq] at hi2
        refine Ev.step (fun k => ?_) hi2
        simp only [wharfref11_Fits.l0]
        rw [if_pos hle, if_neg he, hw]
    · refine Ev.step (f := fun _ => some false) (fun k => ?_) (by
        have : (decide (n ≥ x) && decide (n ≤ hi) && ((n - lo) % un == 0)) = false := by
          by_cases h : n ≥ x
          · have : ¬ n ≤ hi := by omega
            simp [this]
          · simp [h]
        rw [this]
        exact Ev.now _)
      simp only [wharfref11_Fits.l0]
      rw [if_neg hle]
theorem rfits_any (r : KR) (hr : r.ok) (n : Int) (w : World) : Calls Tryz.prog 71 #[r.val, .int .i64 n] w (IsPost (.bool (fits r.least r.most r.unit n)) w) := by
  obtain ⟨h1, h2, h3, h4⟩ : 0 ≤ r.least ∧ r.most ≤ 65531 ∧ 1 ≤ r.unit ∧ r.unit ≤ 8 := by unfold KR.ok at hr; omega
  have h5 : r.least ≤ 65539 := by unfold KR.ok at hr; omega
  obtain ⟨k, hk⟩ := (rfits_ev r.ty r.nm r.mask r.least r.most r.unit r.kids n h1 h2 h3 h4 _ r.least (Nat.le_refl _) (Int.le_refl _) h5 (by simp)).rounds
  exact (wharfref11_Fits.calls k r.ty r.nm r.mask r.least r.most r.unit r.kids n _ w hk).mono (fun e w' h => h)
theorem rodd_not (t : Int) (A : Option Addr) (c : Nat) (l : List Int) (w : World) (h1 : t ≠ 64) (h2 : t ≠ 194) (hC : BC w A l) (hc : l.length ≤ c) : Calls Tryz.prog 74 #[.int .u8 t, .slice A l.length c] w (IsPost (.int .i64 (-1)) w) :=
  (wharfref12_odd.calls 5 t A c l (-1) w hC hc (by simp [wharfref12_odd.f, wharfref12_odd.j0, wharfref12_odd.l0, wharfref12_odd.j2, h1, h2])).mono (fun e w' h => ⟨h.1, h.2.below⟩)
/-- The number of two bytes. -/
theorem number_f {l : List Int} (hB : ∀ x ∈ l, 0 ≤ x ∧ x ≤ 255) (i : Nat) (hi : i + 2 ≤ l.length) (hl : l.length ≤ 1000000) : wharfref12_number.f l (i : Int) = some (l.getD i 0 * 256 + l.getD (i + 1) 0) := by
  have hb : ∀ j, j < l.length → 0 ≤ l.getD j 0 ∧ l.getD j 0 ≤ 255 := fun j hj => by
    rw [List.getD_eq_getElem?_getD, List.getElem?_eq_getElem hj]
    exact hB _ (List.getElem_mem hj)
  have h0 := hb i (by omega)
  have h1 := hb (i + 1) (by omega)
  have hw : wrap64 ((i : Int) + 1) = ((i + 1 : Nat) : Int) := by unfold wrap64; omega
  have e0 : rd l (i : Int) = l.getD i 0 := by simp [rd]
  have e1 : rd l ((i + 1 : Nat) : Int) = l.getD (i + 1) 0 := by simp [rd]
  unfold wharfref12_number.f
  rw [hw, if_pos (by omega), if_pos (by omega), if_pos (by omega), if_pos (by omega), e0, e1]
  congr 1
  unfold wrap64
  omega
theorem and255 : ∀ m : Nat, m < 256 → bits .and .i64 (m : Int) 255 = (m : Int) := by decide +kernel
theorem and255_ne {f : Int} (h0 : 0 ≤ f) (h1 : f ≤ 255) : (bits .and .i64 f 255 != 0) = decide (f ≠ 0) := by
  obtain ⟨m, rfl⟩ := Int.eq_ofNat_of_zero_le h0
  rw [and255 m (by omega)]
  rw [Bool.eq_iff_iff]
  simp
theorem andNot0 : ∀ m : Nat, m < 256 → bits .andNot .u8 (m : Int) 0 = (m : Int) := by decide +kernel
theorem flagsE_0 {f : Int} (h0 : 0 ≤ f) (h1 : f ≤ 255) : flagsE f 0 = none ↔ f = 0 := by
  obtain ⟨m, rfl⟩ := Int.eq_ofNat_of_zero_le h0
  unfold flagsE badFlags
  rw [andNot0 m (by omega)]
  by_cases h : (m : Int) = 0
  · simp [h]
  · simp [h]
/-! ### 'wharfref12.Few' -/
/-- The nodes of a tree are such as memory can hold (to a depth). -/
def sm : Nat → S114 → Prop
  | 0, _ => True
  | d + 1, x => x.f1.length ≤ 9223372036854775807 ∧ x.f2.length ≤ 9223372036854775807 ∧ ∀ y ∈ x.f2, sm d y
theorem sm_row {w : World} {A : Option Addr} {n : Nat} {xs : List S114} (h : Kd.C k114 w A n xs) (d : Nat) (hd : ∀ x cs, k114.K w x cs → sm d x) : ∀ y ∈ xs, sm d y := by
  intro y hy
  obtain ⟨i, hi, rfl⟩ := List.getElem_of_mem hy
  have hn : 0 < n := by have := h.1; omega
  obtain ⟨ad, -, hc⟩ := h.2.2 hn
  obtain ⟨c, -, hk, -⟩ := hc i _ (List.getElem?_eq_getElem hi)
  exact hd _ _ hk
theorem sm_of {w : World} : ∀ (d : Nat) (x : S114) (cs : List Value), k114.K w x cs → sm d x
  | 0, _, _, _ => trivial
  | d + 1, x, cs, h => by
    obtain ⟨A1, c1, A2, c2, -, -, g1, -, g2⟩ := k114_open h
    exact ⟨g1.2.1, g2.2.1, sm_row g2 d (sm_of d)⟩
theorem count_ev : ∀ (m : Nat) (a : Int) (l : List S114), 0 ≤ a → a ≤ 21 → (21 - a).toNat = m → l.length ≤ 9223372036854775807 → (∀ y ∈ l, sm m y) → ∃ r : Int, 0 ≤ r ∧ r ≤ 1000 + m * 10000000000000000 ∧ (r < 1000 → (l.length : Int) ≤ r) ∧ Ev (fun k => wharfref08_Count.f k l a) r := by
  intro m
  induction m with
  | zero =>
    intro a l h0 h1 hm hl hs
    refine ⟨1000, by omega, by omega, by omega, Ev.step (f := fun _ => some 1000) (fun k => ?_) (Ev.now _)⟩
    simp only [wharfref08_Count.f]
    rw [if_pos (by omega)]
  | succ m ih =>
    intro a l h0 h1 hm hl hs
    have loop : ∀ (d i : Nat) (x : Int), l.length - i = d → i ≤ l.length → 0 ≤ x → x ≤ 1000 + (m + 1) * 10000000000000000 → (x ≤ 999 ∨ 1000 ≤ x) → ∃ r : Int, 0 ≤ r ∧ r ≤ 1000 + (m + 1) * 10000000000000000 ∧ (r < 1000 → x + ((l.length - i : Nat) : Int) ≤ r) ∧ Ev (fun k => wharfref08_Count.l0 k l a x (i : Int)) r := by
      intro d
      induction d with
      | zero =>
        intro i x hd hi hx0 hx1 _
        refine ⟨x, hx0, hx1, by omega, Ev.step (f := fun _ => some x) (fun k => ?_) (Ev.now _)⟩
        simp only [wharfref08_Count.l0]
        rw [if_neg (by omega)]
      | succ d ihd =>
        intro i x hd hi hx0 hx1 hx
        have hil : i < l.length := by omega
        by_cases hlt : x < 1000
        · have hy := hs _ (List.getElem_mem hil)
          have hrd : rd_T114 l (i : Int) = l[i] := by
            unfold rd_T114
            simp [List.getD_eq_getElem?_getD, List.getElem?_eq_getElem hil]
          obtain ⟨hy1, hy2, hy3⟩ := hy
          obtain ⟨r1, hr0, hr1, -, hr⟩ := ih (a + 1) l[i].f2 (by omega) (by omega) (by omega) hy2 hy3
          have hm20 : m ≤ 20 := by omega
          have hdiv : 0 ≤ (l[i].f1.length : Int) / 1000 ∧ (l[i].f1.length : Int) / 1000 ≤ 9223372036854776 := by omega
          obtain ⟨D, hD⟩ : ∃ D : Int, D = (l[i].f1.length : Int) / 1000 := ⟨_, rfl⟩
          rw [← hD] at hdiv
          have hmm : (m : Int) * 10000000000000000 ≤ 200000000000000000 := by omega
          obtain ⟨r, hq0, hq1, hq2, hq⟩ := ihd (i + 1) (x + 1 + D + r1) (by omega) (by omega) (by omega) (by omega) (by omega)
          have hql : r < 1000 → x + ((l.length - i : Nat) : Int) ≤ r := fun h => by have := hq2 h; omega
          have hc1 : (i : Int) < (l.length : Int) := by omega
          have hc2 : (0 : Int) ≤ (i : Int) := by omega
          have ha := hid (show wrap64 (a + 1) = a + 1 by unfold wrap64; omega)
          have hi1 := hid (show wrap64 ((i : Int) + 1) = ((i + 1 : Nat) : Int) by unfold wrap64; omega)
          have hwr : wrap64 (wrap64 (wrap64 (x + 1) + wrap64 D) + r1) = x + 1 + D + r1 := by
            have e1 : wrap64 (x + 1) = x + 1 := by unfold wrap64; omega
            have e2 : wrap64 D = D := by unfold wrap64; omega
            rw [e1, e2]
            clear e1 e2
            have e3 : wrap64 (x + 1 + D) = x + 1 + D := by unfold wrap64; omega
            rw [e3]
            clear e3
            unfold wrap64
            omega
          rw [← hwr] at hq
          refine ⟨r, hq0, hq1, hql, Ev.step (fun k => ?_) (Ev.bind (f := fun k t => wharfref08_Count.l0 k l a (wrap64 (wrap64 (wrap64 (x + 1) + wrap64 D) + t)) ((i + 1 : Nat) : Int)) hr hq)⟩
          simp only [wharfref08_Count.l0]
          rw [if_pos hc1, if_pos hlt, if_pos hc2, hrd, ha.out, hi1.out, ← hD]
        · refine ⟨x, hx0, hx1, fun h => absurd h hlt, Ev.step (f := fun _ => some x) (fun k => ?_) (Ev.now _)⟩
          simp only [wharfref08_Count.l0]
          rw [if_pos (by omega), if_neg hlt]
    obtain ⟨r, hr0, hr1, hr2, hr⟩ := loop l.length 0 0 (by omega) (by omega) (by omega) (by omega) (by omega)
    refine ⟨r, hr0, by omega, fun h => by have := hr2 h; omega, Ev.step (fun k => ?_) hr⟩
    simp only [wharfref08_Count.f]
    rw [if_neg (by omega)]
    rfl
theorem few_any (t f : Int) (A K : Option Addr) (c d : Nat) (l : List Int) (xs : List S114) (w : World) (hC : BC w A l) (hc : l.length ≤ c) (hK : Kd.C k114 w K xs.length xs) (hd : xs.length ≤ d) :
    Calls Tryz.prog 30 #[ckV t f A l.length c K xs.length d] w (fun e w' => ∃ b : Bool, e = .returned (.bool b) ∧ (b = true → l.length ≤ 70000 ∧ xs.length ≤ 200) ∧ Below w.heap.size w w') := by
  obtain ⟨r, -, -, hrl, hr⟩ := count_ev 21 0 xs (by omega) (by omega) rfl hK.2.1 (sm_row hK 21 (sm_of 21))
  obtain ⟨k, hk⟩ := hr.rounds
  by_cases hn : (l.length : Int) ≤ 70000
  · refine (wharfref12_Few.calls k t f A c l K d xs (decide (r ≤ 200)) w hC hc hK hd (by simp [wharfref12_Few.f, wharfref08_Few.f, hk, hn])).mono ?_
    rintro e w' ⟨rfl, hb⟩
    exact ⟨_, rfl, fun h => ⟨by omega, by have h1 := of_decide_eq_true h; have := hrl (by omega); omega⟩, hb⟩
  · refine (wharfref12_Few.calls k t f A c l K d xs false w hC hc hK hd (by simp [wharfref12_Few.f, hn])).mono ?_
    rintro e w' ⟨rfl, hb⟩
    exact ⟨_, rfl, fun h => by simp at h, hb⟩
end Go.Proofs.YtcjcgehhmjnlcaaGreatDoor
