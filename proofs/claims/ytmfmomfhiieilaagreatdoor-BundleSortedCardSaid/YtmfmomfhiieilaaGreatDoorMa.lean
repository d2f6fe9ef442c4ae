/- Joined: Base, Kind, RLaw, Chk, Nums, Col, Wir. -/
import Derived.Test.YtmfmomfhiieilaaGreatDoorProg
import Derived.Below
import Derived.WalkKit
import Derived.KernelRfl
import Derived.RowKit3
import Derived.Deep.LoopGhost
import Derived.Deep.QuietTactic
import Derived.BigQuiet
import Derived.WalkSpells
import Derived.WalkLawsBesides
import Derived.Outline
import Derived.Test.YtmfmomfhiieilaaGreatDoorWWords
import Derived.RangeFuncNested
import Derived.RangeFuncBound
import Derived.RangeFuncCalls
import Derived.RangeFuncLeaves
import Derived.RangeFuncStops
import Derived.RangeFuncWrites
import Derived.RangeFuncBox
import Derived.Shelf.Abstract
import Derived.Shelf.RegionOpen
import Derived.OwnWalkIn
import Derived.TacticsInMore
import Derived.RegionIn
import Derived.LoopNIn
import Derived.LoopIn
import Derived.Sort.QuietTacIn
import Derived.Sort.BigQuietIn
import Derived.Laws.BitsAllLaws
import Derived.Maps.AppendAt
import Derived.RangeFuncFrom
import Derived.Maps.OwnIn
/- Small words that every walk of this seat uses; the package variables as the walks read them. -/
set_option linter.unusedVariables false
namespace Go.Proofs.YtmfmomfhiieilaaGreatDoor
open Go.RowKit
theorem hid {p : Prop} (h : p) : Hid p := h
theorem new_blk {w w' : World} {o : Obj} (hb : Below (w.alloc o).heap.size (w.alloc o) w') : w'.heap[w.heap.size]? = some o := by
  rw [hb.block _ (by simp)]
  show (w.heap.push o)[w.heap.size]? = _
  simp
/-- What a call gives that leaves all that was as it was. -/
def IsPost (v : Value) (w : World) (e : Ending) (w' : World) : Prop := e = .returned v ∧ Below w.heap.size w w'
theorem cthen {w w1 w2 : World} (h : Below w.heap.size w w1) (k : Below w1.heap.size w1 w2) : Below w.heap.size w w2 := h.trans (k.mono h.size)
theorem blk_below {w w' : World} {b : Nat} {o : Obj} (h : w.heap[b]? = some o) (hb : Below w.heap.size w w') : w'.heap[b]? = some o := (hb.block b (Array.getElem?_eq_some_iff.1 h).1).trans h
theorem blk_alloc {w : World} {b : Nat} {o x : Obj} (h : w.heap[b]? = some o) : (w.alloc x).heap[b]? = some o := (Below.heap_alloc _ _ _ (Array.getElem?_eq_some_iff.1 h).1).trans h
theorem blk_new (w : World) (o : Obj) : (w.alloc o).heap[w.heap.size]? = some o := by
  show (w.heap.push o)[w.heap.size]? = _
  simp
theorem below_alloc {w W : World} (h : Below w.heap.size w W) (o : Obj) : Below w.heap.size w (W.alloc o) := h.alloc h.size _
theorem below_set {w W : World} {b j : Nat} (h : Below w.heap.size w W) (hb : w.heap.size ≤ b) (u : Value) : Below w.heap.size w (W.setCell ⟨b, j, none⟩ u) := h.setCell hb _
theorem below_drew {w W : World} (h : Below w.heap.size w W) (q : Nat) : Below w.heap.size w (W.drewN q) := ⟨h.1, h.2, h.3, h.4, h.5⟩
theorem seven {w : World} {b t : Nat} {v0 v1 v2 v3 v4 v5 v6 : Value} (h : w.heap[b]? = some (.cells #[v0, v1, v2, v3, v4, v5, v6] t (0, 0))) :
    (w.cell? ⟨b, 0, none⟩ = some v0 ∧ w.cell? ⟨b, 1, none⟩ = some v1 ∧ w.cell? ⟨b, 2, none⟩ = some v2 ∧ w.cell? ⟨b, 3, none⟩ = some v3 ∧ w.cell? ⟨b, 4, none⟩ = some v4 ∧ w.cell? ⟨b, 5, none⟩ = some v5 ∧ w.cell? ⟨b, 6, none⟩ = some v6) ∧
    (w.frozen? ⟨b, 0, none⟩ = false ∧ w.frozen? ⟨b, 1, none⟩ = false ∧ w.frozen? ⟨b, 2, none⟩ = false ∧ w.frozen? ⟨b, 3, none⟩ = false ∧ w.frozen? ⟨b, 4, none⟩ = false ∧ w.frozen? ⟨b, 5, none⟩ = false ∧ w.frozen? ⟨b, 6, none⟩ = false) := by
  simp [World.cell?, World.frozen?, h]
theorem four {w : World} {b t : Nat} {v0 v1 v2 v3 : Value} (h : w.heap[b]? = some (.cells #[v0, v1, v2, v3] t (0, 0))) :
    (w.cell? ⟨b, 0, none⟩ = some v0 ∧ w.cell? ⟨b, 1, none⟩ = some v1 ∧ w.cell? ⟨b, 2, none⟩ = some v2 ∧ w.cell? ⟨b, 3, none⟩ = some v3) ∧
    (w.frozen? ⟨b, 0, none⟩ = false ∧ w.frozen? ⟨b, 1, none⟩ = false ∧ w.frozen? ⟨b, 2, none⟩ = false ∧ w.frozen? ⟨b, 3, none⟩ = false) := by
  simp [World.cell?, World.frozen?, h]
theorem three {w : World} {b t : Nat} {v0 v1 v2 : Value} (h : w.heap[b]? = some (.cells #[v0, v1, v2] t (0, 0))) :
    (w.cell? ⟨b, 0, none⟩ = some v0 ∧ w.cell? ⟨b, 1, none⟩ = some v1 ∧ w.cell? ⟨b, 2, none⟩ = some v2) ∧
    (w.frozen? ⟨b, 0, none⟩ = false ∧ w.frozen? ⟨b, 1, none⟩ = false ∧ w.frozen? ⟨b, 2, none⟩ = false) := by
  simp [World.cell?, World.frozen?, h]
theorem two {w : World} {b t : Nat} {v0 v1 : Value} (h : w.heap[b]? = some (.cells #[v0, v1] t (0, 0))) :
    (w.cell? ⟨b, 0, none⟩ = some v0 ∧ w.cell? ⟨b, 1, none⟩ = some v1) ∧ (w.frozen? ⟨b, 0, none⟩ = false ∧ w.frozen? ⟨b, 1, none⟩ = false) := by
  simp [World.cell?, World.frozen?, h]
theorem one {w : World} {b t : Nat} {v0 : Value} (h : w.heap[b]? = some (.cells #[v0] t (0, 0))) : w.cell? ⟨b, 0, none⟩ = some v0 ∧ w.frozen? ⟨b, 0, none⟩ = false := by
  simp [World.cell?, World.frozen?, h]

/-- A row of the table of kinds. -/
structure KR where
  ty : Int
  nm : ByteArray
  mask : Int
  least : Int
  most : Int
  unit : Int
  kids : Int
def kRows : List KR := [
  ⟨0, ⟨#[100, 97, 116, 97]⟩, 15, 13, 65531, 1, 0⟩,
  ⟨1, ⟨#[105, 110, 105, 116]⟩, 0, 16, 16, 1, 2⟩,
  ⟨2, ⟨#[105, 110, 105, 116, 45, 97, 99, 107]⟩, 0, 16, 16, 1, 2⟩,
  ⟨3, ⟨#[115, 97, 99, 107]⟩, 0, 12, 65531, 4, 0⟩,
  ⟨4, ⟨#[104, 101, 97, 114, 116, 98, 101, 97, 116]⟩, 0, 0, 0, 1, 1⟩,
  ⟨5, ⟨#[104, 101, 97, 114, 116, 98, 101, 97, 116, 45, 97, 99, 107]⟩, 0, 0, 0, 1, 1⟩,
  ⟨6, ⟨#[97, 98, 111, 114, 116]⟩, 1, 0, 0, 1, 3⟩,
  ⟨7, ⟨#[115, 104, 117, 116, 100, 111, 119, 110]⟩, 0, 4, 4, 1, 0⟩,
  ⟨8, ⟨#[115, 104, 117, 116, 100, 111, 119, 110, 45, 97, 99, 107]⟩, 0, 0, 0, 1, 0⟩,
  ⟨9, ⟨#[101, 114, 114, 111, 114]⟩, 0, 0, 0, 1, 4⟩,
  ⟨10, ⟨#[99, 111, 111, 107, 105, 101, 45, 101, 99, 104, 111]⟩, 0, 1, 65531, 1, 0⟩,
  ⟨11, ⟨#[99, 111, 111, 107, 105, 101, 45, 97, 99, 107]⟩, 0, 0, 0, 1, 0⟩,
  ⟨12, ⟨#[101, 99, 110, 101]⟩, 0, 4, 4, 1, 0⟩,
  ⟨13, ⟨#[99, 119, 114]⟩, 0, 4, 4, 1, 0⟩,
  ⟨14, ⟨#[115, 104, 117, 116, 100, 111, 119, 110, 45, 99, 111, 109, 112, 108, 101, 116, 101]⟩, 1, 0, 0, 1, 0⟩,
  ⟨15, ⟨#[97, 117, 116, 104]⟩, 0, 5, 65531, 1, 0⟩,
  ⟨64, ⟨#[105, 45, 100, 97, 116, 97]⟩, 15, 17, 65531, 1, 0⟩,
  ⟨128, ⟨#[97, 115, 99, 111, 110, 102, 45, 97, 99, 107]⟩, 0, 4, 4, 1, 2⟩,
  ⟨130, ⟨#[114, 101, 45, 99, 111, 110, 102, 105, 103]⟩, 0, 0, 0, 1, 5⟩,
  ⟨132, ⟨#[112, 97, 100]⟩, 0, 0, 65531, 1, 0⟩,
  ⟨192, ⟨#[102, 111, 114, 119, 97, 114, 100, 45, 116, 115, 110]⟩, 0, 4, 65531, 4, 0⟩,
  ⟨193, ⟨#[97, 115, 99, 111, 110, 102]⟩, 0, 4, 4, 1, 6⟩,
  ⟨194, ⟨#[105, 45, 102, 111, 114, 119, 97, 114, 100, 45, 116, 115, 110]⟩, 0, 4, 65531, 8, 0⟩]
def kZ : KR := ⟨0, ⟨#[]⟩, 0, 0, 0, 0, 0⟩
def kR (i : Nat) : KR := kRows.getD i kZ
def kTypes : List Int := kRows.map (·.ty)
def kT (i : Nat) : Int := (kR i).ty
def KR.val (r : KR) : Value := .agg #[.int .u8 r.ty, .string r.nm, .int .u8 r.mask, .int .i64 r.least, .int .i64 r.most, .int .i64 r.unit, .int .i64 r.kids]
structure KRow (w : World) (i : Nat) (r : KR) : Prop where
  c0 : w.cell? ⟨1, i * 7, none⟩ = some (.int .u8 r.ty)
  c1 : w.cell? ⟨1, i * 7 + 1, none⟩ = some (.string r.nm)
  c2 : w.cell? ⟨1, i * 7 + 2, none⟩ = some (.int .u8 r.mask)
  c3 : w.cell? ⟨1, i * 7 + 3, none⟩ = some (.int .i64 r.least)
  c4 : w.cell? ⟨1, i * 7 + 4, none⟩ = some (.int .i64 r.most)
  c5 : w.cell? ⟨1, i * 7 + 5, none⟩ = some (.int .i64 r.unit)
  c6 : w.cell? ⟨1, i * 7 + 6, none⟩ = some (.int .i64 r.kids)
/-- The classes and numbers of nodes inside. -/
def iRows : List (Int × Int × Int) := [(0, 0, 0), (1, 1, 1), (1, 0, 16384), (2, 0, 16384), (2, 1, 16384), (1, 1, 2), (1, 2, 16384)]
def iR (k : Int) : Int × Int × Int := if 0 ≤ k ∧ k < 7 then iRows.getD k.toNat (0, 0, 0) else (0, 0, 0)
structure GTab (w : World) : Prop where
  sz : 3 ≤ w.heap.size
  k : ∀ i, i < 23 → KRow w i (kR i)
  i : ∀ i, i < 7 → w.cell? ⟨2, i * 3, none⟩ = some (.int .i64 (iRows.getD i (0, 0, 0)).1) ∧ w.cell? ⟨2, i * 3 + 1, none⟩ = some (.int .i64 (iRows.getD i (0, 0, 0)).2.1) ∧ w.cell? ⟨2, i * 3 + 2, none⟩ = some (.int .i64 (iRows.getD i (0, 0, 0)).2.2)
  e : w.cell? ⟨0, 0, none⟩ = some (.iface 152 (.agg #[.pointer (some ⟨4, 31, none⟩)]))
theorem GTab.below {w w' : World} (h : GTab w) (hb : Below w.heap.size w w') : GTab w' := by
  have hz := h.sz
  have cc : ∀ b o, b < 3 → w'.cell? ⟨b, o, none⟩ = w.cell? ⟨b, o, none⟩ := fun b o hl => hb.cell (p := ⟨b, o, none⟩) (by simp; omega)
  refine ⟨Nat.le_trans hz hb.size, fun i hi => ?_, fun i hi => ?_, ?_⟩
  · have r := h.k i hi
    exact ⟨by rw [cc _ _ (by omega)]; exact r.c0, by rw [cc _ _ (by omega)]; exact r.c1, by rw [cc _ _ (by omega)]; exact r.c2, by rw [cc _ _ (by omega)]; exact r.c3, by rw [cc _ _ (by omega)]; exact r.c4, by rw [cc _ _ (by omega)]; exact r.c5, by rw [cc _ _ (by omega)]; exact r.c6⟩
  · rw [cc _ _ (by omega), cc _ _ (by omega), cc _ _ (by omega)]
    exact h.i i hi
  · rw [cc _ _ (by omega)]
    exact h.e
/-- What the walks carry of the tables: they lie as at the first world. -/
theorem GTab.then {w w1 w2 : World} (h : GTab w1) (k : Below w1.heap.size w1 w2) : GTab w2 := h.below k
end Go.Proofs.YtmfmomfhiieilaaGreatDoor
/- 'kind.Of', 'kind.Inside', 'kind.Fits': the form of a type of chunk. -/
set_option linter.unusedVariables false
namespace Go.Proofs.YtmfmomfhiieilaaGreatDoor
open Go.RowKit
theorem kT_bd (i : Nat) (h : i < 23) : 0 ≤ kT i ∧ kT i ≤ 255 := by
  have : ∀ i, i < 23 → 0 ≤ kT i ∧ kT i ≤ 255 := by decide
  exact this i h
theorem kT_mono (i j : Nat) (h : i < j) (hj : j < 23) : kT i < kT j := by
  have : ∀ j, j < 23 → ∀ i, i < j → kT i < kT j := by decide
  exact this j hj i h

set_option maxHeartbeats 400000 in
theorem cmp_any (ty t : Int) (nm : ByteArray) (mk a b c d : Int) (w : World) (h1 : 0 ≤ ty) (h2 : ty ≤ 255) (h3 : 0 ≤ t) (h4 : t ≤ 255) :
    Calls Tryz.prog 80 #[.agg #[.int .u8 ty, .string nm, .int .u8 mk, .int .i64 a, .int .i64 b, .int .i64 c, .int .i64 d], .int .u8 t] w fun e w' => e = .returned (.int .i64 (ty - t)) ∧ Below w.heap.size w w' := by
  go_enter Tryz.func80, Tryz.ntmps80
  go_wp2
  go_ret
  exact ⟨rfl, (Below.refl _ _).alloc (Nat.le_refl _) _⟩

def Low (i : Nat) (t : Int) : Prop := ∀ a, a < i → kT a < t
def High (j : Nat) (t : Int) : Prop := ∀ a, a < 23 → j ≤ a → t ≤ kT a
theorem Low.step {m : Nat} {t : Int} (hm : m < 23) (h : kT m < t) : Low (m + 1) t := fun a ha => by
  rcases Nat.lt_or_ge a m with g | g
  · exact Int.lt_trans (kT_mono a _ g hm) h
  · rwa [show a = m by omega]
theorem High.step {m : Nat} {t : Int} (h : ¬ kT m < t) : High m t := fun a ha g => by
  rcases Nat.lt_or_ge m a with g' | g'
  · have := kT_mono _ a g' ha; omega
  · rw [show a = m by omega]; omega
theorem kT_of_mem {t : Int} (h : t ∈ kTypes) : ∃ a, a < 23 ∧ kT a = t := by
  obtain ⟨a, ha, e⟩ := List.getElem_of_mem h
  have hl : a < kRows.length := by simpa [kTypes] using ha
  refine ⟨a, hl, ?_⟩
  rw [← e]
  simp [kT, kR, kTypes, hl]
theorem kT_mem (a : Nat) (h : a < 23) : kT a ∈ kTypes := by
  have : ∀ a, a < 23 → kT a ∈ kTypes := by decide
  exact this a h
theorem known_at {i : Nat} {t : Int} (hl : Low i t) (hh : High i t) (hi : i < 23) : (kT i = t) ↔ t ∈ kTypes := by
  constructor
  · intro h
    rw [← h]
    exact kT_mem i hi
  · intro h
    obtain ⟨a, ha, rfl⟩ := kT_of_mem h
    have h1 : i ≤ a := by
      rcases Nat.lt_or_ge a i with g | g
      · exact absurd (hl a g) (by omega)
      · exact g
    have h2 := hh i hi (Nat.le_refl _)
    rcases Nat.lt_or_ge i a with g | g
    · have := kT_mono i a g ha; omega
    · rw [show i = a by omega]
theorem known_end {t : Int} (hl : Low 23 t) : ¬ t ∈ kTypes := by
  intro h
  obtain ⟨a, ha, rfl⟩ := kT_of_mem h
  exact absurd (hl a ha) (by omega)
/-- What the search gives. -/
def Found (t : Int) (i : Nat) (b : Bool) : Prop := i ≤ 23 ∧ b = decide (t ∈ kTypes) ∧ (b = true → i < 23 ∧ kT i = t)
theorem Found.at {i : Nat} {t : Int} (hl : Low i t) (hh : High i t) (hi : i < 23) : Found t i (kT i - t == 0) := by
  refine ⟨by omega, ?_, ?_⟩
  · rw [Bool.eq_iff_iff]
    simp only [beq_iff_eq, decide_eq_true_eq]
    rw [← known_at hl hh hi]
    omega
  · intro h
    simp only [beq_iff_eq] at h
    exact ⟨hi, by omega⟩
theorem Found.end {t : Int} (hl : Low 23 t) : Found t 23 false := ⟨by omega, by rw [decide_eq_false (known_end hl)], by simp⟩
def FoundPost (t : Int) (w : World) (e : Ending) (w' : World) : Prop := ∃ (i : Nat) (b : Bool), Found t i b ∧ e = .returned (.tuple #[.int .i64 i, .bool b]) ∧ Below w.heap.size w w'

set_option maxHeartbeats 400000 in
theorem bsf_any (t : Int) (w : World) (h3 : 0 ≤ t) (h4 : t ≤ 255) (hk : GTab w) :
    Calls Tryz.prog 79 #[.slice (some ⟨1, 0, none⟩) 23 23, .int .u8 t, .func (.func 80) #[] #[]] w (FoundPost t w) := by
  have hkk := hid hk
  clear hk
  go_enter Tryz.func79, Tryz.ntmps79
  go_wp2
  go_loopw [9, 10] (fun vi vj W => ∃ i j : Nat, vi = .int .i64 i ∧ vj = .int .i64 j ∧ i ≤ j ∧ j ≤ 23 ∧ Low i t ∧ High j t ∧ Hid (Below w.heap.size w W)) (fun vi vj _ => (intOf vj - intOf vi).toNat)
  case atStart => exact ⟨0, 23, rfl, rfl, by omega, by omega, fun a h => by omega, fun a h h' => by omega, Below.refl _ _⟩
  case round =>
    obtain ⟨i, j, rfl, rfl, hij, hj, hl, hh, hB⟩ := hrel
    by_cases hlt : i < j
    · obtain ⟨c0, c1, c2, c3, c4, c5, c6⟩ := (hkk.out.below hB.out).k ((i + j) / 2) (by omega)
      have hbd := kT_bd ((i + j) / 2) (by omega)
      by_cases hx : kT ((i + j) / 2) < t
      · have hx0 : kT ((i + j) / 2) - t < 0 := by omega
        go_wp2_with (go_at_call 80; refine (cmp_any _ _ _ _ _ _ _ _ _ hbd.1 hbd.2 h3 h4).mono ?_; rintro e w' ⟨rfl, hb⟩)
        go_roundw
        case rel => exact ⟨(i + j) / 2 + 1, j, by go_num, rfl, by omega, hj, Low.step (by omega) hx, hh, hB.out.trans (hb.mono hB.out.size)⟩
        case measure => simp [intOf]; omega
      · have hx0 : ¬ (kT ((i + j) / 2) - t < 0) := by omega
        go_wp2_with (go_at_call 80; refine (cmp_any _ _ _ _ _ _ _ _ _ hbd.1 hbd.2 h3 h4).mono ?_; rintro e w' ⟨rfl, hb⟩)
        go_roundw
        case rel => exact ⟨i, (i + j) / 2, rfl, by go_num, by omega, by omega, hl, High.step (by omega), hB.out.trans (hb.mono hB.out.size)⟩
        case measure => simp [intOf]; omega
    · obtain rfl : i = j := by omega
      by_cases hi : i < 23
      · obtain ⟨c0, c1, c2, c3, c4, c5, c6⟩ := (hkk.out.below hB.out).k i (by omega)
        have hbd := kT_bd i (by omega)
        go_wp2_with (go_at_call 80; refine (cmp_any _ _ _ _ _ _ _ _ _ hbd.1 hbd.2 h3 h4).mono ?_; rintro e w' ⟨rfl, hb⟩)
        go_ret2
        exact ⟨i, _, Found.at hl hh hi, rfl, hB.out.trans (hb.mono hB.out.size)⟩
      · obtain rfl : i = 23 := by omega
        go_wp2_with fail
        go_ret2
        exact ⟨23, _, Found.end hl, rfl, hB.out⟩

/-- What 'kind.Of' gives. -/
def OfPost (t : Int) (w : World) (e : Ending) (w' : World) : Prop := ∃ (i : Nat) (b : Bool) (r : KR), Found t i b ∧ r = (if b = true then kR i else kZ) ∧ e = .returned (.tuple #[.agg #[.int .u8 r.ty, .string r.nm, .int .u8 r.mask, .int .i64 r.least, .int .i64 r.most, .int .i64 r.unit, .int .i64 r.kids], .bool b]) ∧ Below w.heap.size w w'
set_option maxHeartbeats 400000 in
theorem of_any (t : Int) (w : World) (h3 : 0 ≤ t) (h4 : t ≤ 255) (hk : GTab w) :
    Calls Tryz.prog 44 #[.int .u8 t] w (OfPost t w) := by
  have hkk := hid hk
  clear hk
  go_enter Tryz.func44, Tryz.ntmps44
  go_wp2_with fail
  refine (bsf_any t _ h3 h4 (hkk.out.below ?_)).mono ?_
  · exact (Below.refl _ _).alloc (Nat.le_refl _) _
  rintro e w' ⟨i, b, hf, rfl, hb⟩
  have s7 := seven (new_blk hb)

  have H := hid hf
  have hbb : Below w.heap.size w w' := ((Below.refl w.heap.size w).alloc (Nat.le_refl _) _).trans (hb.mono (by simp))
  have hsz := hb.size
  simp only [World.size_alloc] at hsz
  cases b
  · go_wp2_with fail
    refine bodyPost_ret (v := .tuple #[kZ.val, .bool false]) (by simp [results, Tryz.results44, go_sem, s7, kZ, KR.val]) rfl ⟨i, false, kZ, H.out, rfl, rfl, ?_⟩
    repeat (first | with_reducible exact hbb | (with_reducible refine Below.setCell ?_ ?_ _; rotate_left; exact Nat.le_refl _))
  · have hi := (hf.2.2 rfl).1
    obtain ⟨c0, c1, c2, c3, c4, c5, c6⟩ := (hkk.out.below hbb).k i hi
    clear hf
    go_wp2_with fail
    refine bodyPost_ret (v := .tuple #[(kR i).val, .bool true]) (by simp [results, Tryz.results44, go_sem, s7, KR.val]) rfl ⟨i, true, kR i, H.out, rfl, rfl, ?_⟩
    repeat (first | with_reducible exact hbb | (with_reducible refine Below.setCell ?_ ?_ _; rotate_left; exact Nat.le_refl _))

set_option maxHeartbeats 1000000 in
theorem kinside_any (k : Int) (w : World) (h0 : 0 ≤ k) (h6 : k ≤ 6) (hg : GTab w) :
    Calls Tryz.prog 45 #[.int .i64 k] w fun e w' => e = .returned (.tuple #[.int .i64 (iR k).1, .int .i64 (iR k).2.1, .int .i64 (iR k).2.2]) ∧ Below w.heap.size w w' := by
  obtain ⟨n, rfl⟩ := Int.eq_ofNat_of_zero_le h0
  have hn : n < 7 := by omega
  obtain ⟨c0, c1, c2⟩ := hg.i n hn
  have e : iR (n : Int) = iRows.getD n (0, 0, 0) := by unfold iR; rw [if_pos (by omega)]; simp
  rw [e]
  obtain ⟨x, hx⟩ : ∃ x, iRows.getD n (0, 0, 0) = x := ⟨_, rfl⟩
  rw [hx] at c0 c1 c2 ⊢
  clear hx e hg
  go_enter Tryz.func45, Tryz.ntmps45
  go_wp2_with fail
  go_quiet (fail)
  go_wp2_with fail
  go_ret3
  exact ⟨rfl, below_drew (Below.refl _ _) _⟩
end Go.Proofs.YtmfmomfhiieilaaGreatDoor
/- A range over a function whose iterator itself ranges over an iterator: the iterator's promise speaks of the caller's own loop record alone, and tells the body which sequences may come. -/
set_option linter.unusedVariables false
namespace Go.Proofs.YtmfmomfhiieilaaGreatDoor.It
open Go.RowKit
variable {F : Fence} {n : Nat} {P : Program}

/-- An iterator's promise. 'Kp l': what a round of the loop with the record l keeps. 'Sp': which sequences may have come. -/
def SeqL {α : Type} (F : Fence) (n : Nat) (P : Program) (g : Nat) (lb : Array Value) (encs : α → Array Value) (Kp : Nat → World → World → Prop) (S Sp : List α → Prop) (w : World) : Prop :=
  ∀ (l : Nat) (J Jx : List α → World → Prop) (W : World), Below w.heap.size w W → w.heap.size ≤ l → l < W.heap.size → OwnFrom W.heap.size J → OwnFrom W.heap.size Jx →
    (∀ pre x W1, J pre W1 → Sp (pre ++ [x]) → YieldAt F (n - 1) P l (encs x) W1 fun e W' =>
      (e = .returned (.bool true) ∧ J (pre ++ [x]) W' ∧ Kp l W1 W') ∨ (e = .returned (.bool false) ∧ Jx (pre ++ [x]) W' ∧ Kp l W1 W')) →
    J [] W →
    CallsIn F n P g (#[.func (.yield l) #[] #[]] ++ lb) W fun e W' => (∃ v, e = .returned v) ∧ ((∃ xs, S xs ∧ J xs W') ∨ (∃ pre, Sp pre ∧ Jx pre W'))

/-- How the body of a round may be left. -/
def ownPostL {α : Type} (B : Nat) (Kp : World → World → Prop) (I : List α → World → Prop) (Ix : Code → List α → World → Prop) (xs : List α) (W : World) : Exit → Act → World → Prop
  | .normal, _, W' => KeepsFrom B W W' ∧ Kp W W' ∧ I xs W'
  | .ret, _, W' => KeepsFrom B W W' ∧ Kp W W' ∧ Ix .ret xs W'
  | .exit id, _, W' => KeepsFrom B W W' ∧ Kp W W' ∧ Ix (.exit id) xs W'
  | .goto t, _, W' => KeepsFrom B W W' ∧ Kp W W' ∧ Ix (.goto t) xs W'
  | .panic _, _, _ => False
  | .outgrown, _, _ => False
theorem room_of_none {F : Fence} (hd : F.depth = none) (k : Nat) : F.room k := fun d h => by rw [hd] at h; cases h
theorem yield_depth {F : Fence} (hd : F.depth = none) {m : Nat} (m' : Nat) {P : Program} {l : Nat} {args : Array Value} {W : World} {R : Ending → World → Prop} (h : YieldAt F m P l args W R) : YieldAt F m' P l args W R := by
  obtain ⟨fn, tmps, assign, body, hy, hR⟩ := h
  exact ⟨fn, tmps, assign, body, hy, hR.1, fun c cs _ => hR.2 c cs (room_of_none hd _)⟩

theorem wpIn_rangeFunc_L {α : Type} {g : Operand} {ps : Array Tmp} {assign body : Code} {Q : Exit → Act → World → Prop} {a : Act} {w : World}
    (hro : F.round = none) (h1 : 1 ≤ n) {gf : Nat} {lb : Array Value} (hg : a.eval g = .func (.func gf) #[] lb) (hFg : F.fn gf) (eg : ∀ args w, (callFunc gf args).run P w = .ok (.enter gf args) w)
    {encs : α → Array Value} {Kp : Nat → World → World → Prop} {S Sp : List α → Prop} {w0 : World} (hseq : SeqL F (n - 1) P gf lb encs Kp S Sp w0)
    (hKt : ∀ {l : Nat} {A B C : World}, Kp l A B → Kp l B C → Kp l A C) (hKb : ∀ (W : World) (l : Nat) (o o' : Obj), W.heap[l]? = some o → o.isCells = false → o.isWalk = false → Kp l W (W.putObj l o'))
    (hb0 : Below w0.heap.size w0 w) (hps : ∀ x, (encs x).size = ps.size)
    (I : List α → World → Prop) (Ix : Code → List α → World → Prop) (hI : OwnFrom w.heap.size I) (hIx : ∀ c, OwnFrom w.heap.size (Ix c)) (h0 : I [] w) (a₁ : α → Act)
    (hassign : ∀ (l : Nat) (x : α) (W : World) (K : Act → World → Prop), K (a₁ x) W →
      assign.wpIn (F.inRound l) (n - 1 - 1) P (Exit.then K (fun _ _ _ => False)) { tmps := (ps.zip (encs x)).foldl (fun t (p, v) => t.setIfInBounds p v) a.tmps, defers := [] } W)
    (hbody : ∀ (l : Nat) (pre : List α) (x : α) (W : World), l = w.heap.size + 1 → I pre W → Sp (pre ++ [x]) → body.wpIn (F.inRound l) (n - 1 - 1) P (ownPostL w.heap.size (Kp l) I Ix (pre ++ [x]) W) (a₁ x) W)
    (hdone : ∀ (D : Nat) (xs : List α) (W : World), w.heap.size ≤ D → S xs → I xs W → W.heap[D]? = some (.deferred (some [])) → Q .normal { a with defers := { target := .collected D, args := #[] } :: a.defers } W)
    (hstop : ∀ (D : Nat) (c : Code) (pre : List α) (W : World), w.heap.size ≤ D → Sp pre → Ix c pre W → W.heap[D]? = some (.deferred (some [])) → c.wpIn F n P Q { a with defers := { target := .collected D, args := #[] } :: a.defers } W) :
    (Code.rangeFunc g ps assign body).wpIn F n P Q a w := by
  refine wpIn_rangeFunc ?_
  intro fn hfn
  rw [hro]
  obtain ⟨rec, hrec⟩ : ∃ rec : LoopState → Option Code → Loop, rec = fun st pe => { state := st, pending := pe, fn, tmps := a.tmps, params := ps, assign, body, defers := w.heap.size } := ⟨_, rfl⟩
  obtain ⟨W1, hW1⟩ : ∃ W1, (w.alloc (.deferred (some []))).alloc (.loop (rec .ready none)) = W1 := ⟨_, rfl⟩
  have hs1 : W1.heap.size = w.heap.size + 2 := by rw [← hW1]; simp
  have hL1 : W1.heap[w.heap.size + 1]? = some (.loop (rec .ready none)) := by
    rw [← hW1]; have := World.alloc_heap_new (w.alloc (.deferred (some []))) (.loop (rec .ready none)); rwa [World.size_alloc] at this
  have hK1 : W1.heap[w.heap.size]? = some (.deferred (some [])) := by
    rw [← hW1]; exact (Below.heap_alloc _ _ _ (by simp)).trans (World.alloc_heap_new w _)
  have hI1 : I [] W1 := by rw [← hW1]; exact hI.alloc _ (hI.alloc _ h0)
  have hb1 : Below w0.heap.size w0 W1 := by
    rw [← hW1]; exact hb0.trans ((((Below.refl _ w).alloc (Nat.le_refl _) _).alloc (by simp) _).mono hb0.size)
  have other : ∀ {A B : World} {row : Option Nat} {b : Nat} {o : Obj}, A.grownBy B row → (∀ r, row = some r → W1.heap.size ≤ r ∧ ∃ o : Obj, A.heap[r]? = some o ∧ o.isCells = false) → b < W1.heap.size → A.heap[b]? = some o → B.heap[b]? = some o :=
    fun hg hr hb hA => (hg.block _ (Array.getElem?_eq_some_iff.1 hA).1 (fun e => by have := (hr _ e.symm).1; omega)).trans hA
  refine ⟨w.heap.size + 1, [{ target := .collected w.heap.size, args := #[] }], W1, { target := .fn (.func gf) lb, args := #[.func (.yield (w.heap.size + 1)) #[] #[]] }, W1, gf,
    #[.func (.yield (w.heap.size + 1)) #[] #[]] ++ lb, W1, ?_, ?_, ?_, ?_, fun _ => h1, ?_⟩
  · rw [← hW1, hrec]; exact run_enterLoop_outer _ _ _ _ _
  · simp only [resolve, hg]
    simp [go_sem]
  · intro f' hf'; simp [Target.leads] at hf'; subst hf'; exact hFg
  · simp [invoke, go_sem, eg]
  · refine (hseq (w.heap.size + 1)
      (fun pre W => I pre W ∧ W.heap[w.heap.size + 1]? = some (.loop (rec .ready none)) ∧ W.heap[w.heap.size]? = some (.deferred (some [])))
      (fun pre W => ∃ c, Ix c pre W ∧ W.heap[w.heap.size + 1]? = some (.loop (rec .done (some c))) ∧ W.heap[w.heap.size]? = some (.deferred (some [])))
      W1 hb1 (by have := hb0.size; omega) (by omega)
      (fun s A B row hs hg' hr => ⟨hI s A B row hs.1 hg' (fun r e => ⟨by have := (hr r e).1; omega, (hr r e).2⟩), other hg' hr (by omega) hs.2.1, other hg' hr (by omega) hs.2.2⟩)
      (fun s A B row hs hg' hr => by
        obtain ⟨c, hc, hl, hk⟩ := hs
        exact ⟨c, hIx c s A B row hc hg' (fun r e => ⟨by have := (hr r e).1; omega, (hr r e).2⟩), other hg' hr (by omega) hl, other hg' hr (by omega) hk⟩)
      ?_ ⟨hI1, hL1, hK1⟩).mono ?_
    · rintro pre x W ⟨hi, hl, hk⟩ hlen
      have hlt : w.heap.size + 1 < W.heap.size := (Array.getElem?_eq_some_iff.1 hl).1
      have hy := run_yield (P := P) (args := encs x) hl (by rw [hrec]; exact hps x)
      rw [hrec] at hy
      refine ⟨fn, _, assign, body, hy, roundIn_of_wpIn hfn (hassign _ x W _ ⟨_, run_beginRound hl (by rw [hrec]), ?_⟩)⟩
      have hl2 : (W.putObj (w.heap.size + 1) (.loop { rec .ready none with state := .busy })).heap[w.heap.size + 1]? = some (.loop { rec .ready none with state := .busy }) := World.putObj_heap_same hlt
      have hk2 : (W.putObj (w.heap.size + 1) (.loop { rec .ready none with state := .busy })).heap[w.heap.size]? = some (.deferred (some [])) := (World.putObj_heap_other (by omega)).trans hk
      have hw2 : Kp (w.heap.size + 1) W (W.putObj (w.heap.size + 1) (.loop { rec .ready none with state := .busy })) := hKb _ _ _ _ hl rfl rfl
      refine wpIn_mono (hbody _ pre x _ rfl (hI.putObj _ hi (by omega) hl rfl) hlen) ?_
      have fin : ∀ (jump : Option Code) (W3 : World), KeepsFrom w.heap.size (W.putObj (w.heap.size + 1) (.loop { rec .ready none with state := .busy })) W3 →
          (Instr.endRound (w.heap.size + 1) jump).run P W3 = .ok (.bool jump.isNone) (W3.putObj (w.heap.size + 1) (.loop (rec (if jump.isNone then .ready else .done) jump))) ∧
          W3.heap[w.heap.size + 1]? = some (.loop { rec .ready none with state := .busy }) ∧
          (W3.putObj (w.heap.size + 1) (.loop (rec (if jump.isNone then .ready else .done) jump))).heap[w.heap.size + 1]? = some (.loop (rec (if jump.isNone then .ready else .done) jump)) ∧
          (W3.putObj (w.heap.size + 1) (.loop (rec (if jump.isNone then .ready else .done) jump))).heap[w.heap.size]? = some (.deferred (some [])) := fun jump W3 hk3 => by
        have hl3 := hk3.same _ _ (by omega) hl2 rfl
        have := run_endRound (P := P) jump hl3
        rw [hrec] at this ⊢
        exact ⟨this, by rw [hrec] at hl3; exact hl3, World.putObj_heap_same (Array.getElem?_eq_some_iff.1 hl3).1, (World.putObj_heap_other (by omega)).trans (hk3.same _ _ (Nat.le_refl _) hk2 rfl)⟩
      rintro e a3 W3 hp
      cases e with
      | normal =>
        obtain ⟨hk3, hkp3, hi3⟩ := hp
        obtain ⟨hr, hl3, hl4, hk4⟩ := fin none W3 hk3
        exact ⟨_, _, hr, .inl ⟨rfl, ⟨hI.putObj _ hi3 (by omega) hl3 rfl, hl4, hk4⟩, hKt (hKt hw2 hkp3) (hKb _ _ _ _ hl3 rfl rfl)⟩⟩
      | ret =>
        obtain ⟨hk3, hkp3, hi3⟩ := hp
        obtain ⟨hr, hl3, hl4, hk4⟩ := fin (some .ret) W3 hk3
        exact ⟨_, _, hr, .inr ⟨rfl, ⟨.ret, (hIx _).putObj _ hi3 (by omega) hl3 rfl, hl4, hk4⟩, hKt (hKt hw2 hkp3) (hKb _ _ _ _ hl3 rfl rfl)⟩⟩
      | exit id =>
        obtain ⟨hk3, hkp3, hi3⟩ := hp
        obtain ⟨hr, hl3, hl4, hk4⟩ := fin (some (.exit id)) W3 hk3
        exact ⟨_, _, hr, .inr ⟨rfl, ⟨.exit id, (hIx _).putObj _ hi3 (by omega) hl3 rfl, hl4, hk4⟩, hKt (hKt hw2 hkp3) (hKb _ _ _ _ hl3 rfl rfl)⟩⟩
      | goto t =>
        obtain ⟨hk3, hkp3, hi3⟩ := hp
        obtain ⟨hr, hl3, hl4, hk4⟩ := fin (some (.goto t)) W3 hk3
        exact ⟨_, _, hr, .inr ⟨rfl, ⟨.goto t, (hIx _).putObj _ hi3 (by omega) hl3 rfl, hl4, hk4⟩, hKt (hKt hw2 hkp3) (hKb _ _ _ _ hl3 rfl rfl)⟩⟩
      | panic ch => exact hp.elim
      | outgrown => exact hp.elim
    · rintro e W2 ⟨⟨v, rfl⟩, (⟨xs, hS, hi, hl, hk⟩ | ⟨pre, hSp, c, hi, hl, hk⟩)⟩
      · exact ⟨none, _, by have := run_endLoop (P := P) hl (by rw [hrec]; simp); rw [hrec] at this; exact this, hdone _ xs _ (Nat.le_refl _) hS (hI.putObj _ hi (by omega) hl rfl) ((World.putObj_heap_other (by omega)).trans hk)⟩
      · exact ⟨some c, _, by have := run_endLoop (P := P) hl (by rw [hrec]; simp); rw [hrec] at this; exact this, hstop _ c pre _ (Nat.le_refl _) hSp ((hIx c).putObj _ hi (by omega) hl rfl) ((World.putObj_heap_other (by omega)).trans hk)⟩

/-- What a round of the loop with the record l keeps here: all but that record, and but cells of some types from block B on. -/
def Keep (T : List Nat) (B : Nat) (l : Nat) (W W' : World) : Prop := W.heap.size ≤ W'.heap.size ∧ ∀ (k : Nat) (o : Obj), W.heap[k]? = some o → (o.isCells = false → k ≠ l) → (B ≤ k → ∀ c t fr, o = .cells c t fr → t ∉ T) → W'.heap[k]? = some o
theorem Keep.refl (T : List Nat) (B l : Nat) (W : World) : Keep T B l W W := ⟨Nat.le_refl _, fun _ _ h _ _ => h⟩
theorem Keep.trans {T : List Nat} {B l : Nat} {X Y Z : World} (h : Keep T B l X Y) (k : Keep T B l Y Z) : Keep T B l X Z := ⟨Nat.le_trans h.1 k.1, fun i o ho hi ht => k.2 i o (h.2 i o ho hi ht) hi ht⟩
theorem Keep.put (T : List Nat) (B : Nat) (W : World) (l : Nat) (o o' : Obj) (hl : W.heap[l]? = some o) (hc : o.isCells = false) (_ : o.isWalk = false) : Keep T B l W (W.putObj l o') :=
  ⟨by simp, fun k x hx hk _ => by
    by_cases e : k = l
    · subst e
      rw [hl] at hx
      cases hx
      exact absurd rfl (hk hc)
    · exact (World.putObj_heap_other e).trans hx⟩
theorem Keep.grown {T : List Nat} {B l : Nat} {W W' : World} {row : Option Nat} (hg : W.grownBy W' row) (hr : ∀ r, row = some r → B ≤ r ∧ ∃ c t fr, W.heap[r]? = some (.cells c t fr) ∧ t ∈ T) : Keep T B l W W' :=
  ⟨hg.size, fun k o ho _ ht => by
    refine (hg.block k (Array.getElem?_eq_some_iff.1 ho).1 (fun e => ?_)).trans ho
    obtain ⟨hB, c, t, fr, hc, hm⟩ := hr k e.symm
    rw [hc] at ho
    cases ho
    exact ht hB c t fr rfl hm⟩
theorem Keep.grow {T : List Nat} {B l : Nat} {W W' : World} (hg : W.grownBy W' none) : Keep T B l W W' := Keep.grown hg (fun _ e => by cases e)
theorem Keep.from {T : List Nat} {B l B' : Nat} {W W' : World} (h : Keep T B l W W') (hl : l < B') : KeepsFrom B' W W' := ⟨h.1, fun k o hB ho hc => h.2 k o ho (fun _ => by omega) (fun _ c t fr e => by rw [e] at hc; cases hc)⟩
theorem Keep.cells {T : List Nat} {B l : Nat} {W W' : World} (h : Keep T B l W W') {b t : Nat} {c : Array Value} {fr : Nat × Nat} (hb : W.heap[b]? = some (.cells c t fr)) (ht : t ∉ T) : W'.heap[b]? = some (.cells c t fr) :=
  h.2 b _ hb (fun e => by cases e) (fun _ c' t' fr' e => by cases e; exact ht)
theorem Keep.cell {T : List Nat} {B l : Nat} {W W' : World} (h : Keep T B l W W') {b j : Nat} {v : Value} (hb : b < B) (hc : W.cell? ⟨b, j, none⟩ = some v) : W'.cell? ⟨b, j, none⟩ = some v := by
  cases ho : W.heap[b]? with
  | none => simp [World.cell?, ho] at hc
  | some o =>
    have hcells : o.isCells = true := by
      cases o <;> simp_all [World.cell?, Obj.isCells]
    have := h.2 b o ho (fun e => by rw [hcells] at e; cases e) (fun hB => by omega)
    simpa [World.cell?, ho, this] using hc
/-- The same of cells alone. -/
def KeepC (T : List Nat) (B : Nat) (_ : Nat) (W W' : World) : Prop := W.heap.size ≤ W'.heap.size ∧ ∀ (k : Nat) (c : Array Value) (t : Nat) (fr : Nat × Nat), W.heap[k]? = some (.cells c t fr) → (B ≤ k → t ∉ T) → W'.heap[k]? = some (.cells c t fr)
theorem KeepC.refl (T : List Nat) (B l : Nat) (W : World) : KeepC T B l W W := ⟨Nat.le_refl _, fun _ _ _ _ h _ => h⟩
theorem KeepC.trans {T : List Nat} {B l : Nat} {X Y Z : World} (h : KeepC T B l X Y) (k : KeepC T B l Y Z) : KeepC T B l X Z := ⟨Nat.le_trans h.1 k.1, fun i c t fr ho ht => k.2 i c t fr (h.2 i c t fr ho ht) ht⟩
theorem KeepC.put (T : List Nat) (B : Nat) (W : World) (l : Nat) (o o' : Obj) (hl : W.heap[l]? = some o) (hc : o.isCells = false) (_ : o.isWalk = false) : KeepC T B l W (W.putObj l o') :=
  ⟨by simp, fun k c t fr hx _ => by
    by_cases e : k = l
    · subst e
      rw [hl] at hx
      cases hx
      cases hc
    · exact (World.putObj_heap_other e).trans hx⟩
theorem Keep.toC {T : List Nat} {B l l' : Nat} {W W' : World} (h : Keep T B l W W') : KeepC T B l' W W' := ⟨h.1, fun k c t fr ho ht => h.2 k _ ho (fun e => by cases e) (fun hB c' t' fr' e => by cases e; exact ht hB)⟩
theorem KeepC.grow {T : List Nat} {B l : Nat} {W W' : World} (hg : W.grownBy W' none) : KeepC T B l W W' := (Keep.grow (l := l) hg).toC
theorem KeepC.cells {T : List Nat} {B l : Nat} {W W' : World} (h : KeepC T B l W W') {b t : Nat} {c : Array Value} {fr : Nat × Nat} (hb : W.heap[b]? = some (.cells c t fr)) (ht : t ∉ T) : W'.heap[b]? = some (.cells c t fr) := h.2 b c t fr hb (fun _ => ht)
theorem grown_drewN (w : World) (q : Nat) : w.grownBy (w.drewN q) none := ⟨rfl, rfl, rfl, Nat.le_refl _, fun _ _ _ => rfl⟩
end Go.Proofs.YtmfmomfhiieilaaGreatDoor.It
/- 'slices.Chunk' over bytes: the iterator, by its promise. -/
set_option linter.unusedVariables false
namespace Go.Proofs.YtmfmomfhiieilaaGreatDoor.It
open Go.RowKit Go.Shelf
attribute [local go_sem] Oper.semAt_some

/-- The first m multiples of k. -/
def upto (k m : Nat) : List Nat := (List.range m).map (· * k)
theorem upto_succ (k m : Nat) : upto k (m + 1) = upto k m ++ [m * k] := by simp [upto, List.range_succ]
theorem upto_len (k m : Nat) : (upto k m).length = m := by simp [upto]
/-- How many parts of k bytes. -/
def parts (k len : Nat) : Nat := (len + k - 1) / k
theorem parts_lt {k len j : Nat} (hk : 0 < k) : j < parts k len ↔ j * k < len := by
  unfold parts
  rw [Nat.lt_div_iff_mul_lt hk]
  constructor <;> intro h <;> omega
/-- One part as a value. -/
def part1 (b off len k : Nat) (i : Nat) : Array Value := #[.slice (some ⟨b, off + i, none⟩) (min k (len - i)) (min k (len - i))]
def PartS (k len : Nat) (xs : List Nat) : Prop := xs = upto k (parts k len)
def PartP (k len : Nat) (xs : List Nat) : Prop := ∃ m, m ≤ parts k len ∧ xs = upto k m
set_option maxRecDepth 100000 in
set_option maxHeartbeats 2000000 in
theorem chunk_seq (n : Nat) (T : List Nat) (B : Nat) (hT1 : 39 ∉ T) (hT2 : 3 ∉ T) (A : Option Addr) (bs bk b off len cap k : Nat) (w : World) (hA : A = some ⟨b, off, none⟩ ∨ len = 0)
    (hk1 : 1 ≤ k) (hk4 : k ≤ 4) (hlen : len ≤ 140737488355328) (hcap : len ≤ cap)
    (hs : w.heap[bs]? = some (.cells #[.slice A len cap] 39 (0, 0))) (hk : w.heap[bk]? = some (.cells #[.int .i64 k] 3 (0, 0))) :
    SeqL Fence.wide n Tryz.prog 129 #[.pointer (some ⟨bs, 0, none⟩), .pointer (some ⟨bk, 0, none⟩)] (part1 b off len k) (KeepC T B) (PartS k len) (PartP k len) w := by
  intro l J Jx W hW hlo hl hJ hJx hY h0
  have hsl : bs < w.heap.size := (Array.getElem?_eq_some_iff.1 hs).1
  have hkl : bk < w.heap.size := (Array.getElem?_eq_some_iff.1 hk).1
  have HS : Hid (W.heap[bs]? = some (.cells #[.slice A len cap] 39 (0, 0))) := hid (blk_below hs hW)
  have HK : Hid (W.heap[bk]? = some (.cells #[.int .i64 k] 3 (0, 0))) := hid (blk_below hk hW)
  clear hs hk
  refine callsIn_of_wp Tryz.func129 rfl trivial ?_ rfl
  simp only [Tryz.ntmps129, List.size_toArray, List.length_cons, List.length_nil, Nat.reduceAdd, Nat.reduceSub, Array.replicate_succ, Array.replicate_zero, List.push_toArray, List.append_toArray, List.nil_append, List.cons_append]
  rcases hA with rfl | rfl
  rotate_left
  · have cs := (one HS.out).1
    gi_wp2
    gi_loopw [4] (fun vi wr => vi = .int .i64 0 ∧ wr = W) (fun vi _ => 0)
    case atStart => exact ⟨rfl, rfl⟩
    case round =>
      obtain ⟨rfl, rfl⟩ := hrel
      gi_wp2
      go_end0
      exact ⟨⟨_, rfl⟩, .inl ⟨[], by unfold PartS parts; rw [Nat.div_eq_of_lt (by omega)]; rfl, h0⟩⟩
  gi_wp2
  gi_loopw [4] (fun vi wr => ∃ j : Nat, vi = .int .i64 ((j * k : Nat) : Int) ∧ j ≤ parts k len ∧ J (upto k j) wr ∧ Hid (wr.heap[bs]? = some (.cells #[.slice (some ⟨b, off, none⟩) len cap] 39 (0, 0))) ∧ Hid (wr.heap[bk]? = some (.cells #[.int .i64 k] 3 (0, 0)))) (fun vi _ => len + 4 - (intOf vi).toNat)
  case atStart => exact ⟨0, by simp, by omega, h0, HS, HK⟩
  case round =>
    obtain ⟨j, rfl, hj, hJs, hS, hK⟩ := hrel
    have cs := (one hS.out).1
    have ck := (one hK.out).1
    obtain ⟨i, hi⟩ : ∃ i, i = j * k := ⟨_, rfl⟩
    rw [← hi]
    by_cases hlt : i < len
    · have hp := hid (upto_succ k j)
      have hjl := hid ((parts_lt (k := k) (len := len) (j := j) (by omega)).2 (by rw [← hi]; exact hlt))
      have Hi := hid hi
      clear hi
      by_cases hm : len - i < k
      · gi_wp2
        gi_big_quiet_th (fail)
        have hJ2 : J (upto k j) (wr.drewN nq) := hJ _ wr _ none hJs (grown_drewN wr nq) (fun r e => by cases e)
        obtain ⟨fn, tmps, assign, body, hy, hR⟩ := hY (upto k j) i _ hJ2 ⟨j + 1, hjl.out, by rw [hp.out, Hi.out]⟩
        unfold part1 at hy
        have em : min k (len - i) = len - i := by omega
        rw [em] at hy
        gi_wp2
        refine ⟨fun h => (by cases h), ?_⟩
        refine hR.mono ?_
        rintro e W3 (⟨rfl, hJ3, hk3⟩ | ⟨rfl, hJx3, hkx⟩)
        · have hS3 : Hid (W3.heap[bs]? = some (.cells #[.slice (some ⟨b, off, none⟩) len cap] 39 (0, 0))) := hid (hk3.cells (show (wr.drewN nq).heap[bs]? = _ from hS.out) hT1)
          have hK3 : Hid (W3.heap[bk]? = some (.cells #[.int .i64 k] 3 (0, 0))) := hid (hk3.cells (show (wr.drewN nq).heap[bk]? = _ from hK.out) hT2)
          have hJ4 : Hid (J (upto k (j + 1)) W3) := hid (by rw [hp.out, ← Hi.out]; exact hJ3)
          have ck3 := (one hK3.out).1
          clear hy hR hJ3
          gi_wp2
          go_roundw
          case rel => exact ⟨j + 1, by rw [Nat.succ_mul, ← Hi.out]; go_num, hjl.out, hJ4.out, hS3, hK3⟩
          case measure => simp [intOf]; omega
        · gi_wp2
          refine bodyPost_ret (results_none rfl _ _ _) rfl ?_
          exact ⟨⟨_, rfl⟩, .inr ⟨_, ⟨j + 1, hjl.out, by rw [hp.out, ← Hi.out]⟩, hJx3⟩⟩
      · gi_wp2
        gi_big_quiet_th (fail)
        have hJ2 : J (upto k j) (wr.drewN nq) := hJ _ wr _ none hJs (grown_drewN wr nq) (fun r e => by cases e)
        obtain ⟨fn, tmps, assign, body, hy, hR⟩ := hY (upto k j) i _ hJ2 ⟨j + 1, hjl.out, by rw [hp.out, Hi.out]⟩
        unfold part1 at hy
        have em : min k (len - i) = k := by omega
        rw [em] at hy
        gi_wp2
        refine ⟨fun h => (by cases h), ?_⟩
        refine hR.mono ?_
        rintro e W3 (⟨rfl, hJ3, hk3⟩ | ⟨rfl, hJx3, hkx⟩)
        · have hS3 : Hid (W3.heap[bs]? = some (.cells #[.slice (some ⟨b, off, none⟩) len cap] 39 (0, 0))) := hid (hk3.cells (show (wr.drewN nq).heap[bs]? = _ from hS.out) hT1)
          have hK3 : Hid (W3.heap[bk]? = some (.cells #[.int .i64 k] 3 (0, 0))) := hid (hk3.cells (show (wr.drewN nq).heap[bk]? = _ from hK.out) hT2)
          have hJ4 : Hid (J (upto k (j + 1)) W3) := hid (by rw [hp.out, ← Hi.out]; exact hJ3)
          have ck3 := (one hK3.out).1
          clear hy hR hJ3
          gi_wp2
          go_roundw
          case rel => exact ⟨j + 1, by rw [Nat.succ_mul, ← Hi.out]; go_num, hjl.out, hJ4.out, hS3, hK3⟩
          case measure => simp [intOf]; omega
        · gi_wp2
          refine bodyPost_ret (results_none rfl _ _ _) rfl ?_
          exact ⟨⟨_, rfl⟩, .inr ⟨_, ⟨j + 1, hjl.out, by rw [hp.out, ← Hi.out]⟩, hJx3⟩⟩
    · have hje : Hid (j = parts k len) := hid (by
        rcases Nat.lt_or_ge j (parts k len) with h | h
        · have := (parts_lt (by omega)).1 h
          rw [← hi] at this
          exact absurd this hlt
        · omega)
      clear hi
      gi_wp2
      go_end0
      exact ⟨⟨_, rfl⟩, .inl ⟨_, congrArg (upto k) hje.out, hJs⟩⟩
theorem chunk_calls (A : Option Addr) (len cap : Nat) (k : Int) (w : World) (hk : 1 ≤ k) (hk4 : k ≤ 4) :
    Calls Tryz.prog 121 #[.slice A len cap, .int .i64 k] w fun e w' => e = .returned (.func (.func 129) #[] #[.pointer (some ⟨w.heap.size, 0, none⟩), .pointer (some ⟨w.heap.size + 1, 0, none⟩)]) ∧ w' = (w.alloc (.cells #[.slice A len cap] 39)).alloc (.cells #[.int .i64 k] 3) := by
  go_enter Tryz.func121, Tryz.ntmps121
  go_wp2
  go_ret
  exact ⟨rfl, rfl⟩
end Go.Proofs.YtmfmomfhiieilaaGreatDoor.It
/- 'wire.numbers': the numbers in bytes, as an iterator. -/
set_option linter.unusedVariables false
namespace Go.Proofs.YtmfmomfhiieilaaGreatDoor.It
open Go.RowKit Go.Shelf
attribute [local go_sem] Oper.semAt_some

/-- The number of m bytes from i on. -/
def numAt (bs : Nat → Int) (i : Nat) : Nat → Int
  | 0 => 0
  | m + 1 => numAt bs i m * 256 + bs (i + m)
theorem numAt_bd {bs : Nat → Int} {i k : Nat} (h : ∀ t, t < k → 0 ≤ bs (i + t) ∧ bs (i + t) ≤ 255) : ∀ m, m ≤ k → 0 ≤ numAt bs i m ∧ numAt bs i m < 256 ^ m := by
  intro m
  induction m with
  | zero => intro _; simp [numAt]
  | succ m ih =>
    intro hm
    have h1 := ih (by omega)
    have h2 := h m (by omega)
    unfold numAt
    rw [Int.pow_succ]
    have : (0 : Int) ≤ 256 ^ m := by omega
    omega
theorem or_byte (a b : Int) (h0 : 0 ≤ a) (h1 : a < 16777216) (h2 : 0 ≤ b) (h3 : b ≤ 255) : bits .or .u32 (a * 256 % 4294967296) b = a * 256 + b := by
  rw [Int.emod_eq_of_lt (by omega) (by omega)]
  obtain ⟨m, rfl⟩ := Int.eq_ofNat_of_zero_le h0
  obtain ⟨q, rfl⟩ := Int.eq_ofNat_of_zero_le h2
  have e : (m : Int) * 256 = ((m * 256 : Nat) : Int) := by omega
  rw [e, u32_or_nat _ _ (by omega) (by omega)]
  have := Nat.two_pow_add_eq_or_of_lt (i := 8) (b := q) (by omega) m
  rw [show m * 256 = 2 ^ 8 * m by omega, ← this]
  omega
theorem numAt_lt {bs : Nat → Int} {i k : Nat} (h : ∀ t, t < k → 0 ≤ bs (i + t) ∧ bs (i + t) ≤ 255) {m : Nat} (hm : m ≤ k) (h3 : m ≤ 3) : 0 ≤ numAt bs i m ∧ numAt bs i m < 16777216 := by
  have := numAt_bd h m hm
  refine ⟨this.1, Int.lt_of_lt_of_le this.2 ?_⟩
  have : m = 0 ∨ m = 1 ∨ m = 2 ∨ m = 3 := by omega
  rcases this with rfl | rfl | rfl | rfl <;> decide
def NumS (k len : Nat) (bs : Nat → Int) (xs : List Int) : Prop := xs = (upto k (len / k)).map (fun i => numAt bs i k)
def NumP (k len : Nat) (bs : Nat → Int) (xs : List Int) : Prop := ∃ m, m ≤ len / k ∧ xs = (upto k m).map (fun i => numAt bs i k)

/-- What the walk of the parts carries. -/
def NumI (k len off b bb bk X : Nat) (A : Option Addr) (cap l : Nat) (bs : Nat → Int) (J : List Int → World → Prop) (pre : List Nat) (W : World) : Prop :=
  J (pre.map (fun i => numAt bs i k)) W ∧ (∀ i ∈ pre, i + k ≤ len) ∧ (∀ t, t < len → W.cell? ⟨b, off + t, none⟩ = some (.int .u8 (bs t))) ∧
  W.heap[bk]? = some (.cells #[.int .i64 k] 3 (0, 0)) ∧ W.heap[X]? = some (.cells #[.func (.yield l) #[] #[]] 190 (0, 0))

theorem NumI.own {k len off b bb bk X : Nat} {A : Option Addr} {cap l : Nat} {bs : Nat → Int} {J : List Int → World → Prop} {B0 B1 : Nat} (hJ : OwnFrom B0 J) (h01 : B0 ≤ B1) (hb : 0 < len → b < B1) (hbk : bk < B1) (hX : X < B1) :
    OwnFrom B1 (NumI k len off b bb bk X A cap l bs J) := by
  intro pre V V' row hs hg hr
  obtain ⟨h1, h2, h3, h4, h5⟩ := hs
  have keep : ∀ {q : Nat} {o : Obj}, q < B1 → V.heap[q]? = some o → V'.heap[q]? = some o := fun hq ho => (hg.block _ (Array.getElem?_eq_some_iff.1 ho).1 (fun e => by have := (hr _ e.symm).1; omega)).trans ho
  refine ⟨hJ _ V V' row h1 hg (fun r e => ⟨by have := (hr r e).1; omega, (hr r e).2⟩), h2, fun t ht => ?_, keep hbk h4, keep hX h5⟩
  have hc := h3 t ht
  cases ho : V.heap[b]? with
  | none => simp [World.cell?, ho] at hc
  | some o =>
    have := keep (hb (by omega)) ho
    simpa [World.cell?, ho, this] using hc
/-- How the walk of the parts may have been left. -/
def NumX (k len : Nat) (bs : Nat → Int) (J Jx : List Int → World → Prop) (c : Code) (_ : List Nat) (W : World) : Prop := c = .ret ∧ ((∃ xs, NumS k len bs xs ∧ J xs W) ∨ (∃ ys, NumP k len bs ys ∧ Jx ys W))
theorem NumX.own {k len : Nat} {bs : Nat → Int} {J Jx : List Int → World → Prop} {B0 B1 : Nat} (hJ : OwnFrom B0 J) (hJx : OwnFrom B0 Jx) (h01 : B0 ≤ B1) (c : Code) : OwnFrom B1 (NumX k len bs J Jx c) := by
  intro pre V V' row hs hg hr
  refine ⟨hs.1, ?_⟩
  have hr' : ∀ r, row = some r → B0 ≤ r ∧ ∃ o : Obj, V.heap[r]? = some o ∧ o.isCells = false := fun r e => ⟨by have := (hr r e).1; omega, (hr r e).2⟩
  rcases hs.2 with ⟨xs, h1, h2⟩ | ⟨xs, h1, h2⟩
  · exact .inl ⟨xs, h1, hJ _ V V' row h2 hg hr'⟩
  · exact .inr ⟨xs, h1, hJx _ V V' row h2 hg hr'⟩
theorem part_last {k len : Nat} {pre : List Nat} {x : Nat} (hk : 0 < k) (h : PartP k len (pre ++ [x])) : ∃ m, pre = upto k m ∧ x = m * k ∧ m < parts k len ∧ x < len := by
  obtain ⟨m, hm, e⟩ := h
  cases m with
  | zero => simp [upto] at e
  | succ m =>
    rw [upto_succ] at e
    obtain ⟨e1, e2⟩ := List.append_inj' e rfl
    have e3 : x = m * k := by simpa using e2
    exact ⟨m, e1, e3, by omega, by rw [e3]; exact (parts_lt hk).1 (by omega)⟩
theorem parts_full {k len : Nat} (hk : 1 ≤ k) (h : 0 < parts k len → (parts k len - 1) * k + k ≤ len) : parts k len = len / k := by
  have h1 : len / k ≤ parts k len := by unfold parts; exact Nat.div_le_div_right (by omega)
  have h2 : parts k len ≤ len / k := by
    rcases Nat.eq_zero_or_pos (parts k len) with h0 | h0
    · rw [h0]; exact Nat.zero_le _
    · rw [Nat.le_div_iff_mul_le (by omega)]
      have e : parts k len * k = (parts k len - 1) * k + k := by rw [← Nat.succ_mul]; congr 1; omega
      rw [e]
      exact h h0
  exact Nat.le_antisymm h2 h1
set_option maxRecDepth 100000 in
set_option maxHeartbeats 4000000 in
theorem numbers_seq (n : Nat) (hn : 1 ≤ n) (T : List Nat) (B : Nat) (hT1 : 39 ∉ T) (hT2 : 3 ∉ T) (hT3 : 190 ∉ T) (A : Option Addr) (bb bk b off len cap k : Nat) (bs : Nat → Int) (w : World) (hA : A = some ⟨b, off, none⟩ ∨ len = 0)
    (hk : k = 1 ∨ k = 2 ∨ k = 4) (hlen : len ≤ 140737488355328) (hcap : len ≤ cap) (hbB : b < B) (hbd : ∀ t, t < len → 0 ≤ bs t ∧ bs t ≤ 255)
    (hc : ∀ t, t < len → w.cell? ⟨b, off + t, none⟩ = some (.int .u8 (bs t)))
    (hb : w.heap[bb]? = some (.cells #[.slice A len cap] 39 (0, 0))) (hkk : w.heap[bk]? = some (.cells #[.int .i64 k] 3 (0, 0))) :
    SeqL Fence.wide n Tryz.prog 120 #[.pointer (some ⟨bb, 0, none⟩), .pointer (some ⟨bk, 0, none⟩)] (fun x : Int => #[.int .u32 x]) (Keep T B) (NumS k len bs) (NumP k len bs) w := by
  intro l J Jx W hW hlo hl hJ hJx hY h0
  have hk1 : 1 ≤ k := by omega
  have hk4 : k ≤ 4 := by omega
  have HB : Hid (W.heap[bb]? = some (.cells #[.slice A len cap] 39 (0, 0))) := hid (blk_below hb hW)
  have HK : Hid (W.heap[bk]? = some (.cells #[.int .i64 k] 3 (0, 0))) := hid (blk_below hkk hW)
  have HC : Hid (∀ t, t < len → W.cell? ⟨b, off + t, none⟩ = some (.int .u8 (bs t))) := hid (fun t ht => (hW.cell (p := ⟨b, off + t, none⟩) (World.block_lt_of_cell? w _ (hc t ht))).trans (hc t ht))
  have cb := (one HB.out).1
  have ck := (one HK.out).1
  have hkl : bk < W.heap.size := (Array.getElem?_eq_some_iff.1 HK.out).1
  have hbl : bb < W.heap.size := (Array.getElem?_eq_some_iff.1 HB.out).1
  have hJ' := hid hJ
  have hJx' := hid hJx
  have hY' := hid hY
  have hc' := hid hc
  have h0' := hid h0
  have hAh := hid hA
  have hkh := hid hk
  clear hb hkk hJ hJx hY hc h0 hA hk
  refine callsIn_of_wp_marks Tryz.func120 rfl trivial ?_ rfl
  simp only [Tryz.ntmps120, List.size_toArray, List.length_cons, List.length_nil, Nat.reduceAdd, Nat.reduceSub, Array.replicate_succ, Array.replicate_zero, List.push_toArray, List.append_toArray, List.nil_append, List.cons_append]
  gi_wp2_with (fail)
  refine ⟨trivial, ?_⟩
  refine (callsIn_wide.2 (chunk_calls A len cap k _ (by omega) (by omega))).mono ?_
  rintro e w' ⟨rfl, rfl⟩
  gi_wp2_with (fail)
  obtain ⟨W1, hW1⟩ : ∃ W1, W1 = ((W.alloc (.cells #[.func (.yield l) #[] #[]] 190)).alloc (.cells #[.slice A len cap] 39)).alloc (.cells #[.int .i64 k] 3) := ⟨_, rfl⟩
  have hz1 : W1.heap.size = W.heap.size + 3 := by rw [hW1]; simp
  have hgr : Below W.heap.size W W1 := by rw [hW1]; exact below_alloc (below_alloc (below_alloc (Below.refl _ _) _) _) _
  have hX : W1.heap[W.heap.size]? = some (.cells #[.func (.yield l) #[] #[]] 190 (0, 0)) := by rw [hW1]; exact blk_alloc (blk_alloc (blk_new _ _))
  have hS1 : W1.heap[W.heap.size + 1]? = some (.cells #[.slice A len cap] 39 (0, 0)) := by
    rw [hW1]
    have := blk_new (W.alloc (.cells #[.func (.yield l) #[] #[]] 190)) (.cells #[.slice A len cap] 39)
    rw [World.size_alloc] at this
    exact blk_alloc this
  have hK1 : W1.heap[W.heap.size + 1 + 1]? = some (.cells #[.int .i64 k] 3 (0, 0)) := by
    rw [hW1]
    have := blk_new ((W.alloc (.cells #[.func (.yield l) #[] #[]] 190)).alloc (.cells #[.slice A len cap] 39)) (.cells #[.int .i64 k] 3)
    rw [World.size_alloc, World.size_alloc] at this
    exact this
  have h01 : Hid (J [] W1) := hid (by rw [hW1]; exact hJ'.out.alloc _ (hJ'.out.alloc _ (hJ'.out.alloc _ h0'.out)))
  rw [← hW1]
  have hbl : 0 < len → b < W.heap.size := fun h => World.block_lt_of_cell? W _ (HC.out 0 h)
  refine wpIn_rangeFunc_L rfl hn (gf := 129) (lb := #[.pointer (some ⟨W.heap.size + 1, 0, none⟩), .pointer (some ⟨W.heap.size + 1 + 1, 0, none⟩)]) rfl trivial (enters_of Tryz.func129 (by kernel_rfl) rfl)
    (chunk_seq (n - 1) T B hT1 hT2 A (W.heap.size + 1) (W.heap.size + 1 + 1) b off len cap k W1 hAh.out hk1 hk4 hlen hcap hS1 hK1) KeepC.trans (KeepC.put T B) (Below.refl _ _) (fun _ => rfl)
    (fun pre V => NumI k len off b bb bk W.heap.size A cap l bs J pre V) (fun c pre V => NumX k len bs J Jx c pre V)
    (NumI.own hJ'.out (by omega) (fun h => by have := hbl h; omega) (by omega) (by omega)) (fun c => NumX.own hJ'.out hJx'.out (by omega) c)
    ⟨h01.out, fun i hi => by simp at hi, fun t ht => (hgr.cell (p := ⟨b, off + t, none⟩) (hbl (by omega))).trans (HC.out t ht), blk_below HK.out hgr, hX⟩
    (fun x => { tmps := #[.func (.yield l) #[] #[], .pointer (some ⟨bb, 0, none⟩), .pointer (some ⟨bk, 0, none⟩), .pointer (some ⟨W.heap.size, 0, none⟩), .slice (some ⟨b, off + x, none⟩) (min k (len - x)) (min k (len - x)), undef, undef, undef, .slice A len cap, .int .i64 k, .func (.func 129) #[] #[.pointer (some ⟨W.heap.size + 1, 0, none⟩), .pointer (some ⟨W.heap.size + 1 + 1, 0, none⟩)], .slice (some ⟨b, off + x, none⟩) (min k (len - x)) (min k (len - x)), undef, undef, undef, undef, undef, undef, undef, undef, undef, undef, undef, undef, undef, undef, undef, undef, undef, undef, undef, undef, undef, undef], defers := [] }) ?assign ?body ?done ?stop
  case assign =>
    intro l x V K hK
    unfold part1
    gi_wp2
    exact hK
  case body =>
    rintro l2 pre x V rfl hI hP
    obtain ⟨m, rfl, hx, hm, hxl⟩ := part_last (by omega) hP
    obtain ⟨hJ0, hall, hcs, hbk, hXv⟩ := hI
    obtain ⟨mm, hmm⟩ : ∃ mm, mm = min k (len - x) := ⟨_, rfl⟩
    rw [← hmm]
    have hm1 : 1 ≤ mm := by omega
    have hmk : mm ≤ k := by omega
    have hml : x + mm ≤ len := by omega
    have hmm' := hid hmm
    have hx' := hid hx
    have hcs' := hid hcs
    have hP' := hid hP
    have hall' := hid hall
    have ckv := (one hbk).1
    have hbk' := hid hbk
    have hXc := (one hXv).1
    have hXv' := hid hXv
    have hJ0' := hid hJ0
    have hrk : Hid (mm = k → x + k ≤ len) := hid (by omega)
    have hrk' : Hid (mm < k → ¬ (x + k ≤ len)) := hid (by omega)
    have hW1' := hid hW1
    clear hmm hx hcs hP hall hbk hXv hJ0 hX hS1 hK1 hW1
    gi_wp2_with (fail)
    gi_loopw [5, 14] (fun xv tv wr => ∃ t : Nat, t ≤ mm ∧ tv = .int .i64 t ∧ xv = .int .u32 (numAt bs x t) ∧ wr = V) (fun _ tv _ => 4 - (intOf tv).toNat)
    case atStart => exact ⟨0, by omega, rfl, rfl, rfl⟩
    case round =>
      obtain ⟨t, ht, rfl, rfl, rfl⟩ := hrel
      by_cases hlt : t < mm
      · have hb0 := hbd (x + t) (by omega)
        have hc0 : wr.cell? ⟨b, off + x + t, none⟩ = some (.int .u8 (bs (x + t))) := by rw [Nat.add_assoc]; exact hcs'.out (x + t) (by omega)
        have hb1 := numAt_lt (bs := bs) (i := x) (k := mm) (fun t ht => hbd (x + t) (by omega)) (m := t) (by omega) (by omega)
        have hob := hid (or_byte (numAt bs x t) (bs (x + t)) hb1.1 hb1.2 hb0.1 hb0.2)
        clear hb1
        gi_wp2_with (fail)
        go_roundw
        case rel => exact ⟨t + 1, by omega, by go_num, by rw [hob.out]; rfl, trivial⟩
        case measure => simp [intOf]; omega
      · obtain rfl : t = mm := by omega
        by_cases hful : t < k
        · gi_wp2_with (fail)
          refine ⟨fun _ h => (by cases h), ?_⟩
          gi_wp2_with (fail)
          refine ⟨KeepsFrom.refl _ _, KeepC.refl _ _ _ _, rfl, .inl ⟨_, ?_, hJ0'.out⟩⟩
          have h1 := hrk'.out hful
          unfold NumS
          have : len / k = m := by
            rw [Nat.div_eq_iff (by omega)]
            have := hx'.out
            constructor <;> omega
          rw [this]
        · obtain rfl : t = k := by omega
          have hxk := hrk.out rfl
          have hmk1 : Hid (m + 1 ≤ len / t) := hid (by
            rw [Nat.le_div_iff_mul_le (by omega), Nat.succ_mul, ← hx'.out]
            exact hxk)
          have hps := hid (upto_succ t m)
          obtain ⟨fn, tmps, assign, body, hy, hR⟩ := yield_depth (F := Fence.wide) rfl (n - 1 - 1 - 1) (hY'.out ((upto t m).map (fun i => numAt bs i t)) (numAt bs x t) wr hJ0'.out ⟨m + 1, hmk1.out, by rw [hps.out, List.map_append, ← hx'.out]; rfl⟩)
          have hR' := hid hR
          clear hR
          gi_wp2_with (fail)
          refine ⟨fun h => (by cases h), ?_⟩
          refine RoundIn.mono (show RoundIn (Fence.wide.inRound (W.heap.size + 3 + 1)) (n - 1 - 1 - 1) Tryz.prog l fn tmps assign body wr _ from hR'.out) ?_
          have hl2 : l < W1.heap.size := by omega
          rintro e W3 (⟨rfl, hJ3, hk3⟩ | ⟨rfl, hJx3, hk3⟩)
          · have hk3' := hid hk3
            have hJ3' := hid hJ3
            clear hk3 hJ3
            gi_wp2_with (fail)
            refine ⟨hk3'.out.from (by omega), hk3'.out.toC, ?_, ?_, fun q hq => hk3'.out.cell hbB (hcs'.out q hq), hk3'.out.cells hbk'.out hT2, hk3'.out.cells hXv'.out hT3⟩
            · rw [List.map_append]
              exact hJ3'.out
            · intro i hi
              rcases List.mem_append.1 hi with hi | hi
              · exact hall'.out i hi
              · rw [List.mem_singleton.1 hi]
                exact hxk
          · have hk3' := hid hk3
            have hJ3' := hid hJx3
            clear hk3 hJx3
            gi_wp2_with (fail)
            refine ⟨hk3'.out.from (by omega), hk3'.out.toC, rfl, .inr ⟨_, ⟨m + 1, hmk1.out, ?_⟩, hJ3'.out⟩⟩
            rw [hps.out, List.map_append, ← hx'.out]
            rfl
  case done =>
    rintro D ys V hD hS ⟨hJ0, hall, -⟩ hK
    have hPL : parts k len = len / k := parts_full hk1 (fun h => hall _ (by rw [hS]; exact List.mem_map.2 ⟨parts k len - 1, by simp; omega, rfl⟩))
    unfold PartS at hS
    rw [hPL] at hS
    have hJ5 := hid (hJ'.out.putObj (.deferred none) hJ0 (by omega) hK rfl)
    have hS' := hid hS
    clear hJ0 hall hPL hS
    gi_wp2_with (fail)
    refine ⟨by simp, .inl ⟨_, _, rfl, run_takeDeferred hK, ?_⟩⟩
    exact ⟨_, results_none rfl _ _ _, ⟨_, rfl⟩, .inl ⟨_, by rw [hS'.out]; rfl, hJ5.out⟩⟩
  case stop =>
    rintro D c pre V hD hS ⟨rfl, hE⟩ hK
    have hE' := hid hE
    clear hE
    gi_wp2_with (fail)
    refine ⟨by simp, .inl ⟨_, _, rfl, run_takeDeferred hK, ?_⟩⟩
    refine ⟨_, results_none rfl _ _ _, ⟨_, rfl⟩, ?_⟩
    rcases hE'.out with ⟨xs, h1, h2⟩ | ⟨ys, h1, h2⟩
    · exact .inl ⟨xs, h1, hJ'.out.putObj _ h2 (by omega) hK rfl⟩
    · exact .inr ⟨ys, h1, hJx'.out.putObj _ h2 (by omega) hK rfl⟩
#print axioms numbers_seq
end Go.Proofs.YtmfmomfhiieilaaGreatDoor.It
/- 'slices.Collect' over an iterator of numbers; 'wire.Numbers'. -/
set_option linter.unusedVariables false
namespace Go.Proofs.YtmfmomfhiieilaaGreatDoor.It
open Go.RowKit Go.Shelf Go.Proofs.YtmfmomfhiieilaaGreatDoorW.PrintWords
attribute [local go_sem] Oper.semAt_some

theorem infoU : (Tryz.prog.info? 23).map (fun i => (i.zero, i.size, i.bytes)) = some (some (.int .u32 0), 1, 4) := by kernel_rfl
/-- What a round of the collecting loop keeps. -/
theorem keep_append {W w1 : World} {B Bx l n : Nat} {v v' : Value} {xs : List Value} {o : Obj} (hrow : W.ownsRow B 23 1 v n xs) (hg : (W.alloc o).grownBy w1 v.ownBlock) (hx : w1.heap[Bx]? = some (.cells #[v] 135 (0, 0))) (hB : B ≤ Bx) :
    Keep [23, 135] B l W (w1.setCell ⟨Bx, 0, none⟩ v') := by
  refine ((Keep.grow (World.grownBy_alloc W o none)).trans (Keep.grown hg (fun r e => ?_))).trans (Keep.grown (grownBy_setCell' w1 Bx v') (fun r e => ?_))
  · obtain ⟨cells, hc⟩ := own_typed hrow r e
    exact ⟨own_base hrow r e, cells, 23, (0, 0), blk_alloc hc, by simp⟩
  · cases e
    exact ⟨hB, _, _, _, hx, by simp⟩
set_option maxRecDepth 100000 in
set_option maxHeartbeats 4000000 in
theorem appendSeq_L (g : Nat) (lb : Array Value) (eg : ∀ args w, (callFunc g args).run Tryz.prog w = .ok (.enter g args) w)
    (S Sp : List Int → Prop) (hSp : ∀ pre, Sp pre → pre.length ≤ 1099511627776) (w : World) (hseq : SeqL Fence.wide 3 Tryz.prog g lb (fun x : Int => #[.int .u32 x]) (Keep [23, 135] w.heap.size) S Sp w) :
    CallsIn Fence.wide 4 Tryz.prog 119 #[.slice none 0 0, .func (.func g) #[] lb] w fun e w' => ∃ (v : Value) (ss : List Int), e = .returned v ∧ S ss ∧ w'.ownsRow w.heap.size 23 1 v ss.length (ss.map (Value.int .u32)) ∧ Below w.heap.size w w' := by
  obtain ⟨i0, hi, hz0, hz1, hz2⟩ := info_parts infoU
  refine callsIn_of_wp_marks Tryz.func119 rfl trivial ?_ rfl
  simp only [Tryz.ntmps119, List.size_toArray, List.length_cons, List.length_nil, Nat.reduceAdd, Nat.reduceSub, Array.replicate_succ, Array.replicate_zero, List.push_toArray, List.append_toArray, List.nil_append, List.cons_append]
  gi_wp2
  have hbx := Boxed.new w 135 (.slice none 0 0)
  have hb0 : Below w.heap.size w (w.alloc (.cells #[.slice none 0 0] 135)) := (Below.refl _ w).alloc (Nat.le_refl _) _
  refine wpIn_rangeFunc_L rfl (by omega) (gf := g) (lb := lb) rfl trivial eg hseq Keep.trans (Keep.put _ _) hb0 (fun _ => rfl)
    (fun pre W => (∃ v, Boxed W w.heap.size 135 v ∧ W.ownsRow w.heap.size 23 1 v pre.length (pre.map (Value.int .u32)) ∧ True) ∧ Below w.heap.size w W)
    (fun _ _ _ => False)
    (OwnFrom.and (Own.from (holdsRow_own w.heap.size w.heap.size 135 23 1 (fun pre : List Int => pre.length) (fun pre => pre.map (Value.int .u32)) (fun pre _ => True)) _) (ownFrom_below (Nat.le_refl _) (by simp)))
    (fun _ _ _ _ _ hs _ _ => hs)
    ⟨⟨_, hbx, World.ownsRow_nil _ _ _ _, trivial⟩, hb0⟩
    (fun x => { tmps := #[.slice none 0 0, .func (.func g) #[] lb, .pointer (some ⟨w.heap.size, 0, none⟩), undef, .slice none 0 0, .int .u32 x, .func (.func g) #[] lb, .int .u32 x, undef, undef, undef, undef, undef], defers := [] }) ?assign ?body ?done ?stop
  case assign =>
    intro l x W K hK
    gi_wp2
    exact hK
  case body =>
    rintro l pre x W hl ⟨⟨v, hv, hrow, -⟩, hB⟩ hP
    have hlN := hSp _ hP
    rw [List.length_append, List.length_singleton] at hlN
    have hc := hv.cell
    gi_wp2_with (gi_at_builtin; refine wpListIn_append_own _ rfl _ _ 135 rfl w.heap.size 23 i0 (.int .u32 0) 1 4 Tryz.underlying135 hi hz0 hz1 hz2 rfl (by decide) _ _ _ rfl (hrow.alloc _) ⟨W.heap.size, 0, none⟩ 1 1 [.int .u32 x] rfl rfl (cell_one_new _ _ _) (by simp [Value.oneCell']) (by unfold maxLen; omega) (by omega) (by have := hB.size; simp; omega) ?_; intro v' w1 hown' hgrow _; obtain ⟨g', cap', rfl⟩ := ownsRow_succ hown'; obtain ⟨hv1, hv2, hr2, hk2, hb2⟩ := hv.appended (by decide) hrow hB.size (Nat.le_refl _) hown' hgrow; have hc1 := hv1.cell; have hf1 := hv1.frozen)
    exact ⟨hk2.from _, keep_append hrow hgrow hv1 (Nat.le_refl _), ⟨_, hv2, by simpa using hr2, trivial⟩, hB.trans hb2⟩
  case done =>
    rintro D ys W hD hS ⟨⟨v, hv, hrow, -⟩, hB⟩ hK
    have hc := hv.cell
    gi_wp2
    refine ⟨by simp, .inl ⟨_, _, rfl, run_takeDeferred hK, ?_⟩⟩
    exact ⟨_, results_tmp rfl _ _ _, v, ys, rfl, hS, ownsRow_putObj hrow _ hK rfl, hB.trans (belowK_b (w := w) (Nat.le_refl _) W D _ _ (by simp at hD; omega) hK rfl rfl)⟩
  case stop =>
    rintro D c pre W _ _ h _
    exact h.elim
end Go.Proofs.YtmfmomfhiieilaaGreatDoor.It
/- 'wire.Numbers' and 'slices.Collect' by their contracts; slices of bytes as the walks read them. -/
set_option linter.unusedVariables false
namespace Go.Proofs.YtmfmomfhiieilaaGreatDoor
open Go.RowKit Go.Shelf Go.Proofs.YtmfmomfhiieilaaGreatDoor.It Go.Proofs.YtmfmomfhiieilaaGreatDoorW.PrintWords

/-- Bytes that can be read at A. -/
def BC (w : World) (A : Option Addr) (l : List Int) : Prop := Kd.C (Kd.int .u8) w A l.length l
def Byt (l : List Int) : Prop := ∀ x ∈ l, 0 ≤ x ∧ x ≤ 255
theorem BC.below {w w' : World} {A : Option Addr} {l : List Int} (h : BC w A l) (hb : Below w.heap.size w w') : BC w' A l := Kd.C_below h hb
theorem ints_cells {k : IntKind} {w : World} {A : Option Addr} {l : List Int} (h : Kd.C (Kd.int k) w A l.length l) : l = [] ∨ ∃ b off, A = some ⟨b, off, none⟩ ∧ b < w.heap.size ∧ ∀ t, t < l.length → w.cell? ⟨b, off + t, none⟩ = some (.int k (l.getD t 0)) := by
  rcases Nat.eq_zero_or_pos l.length with h0 | h0
  · exact .inl (List.eq_nil_of_length_eq_zero h0)
  · obtain ⟨⟨b, off, spot⟩, rfl, hc⟩ := h.2.2 h0
    have hcell : ∀ t, t < l.length → w.cell? ((⟨b, off, spot⟩ : Addr).add t) = some (.int k (l.getD t 0)) := fun t ht => by
      obtain ⟨c, hs, hK, hu⟩ := hc t (l.getD t 0) (by rw [List.getD_eq_getElem?_getD, List.getElem?_eq_getElem ht]; rfl)
      have hK' : c = [.int k (l.getD t 0)] := hK
      have := hu 0 _ (by rw [hK']; rfl)
      simpa only [Kd.int, Kd.scalar, Nat.mul_one, Nat.add_zero] using this
    have hsp : spot = none := by
      have := hcell 0 h0
      simp only [Addr.add, if_true] at this
      cases spot with
      | none => rfl
      | some x =>
        exfalso
        unfold World.cell? at this
        split at this
        · simp at this
        · cases this
    subst hsp
    have hcell2 : ∀ t, t < l.length → w.cell? ⟨b, off + t, none⟩ = some (.int k (l.getD t 0)) := fun t ht => by
      have := hcell t ht
      by_cases h : t = 0
      · subst h; simpa [Addr.add] using this
      · simpa [Addr.add, h] using this
    exact .inr ⟨b, off, rfl, World.block_lt_of_cell? w _ (hcell2 0 h0), hcell2⟩
theorem ints_mk {k : IntKind} {w : World} {b off : Nat} {l : List Int} (hl : l.length ≤ 9223372036854775807) (h : ∀ t, t < l.length → w.cell? ⟨b, off + t, none⟩ = some (.int k (l.getD t 0))) : Kd.C (Kd.int k) w (some ⟨b, off, none⟩) l.length l :=
  ⟨rfl, hl, fun _ => ⟨_, rfl, fun j p hj => ⟨[.int k p], rfl, rfl, fun i u hu => by
    obtain ⟨hlt, rfl⟩ := List.getElem?_eq_some_iff.1 hj
    cases i with
    | zero =>
      have := h j hlt
      rw [List.getD_eq_getElem?_getD, List.getElem?_eq_getElem hlt] at this
      simp only [List.getElem?_cons_zero, Option.some.injEq] at hu
      subst hu
      simp only [Kd.int, Kd.scalar, Nat.mul_one, Nat.add_zero]
      by_cases h0 : j = 0
      · subst h0; simpa [Addr.add] using this
      · simpa [Addr.add, h0] using this
    | succ i => simp at hu⟩⟩⟩
theorem ints_nil {k : IntKind} {w : World} (A : Option Addr) : Kd.C (Kd.int k) w A 0 [] := ⟨rfl, by omega, fun h => absurd h (by omega)⟩
/-- A row of numbers of the call's own, in the words of the kinds. -/
theorem R_of_own {k : IntKind} {e base : Nat} {w : World} {v : Value} {l : List Int} (h : w.ownsRow base e 1 v l.length (l.map (Value.int k))) : Kd.R (Kd.int k) e w base (fun _ => True) v l := by
  refine ⟨fun _ _ => trivial, l.map (Value.int k), h, by simp [Kd.int, Kd.scalar], fun j p hj => ?_⟩
  have hlt := (List.getElem?_eq_some_iff.1 hj).1
  show ((l.map (Value.int k)).drop (j * 1)).take 1 = [Value.int k p]
  rw [Nat.mul_one, List.take_one, List.head?_drop, List.getElem?_map, hj]
  rfl
theorem R_base {α : Type} {d : Kd α} {e : Nat} {w : World} {b0 b1 : Nat} {ok : Nat → Prop} {v : Value} {xs : List α} (h : d.R e w b1 ok v xs) (hb : b0 ≤ b1) : d.R e w b0 ok v xs := Kd.R_lower h hb

def numsOf (k : Nat) (l : List Int) : List Int := (upto k (l.length / k)).map (fun i => numAt (fun t => l.getD t 0) i k)
theorem collect_L (g : Nat) (lb : Array Value) (eg : ∀ args w, (callFunc g args).run Tryz.prog w = .ok (.enter g args) w)
    (S Sp : List Int → Prop) (hSp : ∀ pre, Sp pre → pre.length ≤ 1099511627776) (w : World) (hseq : SeqL Fence.wide 3 Tryz.prog g lb (fun x : Int => #[.int .u32 x]) (Keep [23, 135] w.heap.size) S Sp w) :
    Calls Tryz.prog 102 #[.func (.func g) #[] lb] w fun e w' => ∃ (v : Value) (ss : List Int), e = .returned v ∧ S ss ∧ w'.ownsRow w.heap.size 23 1 v ss.length (ss.map (Value.int .u32)) ∧ Below w.heap.size w w' := by
  go_enter Tryz.func102, Tryz.ntmps102
  go_wp2_with fail
  refine (callsIn_wide.1 (appendSeq_L g lb eg S Sp hSp w hseq)).mono ?_
  rintro e w' ⟨v, ss, rfl, hS, hrow, hb⟩
  go_wp2_with fail
  go_ret
  exact ⟨v, ss, rfl, hS, hrow, hb⟩
theorem numbers_calls (k : Int) (A : Option Addr) (n c : Nat) (w : World) :
    Calls Tryz.prog 103 #[.int .i64 k, .slice A n c] w fun e w' => e = .returned (.func (.func 120) #[] #[.pointer (some ⟨w.heap.size + 1, 0, none⟩), .pointer (some ⟨w.heap.size, 0, none⟩)]) ∧ w' = (w.alloc (.cells #[.int .i64 k] 3)).alloc (.cells #[.slice A n c] 39) := by
  go_enter Tryz.func103, Tryz.ntmps103
  go_wp2
  go_ret
  exact ⟨rfl, rfl⟩
/-- What 'wire.Numbers' gives. -/
def NumsPost (L : List Int) (w : World) (e : Ending) (w' : World) : Prop := ∃ v : Value, e = .returned v ∧ Kd.R (Kd.int .u32) 23 w' w.heap.size (fun _ => True) v L ∧ Below w.heap.size w w'
theorem right_any (k : Int) (w : World) : Calls Tryz.prog 101 #[.int .i64 k] w fun e w' => e = .returned (.bool (k == 1 || k == 2 || k == 4)) ∧ w = w' := by
  by_cases h1 : k = 1
  · subst h1
    go_enter Tryz.func101, Tryz.ntmps101
    go_wp2
    go_ret
    exact ⟨rfl, rfl⟩
  · have e1 : (k == 1) = false := by simp [h1]
    by_cases h2 : k = 2
    · subst h2
      go_enter Tryz.func101, Tryz.ntmps101
      go_wp2
      go_ret
      exact ⟨rfl, rfl⟩
    · have e2 : (k == 2) = false := by simp [h2]
      have E : Hid ((k == 1 || k == 2 || k == 4) = (k == 4)) := hid (by simp [h1, h2])
      clear h1 h2
      go_enter Tryz.func101, Tryz.ntmps101
      go_wp2
      go_ret
      exact ⟨by rw [E.out]; rfl, rfl⟩
theorem NumP.len {k len : Nat} {bs : Nat → Int} {pre : List Int} {N : Nat} (h : NumP k len bs pre) (hl : len ≤ N) : pre.length ≤ N := by
  obtain ⟨m, hm, rfl⟩ := h
  rw [List.length_map, upto_len]
  have := Nat.div_le_self len k
  omega
/-- The numbers of a row of bytes: the promise of 'wire.numbers', from what can be read. -/
theorem nums_seq (k : Nat) (hk : k = 1 ∨ k = 2 ∨ k = 4) (A : Option Addr) (c : Nat) (l : List Int) (w w1 : World) (hC : BC w A l) (hB : Byt l) (hc : l.length ≤ c) (hl : l.length ≤ 1099511627776) (hb : Below w.heap.size w w1) {n bb bk : Nat} (hn : 1 ≤ n) {T : List Nat} (hT : 39 ∉ T ∧ 3 ∉ T ∧ 190 ∉ T)
    (hbb : w1.heap[bb]? = some (.cells #[.slice A l.length c] 39 (0, 0))) (hkb : w1.heap[bk]? = some (.cells #[.int .i64 k] 3 (0, 0))) (hsz : 0 < w.heap.size) :
    SeqL Fence.wide n Tryz.prog 120 #[.pointer (some ⟨bb, 0, none⟩), .pointer (some ⟨bk, 0, none⟩)] (fun x : Int => #[.int .u32 x]) (Keep T w.heap.size) (NumS k l.length (fun t => l.getD t 0)) (NumP k l.length (fun t => l.getD t 0)) w1 := by
  have hbd : ∀ t, t < l.length → 0 ≤ l.getD t 0 ∧ l.getD t 0 ≤ 255 := fun t ht => by
    rw [List.getD_eq_getElem?_getD, List.getElem?_eq_getElem ht]
    exact hB _ (List.getElem_mem ht)
  rcases ints_cells hC with rfl | ⟨b, off, rfl, hlt, hcell⟩
  · exact numbers_seq n hn T w.heap.size hT.1 hT.2.1 hT.2.2 A bb bk 0 0 0 c k _ w1 (.inr rfl) hk (by omega) (by simp) (by omega) (fun t ht => by simp at ht) (fun t ht => by simp at ht) hbb hkb
  · exact numbers_seq n hn T w.heap.size hT.1 hT.2.1 hT.2.2 _ bb bk b off l.length c k _ w1 (.inl rfl) hk (by omega) hc (by omega) hbd (fun t ht => (hb.cell (p := ⟨b, off + t, none⟩) hlt).trans (hcell t ht)) hbb hkb
set_option maxHeartbeats 1000000 in
theorem Numbers_any (k : Nat) (hk : k = 1 ∨ k = 2 ∨ k = 4) (A : Option Addr) (c : Nat) (l : List Int) (w : World) (hC : BC w A l) (hB : Byt l) (hc : l.length ≤ c) (hl : l.length ≤ 1099511627776) (hd : l.length % k = 0) :
    Calls Tryz.prog 84 #[.int .i64 k, .slice A l.length c] w (NumsPost (numsOf k l) w) := by
  have hrt : Hid (((k : Int) == 1 || (k : Int) == 2 || (k : Int) == 4) = true) := hid (by rcases hk with rfl | rfl | rfl <;> rfl)
  have hC' := hid hC
  have hB' := hid hB
  have hk1 : (1 : Int) ≤ (k : Int) := by omega
  have hk4 : (k : Int) ≤ 4 := by omega
  have hk' := hid hk
  have hd' : ((l.length : Int) % (k : Int) == 0) = true := by
    rw [beq_iff_eq, ← Int.natCast_emod, hd]
    rfl
  have hd2 : ((l.length : Int) % (k : Int) != 0) = false := by
    rw [bne_eq_false_iff_eq, ← Int.natCast_emod, hd]
    rfl
  clear hC hB hk
  go_enter Tryz.func84, Tryz.ntmps84
  go_wp2_with fail
  refine (right_any _ _).mono ?_
  rintro e w' ⟨rfl, rfl⟩
  rw [hrt.out]
  go_wp2_with fail
  refine (numbers_calls _ _ _ _ _).mono ?_
  rintro e w' ⟨rfl, rfl⟩
  have hsz : (w.alloc (.cells #[.int .i64 k] 3)).heap.size = w.heap.size + 1 := by simp
  have hsz2 : ((w.alloc (.cells #[.int .i64 k] 3)).alloc (.cells #[.slice A l.length c] 39)).heap.size = w.heap.size + 2 := by simp
  have hbb : ((w.alloc (.cells #[.int .i64 k] 3)).alloc (.cells #[.slice A l.length c] 39)).heap[w.heap.size + 1]? = some (.cells #[.slice A l.length c] 39 (0, 0)) := by rw [← hsz]; exact blk_new _ _
  have hkb : ((w.alloc (.cells #[.int .i64 k] 3)).alloc (.cells #[.slice A l.length c] 39)).heap[w.heap.size]? = some (.cells #[.int .i64 k] 3 (0, 0)) := blk_alloc (blk_new _ _)
  have hb2 : Below w.heap.size w ((w.alloc (.cells #[.int .i64 k] 3)).alloc (.cells #[.slice A l.length c] 39)) := below_alloc (below_alloc (Below.refl _ _) _) _
  have hseq := nums_seq k hk'.out A c l _ _ (hC'.out.below hb2) hB'.out hc hl (Below.refl _ _) (n := 3) (by omega) (T := [23, 135]) (by decide) hbb hkb (by omega)
  have HS := hid hseq
  clear hseq hbb hkb hsz hsz2
  go_wp2_with fail
  refine (collect_L 120 _ (enters_of Tryz.func120 (by kernel_rfl) rfl) _ _ (fun pre h => NumP.len h hl) _ HS.out).mono ?_
  rintro e w' ⟨v, ss, rfl, hS, hrow, hb⟩
  have hB2 := hid hb2
  clear hb2
  go_wp2_with fail
  go_ret
  refine ⟨v, rfl, ?_, cthen hB2.out hb⟩
  have hss : ss = numsOf k l := hS
  rw [← hss]
  exact R_base (R_of_own hrow) (by simp; omega)
end Go.Proofs.YtmfmomfhiieilaaGreatDoor
