import Derived.Test.YtjgcdjfeglhalaaDoorProg
import Derived.Below
import Derived.WalkKit
import Derived.KernelRfl
import Derived.RowKit3
import Derived.Deep.LoopGhost
import Derived.Deep.QuietTactic
import Derived.BigQuiet
import Derived.WalkSpells
import Derived.WalkLawsBesides
import Derived.Outline
namespace Go.Proofs.YtjgcdjfeglhalaaDoor
open Go.RowKit
theorem hid {p : Prop} (h : p) : Hid p := h

/-- A row of the table of kinds. -/
structure KR where
  ty : Int
  nm : ByteArray
  mask : Int
  least : Int
  most : Int
  unit : Int
  kids : Int
def kRows : List KR := [
  ⟨0, ⟨#[100, 97, 116, 97]⟩, 15, 13, 65531, 1, 0⟩,
  ⟨1, ⟨#[105, 110, 105, 116]⟩, 0, 16, 16, 1, 2⟩,
  ⟨2, ⟨#[105, 110, 105, 116, 45, 97, 99, 107]⟩, 0, 16, 16, 1, 2⟩,
  ⟨3, ⟨#[115, 97, 99, 107]⟩, 0, 12, 65531, 4, 0⟩,
  ⟨4, ⟨#[104, 101, 97, 114, 116, 98, 101, 97, 116]⟩, 0, 0, 0, 1, 1⟩,
  ⟨5, ⟨#[104, 101, 97, 114, 116, 98, 101, 97, 116, 45, 97, 99, 107]⟩, 0, 0, 0, 1, 1⟩,
  ⟨6, ⟨#[97, 98, 111, 114, 116]⟩, 1, 0, 0, 1, 3⟩,
  ⟨7, ⟨#[115, 104, 117, 116, 100, 111, 119, 110]⟩, 0, 4, 4, 1, 0⟩,
  ⟨8, ⟨#[115, 104, 117, 116, 100, 111, 119, 110, 45, 97, 99, 107]⟩, 0, 0, 0, 1, 0⟩,
  ⟨9, ⟨#[101, 114, 114, 111, 114]⟩, 0, 0, 0, 1, 4⟩,
  ⟨10, ⟨#[99, 111, 111, 107, 105, 101, 45, 101, 99, 104, 111]⟩, 0, 1, 65531, 1, 0⟩,
  ⟨11, ⟨#[99, 111, 111, 107, 105, 101, 45, 97, 99, 107]⟩, 0, 0, 0, 1, 0⟩,
  ⟨12, ⟨#[101, 99, 110, 101]⟩, 0, 4, 4, 1, 0⟩,
  ⟨13, ⟨#[99, 119, 114]⟩, 0, 4, 4, 1, 0⟩,
  ⟨14, ⟨#[115, 104, 117, 116, 100, 111, 119, 110, 45, 99, 111, 109, 112, 108, 101, 116, 101]⟩, 1, 0, 0, 1, 0⟩,
  ⟨15, ⟨#[97, 117, 116, 104]⟩, 0, 5, 65531, 1, 0⟩,
  ⟨64, ⟨#[105, 45, 100, 97, 116, 97]⟩, 15, 17, 65531, 1, 0⟩,
  ⟨128, ⟨#[97, 115, 99, 111, 110, 102, 45, 97, 99, 107]⟩, 0, 4, 4, 1, 2⟩,
  ⟨130, ⟨#[114, 101, 45, 99, 111, 110, 102, 105, 103]⟩, 0, 0, 0, 1, 5⟩,
  ⟨132, ⟨#[112, 97, 100]⟩, 0, 0, 65531, 1, 0⟩,
  ⟨192, ⟨#[102, 111, 114, 119, 97, 114, 100, 45, 116, 115, 110]⟩, 0, 4, 65531, 4, 0⟩,
  ⟨193, ⟨#[97, 115, 99, 111, 110, 102]⟩, 0, 4, 4, 1, 6⟩,
  ⟨194, ⟨#[105, 45, 102, 111, 114, 119, 97, 114, 100, 45, 116, 115, 110]⟩, 0, 4, 65531, 8, 0⟩]
def kZ : KR := ⟨0, ⟨#[]⟩, 0, 0, 0, 0, 0⟩
def kR (i : Nat) : KR := kRows.getD i kZ
def kTypes : List Int := kRows.map (·.ty)
def kT (i : Nat) : Int := (kR i).ty
def KR.val (r : KR) : Value := .agg #[.int .u8 r.ty, .string r.nm, .int .u8 r.mask, .int .i64 r.least, .int .i64 r.most, .int .i64 r.unit, .int .i64 r.kids]
structure KRow (w : World) (i : Nat) (r : KR) : Prop where
  c0 : w.cell? ⟨1, i * 7, none⟩ = some (.int .u8 r.ty)
  c1 : w.cell? ⟨1, i * 7 + 1, none⟩ = some (.string r.nm)
  c2 : w.cell? ⟨1, i * 7 + 2, none⟩ = some (.int .u8 r.mask)
  c3 : w.cell? ⟨1, i * 7 + 3, none⟩ = some (.int .i64 r.least)
  c4 : w.cell? ⟨1, i * 7 + 4, none⟩ = some (.int .i64 r.most)
  c5 : w.cell? ⟨1, i * 7 + 5, none⟩ = some (.int .i64 r.unit)
  c6 : w.cell? ⟨1, i * 7 + 6, none⟩ = some (.int .i64 r.kids)
def KTab (w : World) : Prop := 2 ≤ w.heap.size ∧ ∀ i, i < 23 → KRow w i (kR i)
theorem KTab.below {w w' : World} (h : KTab w) (hb : Below w.heap.size w w') : KTab w' := by
  have hz := h.1
  refine ⟨Nat.le_trans h.1 hb.size, fun i hi => ?_⟩
  have r := h.2 i hi
  have cc : ∀ o, w'.cell? ⟨1, o, none⟩ = w.cell? ⟨1, o, none⟩ := fun o => hb.cell (p := ⟨1, o, none⟩) (by simp; omega)
  exact ⟨by rw [cc]; exact r.c0, by rw [cc]; exact r.c1, by rw [cc]; exact r.c2, by rw [cc]; exact r.c3, by rw [cc]; exact r.c4, by rw [cc]; exact r.c5, by rw [cc]; exact r.c6⟩
theorem kT_bd (i : Nat) (h : i < 23) : 0 ≤ kT i ∧ kT i ≤ 255 := by
  have : ∀ i, i < 23 → 0 ≤ kT i ∧ kT i ≤ 255 := by decide
  exact this i h
theorem kT_mono (i j : Nat) (h : i < j) (hj : j < 23) : kT i < kT j := by
  have : ∀ j, j < 23 → ∀ i, i < j → kT i < kT j := by decide
  exact this j hj i h

set_option maxHeartbeats 400000 in
theorem cmp_any (ty t : Int) (nm : ByteArray) (mk a b c d : Int) (w : World) (h1 : 0 ≤ ty) (h2 : ty ≤ 255) (h3 : 0 ≤ t) (h4 : t ≤ 255) :
    Calls Tryd.prog 30 #[.agg #[.int .u8 ty, .string nm, .int .u8 mk, .int .i64 a, .int .i64 b, .int .i64 c, .int .i64 d], .int .u8 t] w fun e w' => e = .returned (.int .i64 (ty - t)) ∧ Below w.heap.size w w' := by
  go_enter Tryd.func30, Tryd.ntmps30
  go_wp2
  go_ret
  exact ⟨rfl, (Below.refl _ _).alloc (Nat.le_refl _) _⟩

def Low (i : Nat) (t : Int) : Prop := ∀ a, a < i → kT a < t
def High (j : Nat) (t : Int) : Prop := ∀ a, a < 23 → j ≤ a → t ≤ kT a
theorem Low.step {m : Nat} {t : Int} (hm : m < 23) (h : kT m < t) : Low (m + 1) t := fun a ha => by
  rcases Nat.lt_or_ge a m with g | g
  · exact Int.lt_trans (kT_mono a _ g hm) h
  · rwa [show a = m by omega]
theorem High.step {m : Nat} {t : Int} (h : ¬ kT m < t) : High m t := fun a ha g => by
  rcases Nat.lt_or_ge m a with g' | g'
  · have := kT_mono _ a g' ha; omega
  · rw [show a = m by omega]; omega
theorem kT_of_mem {t : Int} (h : t ∈ kTypes) : ∃ a, a < 23 ∧ kT a = t := by
  obtain ⟨a, ha, e⟩ := List.getElem_of_mem h
  have hl : a < kRows.length := by simpa [kTypes] using ha
  refine ⟨a, hl, ?_⟩
  rw [← e]
  simp [kT, kR, kTypes, hl]
theorem kT_mem (a : Nat) (h : a < 23) : kT a ∈ kTypes := by
  have : ∀ a, a < 23 → kT a ∈ kTypes := by decide
  exact this a h
theorem known_at {i : Nat} {t : Int} (hl : Low i t) (hh : High i t) (hi : i < 23) : (kT i = t) ↔ t ∈ kTypes := by
  constructor
  · intro h
    rw [← h]
    exact kT_mem i hi
  · intro h
    obtain ⟨a, ha, rfl⟩ := kT_of_mem h
    have h1 : i ≤ a := by
      rcases Nat.lt_or_ge a i with g | g
      · exact absurd (hl a g) (by omega)
      · exact g
    have h2 := hh i hi (Nat.le_refl _)
    rcases Nat.lt_or_ge i a with g | g
    · have := kT_mono i a g ha; omega
    · rw [show i = a by omega]
theorem known_end {t : Int} (hl : Low 23 t) : ¬ t ∈ kTypes := by
  intro h
  obtain ⟨a, ha, rfl⟩ := kT_of_mem h
  exact absurd (hl a ha) (by omega)
/-- What the search gives. -/
def Found (t : Int) (i : Nat) (b : Bool) : Prop := i ≤ 23 ∧ b = decide (t ∈ kTypes) ∧ (b = true → i < 23 ∧ kT i = t)
theorem Found.at {i : Nat} {t : Int} (hl : Low i t) (hh : High i t) (hi : i < 23) : Found t i (kT i - t == 0) := by
  refine ⟨by omega, ?_, ?_⟩
  · rw [Bool.eq_iff_iff]
    simp only [beq_iff_eq, decide_eq_true_eq]
    rw [← known_at hl hh hi]
    omega
  · intro h
    simp only [beq_iff_eq] at h
    exact ⟨hi, by omega⟩
theorem Found.end {t : Int} (hl : Low 23 t) : Found t 23 false := ⟨by omega, by rw [decide_eq_false (known_end hl)], by simp⟩
def FoundPost (t : Int) (w : World) (e : Ending) (w' : World) : Prop := ∃ (i : Nat) (b : Bool), Found t i b ∧ e = .returned (.tuple #[.int .i64 i, .bool b]) ∧ Below w.heap.size w w'

set_option maxHeartbeats 400000 in
theorem bsf_any (t : Int) (w : World) (h3 : 0 ≤ t) (h4 : t ≤ 255) (hk : KTab w) :
    Calls Tryd.prog 29 #[.slice (some ⟨1, 0, none⟩) 23 23, .int .u8 t, .func (.func 30) #[] #[]] w (FoundPost t w) := by
  have hkk := hid hk
  clear hk
  go_enter Tryd.func29, Tryd.ntmps29
  go_wp2
  go_loopw [9, 10] (fun vi vj W => ∃ i j : Nat, vi = .int .i64 i ∧ vj = .int .i64 j ∧ i ≤ j ∧ j ≤ 23 ∧ Low i t ∧ High j t ∧ Hid (Below w.heap.size w W)) (fun vi vj _ => (intOf vj - intOf vi).toNat)
  case atStart => exact ⟨0, 23, rfl, rfl, by omega, by omega, fun a h => by omega, fun a h h' => by omega, Below.refl _ _⟩
  case round =>
    obtain ⟨i, j, rfl, rfl, hij, hj, hl, hh, hB⟩ := hrel
    by_cases hlt : i < j
    · obtain ⟨c0, c1, c2, c3, c4, c5, c6⟩ := (hkk.out.below hB.out).2 ((i + j) / 2) (by omega)
      have hbd := kT_bd ((i + j) / 2) (by omega)
      by_cases hx : kT ((i + j) / 2) < t
      · have hx0 : kT ((i + j) / 2) - t < 0 := by omega
        go_wp2_with (go_at_call 30; refine (cmp_any _ _ _ _ _ _ _ _ _ hbd.1 hbd.2 h3 h4).mono ?_; rintro e w' ⟨rfl, hb⟩)
        go_roundw
        case rel => exact ⟨(i + j) / 2 + 1, j, by go_num, rfl, by omega, hj, Low.step (by omega) hx, hh, hB.out.trans (hb.mono hB.out.size)⟩
        case measure => simp [intOf]; omega
      · have hx0 : ¬ (kT ((i + j) / 2) - t < 0) := by omega
        go_wp2_with (go_at_call 30; refine (cmp_any _ _ _ _ _ _ _ _ _ hbd.1 hbd.2 h3 h4).mono ?_; rintro e w' ⟨rfl, hb⟩)
        go_roundw
        case rel => exact ⟨i, (i + j) / 2, rfl, by go_num, by omega, by omega, hl, High.step (by omega), hB.out.trans (hb.mono hB.out.size)⟩
        case measure => simp [intOf]; omega
    · obtain rfl : i = j := by omega
      by_cases hi : i < 23
      · obtain ⟨c0, c1, c2, c3, c4, c5, c6⟩ := (hkk.out.below hB.out).2 i (by omega)
        have hbd := kT_bd i (by omega)
        go_wp2_with (go_at_call 30; refine (cmp_any _ _ _ _ _ _ _ _ _ hbd.1 hbd.2 h3 h4).mono ?_; rintro e w' ⟨rfl, hb⟩)
        go_ret2
        exact ⟨i, _, Found.at hl hh hi, rfl, hB.out.trans (hb.mono hB.out.size)⟩
      · obtain rfl : i = 23 := by omega
        go_wp2_with fail
        go_ret2
        exact ⟨23, _, Found.end hl, rfl, hB.out⟩

theorem seven {w : World} {b t : Nat} {v0 v1 v2 v3 v4 v5 v6 : Value} (h : w.heap[b]? = some (.cells #[v0, v1, v2, v3, v4, v5, v6] t (0, 0))) :
    (w.cell? ⟨b, 0, none⟩ = some v0 ∧ w.cell? ⟨b, 1, none⟩ = some v1 ∧ w.cell? ⟨b, 2, none⟩ = some v2 ∧ w.cell? ⟨b, 3, none⟩ = some v3 ∧ w.cell? ⟨b, 4, none⟩ = some v4 ∧ w.cell? ⟨b, 5, none⟩ = some v5 ∧ w.cell? ⟨b, 6, none⟩ = some v6) ∧
    (w.frozen? ⟨b, 0, none⟩ = false ∧ w.frozen? ⟨b, 1, none⟩ = false ∧ w.frozen? ⟨b, 2, none⟩ = false ∧ w.frozen? ⟨b, 3, none⟩ = false ∧ w.frozen? ⟨b, 4, none⟩ = false ∧ w.frozen? ⟨b, 5, none⟩ = false ∧ w.frozen? ⟨b, 6, none⟩ = false) := by
  simp [World.cell?, World.frozen?, h]
theorem new_blk {w w' : World} {o : Obj} (hb : Below (w.alloc o).heap.size (w.alloc o) w') : w'.heap[w.heap.size]? = some o := by
  rw [hb.block _ (by simp)]
  show (w.heap.push o)[w.heap.size]? = _
  simp
/-- What 'kind.Of' gives. -/
def OfPost (t : Int) (w : World) (e : Ending) (w' : World) : Prop := ∃ (i : Nat) (b : Bool) (r : KR), Found t i b ∧ r = (if b = true then kR i else kZ) ∧ e = .returned (.tuple #[.agg #[.int .u8 r.ty, .string r.nm, .int .u8 r.mask, .int .i64 r.least, .int .i64 r.most, .int .i64 r.unit, .int .i64 r.kids], .bool b]) ∧ Below w.heap.size w w'
set_option maxHeartbeats 400000 in
theorem of_any (t : Int) (w : World) (h3 : 0 ≤ t) (h4 : t ≤ 255) (hk : KTab w) :
    Calls Tryd.prog 25 #[.int .u8 t] w (OfPost t w) := by
  have hkk := hid hk
  clear hk
  go_enter Tryd.func25, Tryd.ntmps25
  go_wp2_with fail
  refine (bsf_any t _ h3 h4 (hkk.out.below ?_)).mono ?_
  · exact (Below.refl _ _).alloc (Nat.le_refl _) _
  rintro e w' ⟨i, b, hf, rfl, hb⟩
  have s7 := seven (new_blk hb)

  have H := hid hf
  have hbb : Below w.heap.size w w' := ((Below.refl w.heap.size w).alloc (Nat.le_refl _) _).trans (hb.mono (by simp))
  have hsz := hb.size
  simp only [World.size_alloc] at hsz
  cases b
  · go_wp2_with fail
    refine bodyPost_ret (v := .tuple #[kZ.val, .bool false]) (by simp [results, Tryd.results25, go_sem, s7, kZ, KR.val]) rfl ⟨i, false, kZ, H.out, rfl, rfl, ?_⟩
    repeat (first | with_reducible exact hbb | (with_reducible refine Below.setCell ?_ ?_ _; rotate_left; exact Nat.le_refl _))
  · have hi := (hf.2.2 rfl).1
    obtain ⟨c0, c1, c2, c3, c4, c5, c6⟩ := (hkk.out.below hbb).2 i hi
    clear hf
    go_wp2_with fail
    refine bodyPost_ret (v := .tuple #[(kR i).val, .bool true]) (by simp [results, Tryd.results25, go_sem, s7, KR.val]) rfl ⟨i, true, kR i, H.out, rfl, rfl, ?_⟩
    repeat (first | with_reducible exact hbb | (with_reducible refine Below.setCell ?_ ?_ _; rotate_left; exact Nat.le_refl _))

/-- Is a type of chunk known? -/
def kKnown (t : Int) : Bool := decide (t ∈ kTypes)
def IsPost (v : Value) (w : World) (e : Ending) (w' : World) : Prop := e = .returned v ∧ Below w.heap.size w w'
set_option maxHeartbeats 400000 in
theorem known_any (t : Int) (w : World) (h3 : 0 ≤ t) (h4 : t ≤ 255) (hk : KTab w) :
    Calls Tryd.prog 21 #[.int .u8 t] w (IsPost (.bool (kKnown t)) w) := by
  have hkk := hid hk
  clear hk
  go_enter Tryd.func21, Tryd.ntmps21
  go_wp2_with fail
  refine (of_any t _ h3 h4 hkk.out).mono ?_
  rintro e w' ⟨i, b, r, hf, hr0, rfl, hb⟩
  have hv : b = kKnown t := hf.2.1
  have hb' := hid hb
  have hv' := hid hv
  clear hf hv hb hr0
  go_wp2_with fail
  go_ret
  exact ⟨by rw [← hv'.out]; rfl, by first | exact hb'.out.alloc hb'.out.size _ | exact (hb'.out.alloc hb'.out.size _).setCell hb'.out.size _⟩
def chunkAct (t : Int) : Int := if kKnown t = true then 4 else t / 64
set_option maxHeartbeats 400000 in
theorem chunk_any (t : Int) (w : World) (h3 : 0 ≤ t) (h4 : t ≤ 255) (hk : KTab w) :
    Calls Tryd.prog 8 #[.int .u8 t] w (IsPost (.int .i64 (chunkAct t)) w) := by
  have hkk := hid hk
  clear hk
  go_enter Tryd.func8, Tryd.ntmps8
  go_wp2_with fail
  refine (known_any t _ h3 h4 hkk.out).mono ?_
  rintro e w' ⟨rfl, hb⟩
  have hb' := hid hb
  clear hb
  cases hx : kKnown t
  · have hx' := hid hx
    clear hx
    go_wp2_with fail
    go_ret
    exact ⟨by rw [chunkAct, hx'.out]; rfl, hb'.out⟩
  · have hx' := hid hx
    clear hx
    go_wp2_with fail
    go_ret
    exact ⟨by rw [chunkAct, hx'.out]; rfl, hb'.out⟩
end Go.Proofs.YtjgcdjfeglhalaaDoor
