/- Joined: Jn, Mk, Mkl, Mkr. -/
import Derived.Test.YtcjcgehhmjnlcaaGreatDoorMc
import Derived.Lib.AppendZerosOnto
import Derived.Lib.Walk
import Derived.Lib.SliceRun
import Derived.Test.YtcjcgehhmjnlcaaGreatDoorMd
import Derived.Test.YtcjcgehhmjnlcaaGreatDoorQfp
import Derived.Deep.RegionHeld3
import Derived.OneCell
import Derived.Deep.CutRange
import Derived.Deep.DeepCutAuto
/- 'wire.Join' of two slices of four bytes: 'slices.Grow', 'slices.Concat'. -/
set_option linter.unusedVariables false
namespace Go.Proofs.YtcjcgehhmjnlcaaGreatDoor
open Go.RowKit Go.Shelf Go.Proofs.YtcjcgehhmjnlcaaGreatDoor.It Go.Proofs.YtcjcgehhmjnlcaaGreatDoorW.PrintWords

def GrowPost (w : World) (e : Ending) (w' : World) : Prop := ∃ v : Value, e = .returned v ∧ OwnB w' w.heap.size v [] ∧ Below w.heap.size w w'
set_option maxRecDepth 100000 in
set_option maxHeartbeats 2000000 in
theorem grow_new (n : Nat) (w : World) (h0 : 0 < n) (hn : n ≤ 1099511627776) : Calls Tryz.prog 120 #[.slice none 0 0, .int .i64 n] w (GrowPost w) := by
  obtain ⟨i0, hi, hz0, hz1, hz2⟩ := info_parts infoB
  have h1 : ¬ ((n : Int) < 0) := by omega
  have h3 : wrap64 ((n : Int) - 0) = (n : Int) := by unfold wrap64; omega
  have h4 : (n : Int) > 0 := by omega
  have z25 : ∀ w, (Go.sizeOf 5).run Tryz.prog w = .ok 1 w := fun w => by simp [Go.sizeOf, typeInfo, hi, hz1]
  have hold : (Builtin.firstCells i0.size 0 (.slice none 0 0)).run Tryz.prog w.drew = .ok (#[] : Array Value) w.drew := by
    have := run_firstCells_none (P := Tryz.prog) w.drew i0.size 0 0 0
    exact this
  have hrz : ∀ ty, (Builtin.append_ #[32, 3] ty #[.slice none 0 0, .int .i64 n]).run Tryz.prog w =
      .ok (.slice (some ⟨w.heap.size, 0, none⟩) n (grownCap w n 0 5)) (w.drew.alloc (.cells ((#[] : Array Value) ++ Builtin.zeroCells (Value.int .u8 0).cells n ++ Builtin.zeroCells (Value.int .u8 0).cells (grownCap w n 0 5 - n)) 5)) := fun ty => by
    have h := Lib.run_append_grow_zeros w 32 3 ty 5 i0 (.int .u8 0) .i64 .i64 Tryz.underlying32 Tryz.underlying3 hi hz0 none 0 0 [] hold n h0 (by omega) (by omega) (by omega) (by rw [hz2]; omega)
      (by rw [Nat.zero_add, hz2]; exact growslice_fits (by omega) (by omega))
    rw [Nat.zero_add] at h
    exact h
  have hGn : n ≤ grownCap w n 0 5 := grownCap_ge w _ _ _
  have hG63 : grownCap w n 0 5 ≤ maxLen := grownCap_le_maxLen w n 0 5 (by unfold maxLen; omega)
  obtain ⟨G, hG⟩ : ∃ G, G = grownCap w n 0 5 := ⟨_, rfl⟩
  rw [← hG] at hrz hGn hG63
  have hg := hid hG63
  have hg2 := hid hGn
  have hg3 : G ≤ 9223372036854775807 := hG63
  clear hold hG hG63
  go_enter Tryz.func120, Tryz.ntmps120
  go_wp2_with (at_builtin; refine Lib.wpList_append_run _ rfl _ _ _ _ rfl _ _ rfl rfl _ _ (hrz _) ?_)
  go_ret
  refine ⟨_, rfl, ⟨rfl, .inr ⟨w.heap.size, G, _, rfl, Nat.le_refl _, blk_new _ _, Nat.zero_le _, hg.out, ?_, rfl⟩⟩, (below_drew (Below.refl w.heap.size w) 1).alloc (Nat.le_refl _) _⟩
  have := hg2.out
  simp [Builtin.zeroCells]
  omega

/-- Where the second loop of 'Concat' stands. -/
structure CatI (w : World) (b : Nat) (A1 A2 : Option Addr) (c1 c2 : Nat) (l1 l2 l : List Int) (v : Value) (W : World) : Prop where
  bel : Below w.heap.size w W
  own : OwnB W w.heap.size v l
  k0 : W.cell? ⟨b, 0, none⟩ = some (.slice A1 4 c1)
  k1 : W.cell? ⟨b, 1, none⟩ = some (.slice A2 4 c2)
  r1 : BC W A1 l1
  r2 : BC W A2 l2
theorem BC.some_of {w : World} {A : Option Addr} {l : List Int} (h : BC w A l) (hl : l.length = 4) : ∃ ad, A = some ad ∧ ∀ j u, (l.map (Value.int .u8))[j]? = some u → w.cell? (ad.add j) = some u := by
  obtain ⟨ad, rfl, _⟩ := h.2.2 (by omega)
  exact ⟨ad, rfl, news_of h⟩
end Go.Proofs.YtcjcgehhmjnlcaaGreatDoor
/- 'forward.Make': the bytes of a skip; the region of the longer skip. -/
set_option linter.unusedVariables false
set_option linter.unusedSimpArgs false
namespace Go.Proofs.YtcjcgehhmjnlcaaGreatDoor
open Go.RowKit Go.Shelf Go.Proofs.YtcjcgehhmjnlcaaGreatDoor.It Go.Proofs.YtcjcgehhmjnlcaaGreatDoorW.PrintWords Go.Proofs.YtcjcgehhmjnlcaaGreatDoorW.PrintLast Go.Proofs.YtcjcgehhmjnlcaaGreatDoorW.PrintMore PForwardMatchesReference

structure Sk where
  st : Int
  un : Bool
  sq : Int
def b2 (x : Int) : List Int := [x / 256 % 256, x % 256]
def b4 (x : Int) : List Int := [x / 16777216 % 256, x / 65536 % 256, x / 256 % 256, x % 256]
theorem put_2 (x y : Int) : wire_Put.f 20 2 [x, y] = some (b2 x ++ b2 y) := by simp [wire_Put.f, wire_right.f, wire_Put.l0, wire_Put.l1, wrap64, rd, shr, b2, IntKind.bits]
theorem own_of_R {w : World} {base : Nat} {v : Value} {l : List Int} (h : Kd.R (Kd.int .u8) 5 w base (fun _ => True) v l) : OwnB w base v l := by
  obtain ⟨-, cs, ho, hs, hx⟩ := h
  have hl : cs.length = l.length := by have := ho.1; simpa [Kd.int, Kd.scalar] using this
  have : cs = l.map (Value.int .u8) := by
    apply List.ext_getElem?
    intro j
    rcases Nat.lt_or_ge j l.length with hj | hj
    · have := hx j l[j] (List.getElem?_eq_getElem hj)
      have h1 : (cs.drop (j * 1)).take 1 = [Value.int .u8 l[j]] := this
      rw [Nat.mul_one, List.take_one, List.head?_drop] at h1
      rw [List.getElem?_map, List.getElem?_eq_getElem hj, List.getElem?_eq_getElem (by omega)]
      rw [List.getElem?_eq_getElem (by omega)] at h1
      simpa using h1
    · rw [List.getElem?_eq_none (by omega), List.getElem?_eq_none (by simpa using hj)]
  unfold OwnB
  rw [← this]
  exact ho
theorem row_put (w : World) (b : Nat) (xs : List Int) (hl : xs.length ≤ 100) (h : w.heap[b]? = some (.cells (xs.map (Value.int .u32)).toArray 23 (0, 0))) : Kd.C (Kd.int .u32) w (some ⟨b, 0, none⟩) xs.length xs :=
  ints_mk (by omega) (fun t ht => by
    unfold World.cell?
    rw [h]
    simp [List.getElem?_eq_getElem ht])
theorem put2_any (b : Nat) (x y : Int) (w : World) (h : w.heap[b]? = some (.cells #[.int .u32 x, .int .u32 y] 23 (0, 0))) :
    Calls Tryz.prog 50 #[.int .i64 2, .slice (some ⟨b, 0, none⟩) 2 2] w (BytesPost (b2 x ++ b2 y) w) :=
  (wire_Put.calls 20 2 (some ⟨b, 0, none⟩) 2 [x, y] (b2 x ++ b2 y) w (row_put w b [x, y] (by simp) h) (by simp) (put_2 x y)).mono (by
    rintro e w' ⟨v, rfl, hR, hb⟩
    exact ⟨v, rfl, own_of_R hR, hb⟩)
def chZ : Obj := .cells #[.int .u8 0, .int .u8 0, .slice none 0 0, .slice none 0 0] 35 (0, 0)
theorem OwnB.lower {w : World} {b0 b1 : Nat} {v : Value} {l : List Int} (h : OwnB w b1 v l) (hb : b0 ≤ b1) : OwnB w b0 v l := by
  rcases h with ⟨h1, h2 | ⟨g, cap, cur, h3, h4, h5⟩⟩
  · exact ⟨h1, .inl h2⟩
  · exact ⟨h1, .inr ⟨g, cap, cur, h3, Nat.le_trans hb h4, h5⟩⟩
theorem own_form {w : World} {base : Nat} {v : Value} {l : List Int} (h : OwnB w base v l) : ∃ A c, v = .slice A l.length c := by
  obtain ⟨A, c, e, -⟩ := own_slice h
  exact ⟨A, c, e⟩
structure MkI (w : World) (b8 : Nat) (ty : Int) (D : List Int) (W : World) : Prop where
  bel : Below w.heap.size w W
  z : W.heap[w.heap.size]? = some chZ
  c : ∃ v, W.heap[b8]? = some (.cells #[.int .u8 ty, .int .u8 0, v, .slice none 0 0] 35 (0, 0)) ∧ OwnB W w.heap.size v D
  b : w.heap.size < b8
theorem own_kept {w w' : World} {base : Nat} {v : Value} {l : List Int} (h : OwnB w base v l) (hb : Below w.heap.size w w') : OwnB w' base v l :=
  World.ownsRow.kept h (grown_of hb none) (by
    cases hv : v.ownBlock with
    | none => exact .inl rfl
    | some k => exact .inr (by simp))
end Go.Proofs.YtcjcgehhmjnlcaaGreatDoor
/- 'forward.Make' of the longer form. -/
set_option linter.unusedVariables false
set_option linter.unusedSimpArgs false
namespace Go.Proofs.YtcjcgehhmjnlcaaGreatDoor
open Go.RowKit Go.Shelf Go.Proofs.YtcjcgehhmjnlcaaGreatDoor.It Go.Proofs.YtcjcgehhmjnlcaaGreatDoorW.PrintWords Go.Proofs.YtcjcgehhmjnlcaaGreatDoorW.PrintLast Go.Proofs.YtcjcgehhmjnlcaaGreatDoorW.PrintMore PForwardMatchesReference

/-- A call's 'Below', by a word of its own. -/
def Blw (W W' : World) : Prop := Below W.heap.size W W'
theorem BC.blw {W W' : World} {A : Option Addr} {l : List Int} (hb : Blw W W') (h : BC W A l) : BC W' A l := h.below hb
theorem BC.alloc {W : World} {A : Option Addr} {l : List Int} {o : Obj} (h : BC W A l) : BC (W.alloc o) A l := h.below (below_alloc (Below.refl _ _) o)
theorem blk_blw {W W' : World} {b : Nat} {o : Obj} (hb : Blw W W') (h : W.heap[b]? = some o) : W'.heap[b]? = some o := blk_below h hb
theorem blk_new1 (w : World) (a o : Obj) : ((w.alloc a).alloc o).heap[w.heap.size + 1]? = some o := by
  have := blk_new (w.alloc a) o
  rwa [World.size_alloc] at this
theorem blk_newd (w : World) (o : Obj) : (w.alloc o).drew.heap[w.heap.size]? = some o := blk_new w o
theorem cell_new (w : World) (v0 v1 : Value) (e : Nat) : (w.alloc (.cells #[v0, v1] e (0, 0))).cell? ⟨w.heap.size, 0, none⟩ = some v0 ∧ (w.alloc (.cells #[v0, v1] e (0, 0))).cell? ⟨w.heap.size, 1, none⟩ = some v1 := (two (blk_new w (.cells #[v0, v1] e (0, 0)))).1
/-- What 'Put' gives, in fours. -/
def Put4 (l : List Int) (w : World) (e : Ending) (w' : World) : Prop := ∃ A c, e = .returned (.slice A 4 c) ∧ BC w' A l ∧ Blw w w'
theorem put2_lit (b : Nat) (x y : Int) (w : World) (h : w.heap[b]? = some (.cells #[.int .u32 x, .int .u32 y] 23 (0, 0))) :
    Calls Tryz.prog 50 #[.int .i64 2, .slice (some ⟨b, 0, none⟩) 2 2] w (Put4 (b2 x ++ b2 y) w) :=
  (put2_any b x y w h).mono (by
    rintro e w' ⟨v, rfl, hO, hb⟩
    obtain ⟨A, c, rfl, -, hr, -⟩ := own_slice hO
    exact ⟨A, c, rfl, hr, hb⟩)
theorem some_of' {w : World} {A : Option Addr} {l : List Int} (h : BC w A l) (hl : 0 < l.length) : ∃ ad, A = some ad ∧ ∀ j u, (l.map (Value.int .u8))[j]? = some u → w.cell? (ad.add j) = some u := by
  obtain ⟨ad, rfl, _⟩ := h.2.2 hl
  exact ⟨ad, rfl, news_of h⟩
end Go.Proofs.YtcjcgehhmjnlcaaGreatDoor
/- 'forward.Make' of the longer form: the walk. -/
set_option linter.unusedVariables false
set_option linter.unusedSimpArgs false
namespace Go.Proofs.YtcjcgehhmjnlcaaGreatDoor
open Go.RowKit Go.Shelf Go.Proofs.YtcjcgehhmjnlcaaGreatDoor.It Go.Proofs.YtcjcgehhmjnlcaaGreatDoorW.PrintWords Go.Proofs.YtcjcgehhmjnlcaaGreatDoorW.PrintLast Go.Proofs.YtcjcgehhmjnlcaaGreatDoorW.PrintMore PForwardMatchesReference
end Go.Proofs.YtcjcgehhmjnlcaaGreatDoor
