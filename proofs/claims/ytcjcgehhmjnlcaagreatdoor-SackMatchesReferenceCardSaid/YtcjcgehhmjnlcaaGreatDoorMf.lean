/- Joined: Ofa, Ofb, Ofc. -/
import Derived.Test.YtcjcgehhmjnlcaaGreatDoorMe
/- 'forward.Of': what its rounds keep. -/
set_option linter.unusedVariables false
set_option linter.unusedSimpArgs false
namespace Go.Proofs.YtcjcgehhmjnlcaaGreatDoor
open Go.RowKit Go.Shelf Go.Proofs.YtcjcgehhmjnlcaaGreatDoor.It Go.Proofs.YtcjcgehhmjnlcaaGreatDoorW.PrintWords

theorem infoS : (Tryz.prog.info? 28).map (fun i => (i.zero, i.size, i.bytes)) = some (some (.agg #[.int .u16 0, .bool false, .int .u32 0]), 3, 8) := by kernel_rfl
/-- Skips of the call's own. -/
def OwnS (w : World) (base : Nat) (v : Value) (l : List Sk) : Prop := w.ownsRow base 28 3 v l.length (l.flatMap Sk.cells)
structure OfI (w : World) (p : Nat) (A : Option Addr) (c : Nat) (D : List Int) (bxv : Array Value) (v : Value) (l : List Sk) (i : Nat) (W : World) : Prop where
  bel : Below w.heap.size w W
  bx : W.heap[w.heap.size]? = some (.cells bxv 35 (0, 0))
  cur : CurAt W p A D.length c i
  bc : BC W A D
  own : OwnS W (p + 1) v l
  hp : w.heap.size < p
  hA : ∀ ad, A = some ad → ad.block < p
theorem BC.grown {W W' : World} {A : Option Addr} {D : List Int} {b : Nat} (h : BC W A D) (hg : W.grownBy W' (some b)) (hA : ∀ ad, A = some ad → ad.block < b) : BC W' A D := by
  rcases ints_cells h with rfl | ⟨k, off, rfl, hlt, hc⟩
  · exact ints_nil A
  · refine ints_mk h.2.1 fun t ht => ?_
    have := hA _ rfl
    exact hg.cell (hc t ht) (by simp only [ne_eq, Option.some.injEq]; simp at this; omega)
theorem below_grown {w W W' : World} {b : Nat} (h : Below w.heap.size w W) (hg : W.grownBy W' (some b)) (hb : w.heap.size ≤ b) : Below w.heap.size w W' := h.grown hg h.size (fun k hk => by cases hk; exact hb)
theorem OfI.step {w W W' : World} {p : Nat} {A : Option Addr} {c : Nat} {D : List Int} {bxv : Array Value} {v : Value} {l : List Sk} {i : Nat} (h : OfI w p A c D bxv v l i W) (hb : Below W.heap.size W W') : OfI w p A c D bxv v l i W' :=
  ⟨cthen h.bel hb, blk_below h.bx hb, blk_below h.cur hb, h.bc.below hb, World.ownsRow.kept h.own (grown_of hb none) (by
    cases hv : v.ownBlock with
    | none => exact .inl rfl
    | some k => exact .inr (by simp)), h.hp, h.hA⟩
theorem ownS_ne {W : World} {base p n c i : Nat} {A : Option Addr} {v : Value} {l : List Sk} (h : OwnS W base v l) (hc : CurAt W p A n c i) : v.ownBlock ≠ some p := by
  rcases h with ⟨-, ⟨rfl, -⟩ | ⟨g, cap, cur, rfl, -, h4, -⟩⟩
  · simp [Value.ownBlock]
  · intro e
    simp only [Value.ownBlock, Option.some.injEq] at e
    subst e
    unfold CurAt at hc
    rw [hc] at h4
    simp at h4
theorem OfI.read {w W W' : World} {p : Nat} {A : Option Addr} {c : Nat} {D : List Int} {bxv : Array Value} {v : Value} {l : List Sk} {i i' : Nat} (h : OfI w p A c D bxv v l i W) (hg : W.grownBy W' (some p)) (hc : CurAt W' p A D.length c i') : OfI w p A c D bxv v l i' W' :=
  ⟨below_grown h.bel hg (Nat.le_of_lt h.hp), (hg.block _ (Array.getElem?_eq_some_iff.1 h.bx).1 (by have := h.hp; simp only [ne_eq, Option.some.injEq]; omega)).trans h.bx, hc, h.bc.grown hg h.hA, World.ownsRow.kept h.own hg (.inr (ownS_ne h.own h.cur)), h.hp, h.hA⟩
def SkAt (W : World) (b : Nat) (s : Sk) : Prop := W.heap[b]? = some (.cells #[.int .u16 s.st, .bool s.un, .int .u32 s.sq] 28 (0, 0))
/-- Within a round. -/
structure OfR (w : World) (p : Nat) (A : Option Addr) (c : Nat) (D : List Int) (bxv : Array Value) (v : Value) (l : List Sk) (b : Nat) (i : Nat) (s : Sk) (W : World) : Prop where
  i : OfI w p A c D bxv v l i W
  s : SkAt W b s
  hb : p < b
  ho : ∀ k, v.ownBlock = some k → k < b
theorem OfR.start {w W : World} {p : Nat} {A : Option Addr} {c : Nat} {D : List Int} {bxv : Array Value} {v : Value} {l : List Sk} {i : Nat} (h : OfI w p A c D bxv v l i W) (s : Sk) : OfR w p A c D bxv v l W.heap.size i s (W.alloc (.cells s.cells.toArray 28)) :=
  ⟨h.step (below_alloc (Below.refl _ _) _), blk_new _ _, (Array.getElem?_eq_some_iff.1 h.cur).1, fun k hk => (World.ownsRow.lt h.own k hk).2⟩
theorem OfR.read {w W W' : World} {p : Nat} {A : Option Addr} {c : Nat} {D : List Int} {bxv : Array Value} {v : Value} {l : List Sk} {b i i' : Nat} {s : Sk} (h : OfR w p A c D bxv v l b i s W) (hg : W.grownBy W' (some p)) (hc : CurAt W' p A D.length c i') : OfR w p A c D bxv v l b i' s W' :=
  ⟨h.i.read hg hc, (hg.block _ (Array.getElem?_eq_some_iff.1 h.s).1 (by have := h.hb; simp only [ne_eq, Option.some.injEq]; omega)).trans h.s, h.hb, h.ho⟩
theorem OfR.set {w W : World} {p : Nat} {A : Option Addr} {c : Nat} {D : List Int} {bxv : Array Value} {v : Value} {l : List Sk} {b i : Nat} {s : Sk} (h : OfR w p A c D bxv v l b i s W) (j : Nat) (u : Value) (s' : Sk) (hs : SkAt (W.setCell ⟨b, j, none⟩ u) b s') : OfR w p A c D bxv v l b i s' (W.setCell ⟨b, j, none⟩ u) := by
  have hg : W.grownBy (W.setCell ⟨b, j, none⟩ u) (some b) := grown_set (Below.refl _ _) b j u
  have hpb := h.hb
  have hwp := h.i.hp
  refine ⟨⟨below_grown h.i.bel hg (by omega), (hg.block _ (Array.getElem?_eq_some_iff.1 h.i.bx).1 (by simp only [ne_eq, Option.some.injEq]; omega)).trans h.i.bx, (hg.block _ (Array.getElem?_eq_some_iff.1 h.i.cur).1 (by simp only [ne_eq, Option.some.injEq]; omega)).trans h.i.cur, h.i.bc.grown hg (fun ad e => Nat.lt_trans (h.i.hA ad e) hpb), World.ownsRow.kept h.i.own hg (.inr fun e => ?_), h.i.hp, h.i.hA⟩, hs, h.hb, h.ho⟩
  exact Nat.lt_irrefl _ (h.ho b e)
theorem skAt_0 {W : World} {b : Nat} {s : Sk} (h : SkAt W b s) (x : Int) : SkAt (W.setCell ⟨b, 0, none⟩ (.int .u16 x)) b ⟨x, s.un, s.sq⟩ := by
  unfold SkAt at *
  simp [World.setCell, h, Array.getElem?_modify]
theorem skAt_1 {W : World} {b : Nat} {s : Sk} (h : SkAt W b s) (x : Bool) : SkAt (W.setCell ⟨b, 1, none⟩ (.bool x)) b ⟨s.st, x, s.sq⟩ := by
  unfold SkAt at *
  simp [World.setCell, h, Array.getElem?_modify]
theorem skAt_2 {W : World} {b : Nat} {s : Sk} (h : SkAt W b s) (x : Int) : SkAt (W.setCell ⟨b, 2, none⟩ (.int .u32 x)) b ⟨s.st, s.un, x⟩ := by
  unfold SkAt at *
  simp [World.setCell, h, Array.getElem?_modify]
theorem OfR.app {w W W' : World} {p : Nat} {A : Option Addr} {c : Nat} {D : List Int} {bxv : Array Value} {v v' : Value} {l : List Sk} {b i : Nat} {s : Sk} (h : OfR w p A c D bxv v l b i s W) (hg : W.grownBy W' v.ownBlock) (ho : W'.ownsRow (p + 1) 28 3 v' (l.length + 1) (l.flatMap Sk.cells ++ s.cells)) : OfI w p A c D bxv v' (l ++ [s]) i W' := by
  have hne := ownS_ne h.i.own h.i.cur
  have hlt := World.ownsRow.lt h.i.own
  have hp := h.i.hp
  have hnx : some w.heap.size ≠ v.ownBlock := fun e => by
    have := (hlt _ e.symm).1
    omega
  refine ⟨h.i.bel.grown hg h.i.bel.size (fun k hk => by have := (hlt k hk).1; omega), (hg.block _ (Array.getElem?_eq_some_iff.1 h.i.bx).1 hnx).trans h.i.bx, (hg.block _ (Array.getElem?_eq_some_iff.1 h.i.cur).1 (Ne.symm hne)).trans h.i.cur, ?_, ?_, h.i.hp, h.i.hA⟩
  · rcases ints_cells h.i.bc with rfl | ⟨k, off, rfl, hlk, hc⟩
    · exact ints_nil A
    · refine ints_mk h.i.bc.2.1 fun t ht => hg.cell (hc t ht) ?_
      intro e
      have h1 : p + 1 ≤ k := (hlt k e.symm).1
      have h2 := h.i.hA _ rfl
      simp at h2
      omega
  · unfold OwnS
    simpa using ho
/-- The skips of a chunk's bytes. -/
def ofN (inter : Bool) (D : List Int) : Nat := if inter = true then (D.length - 4) / 8 else (D.length - 4) / 4
def ofSk (inter : Bool) (D : List Int) (j : Nat) : Sk := if inter = true then ⟨peekV 2 D (4 + 8 * j), peekV 2 D (6 + 8 * j) == 1, peekV 4 D (8 + 8 * j)⟩ else ⟨peekV 2 D (4 + 4 * j), false, peekV 2 D (6 + 4 * j)⟩
def ofL (inter : Bool) (D : List Int) (n : Nat) : List Sk := (List.range n).map (ofSk inter D)
theorem ofL_step (inter : Bool) (D : List Int) (n : Nat) : ofL inter D (n + 1) = ofL inter D n ++ [ofSk inter D n] := by
  unfold ofL
  rw [List.range_succ, List.map_append]
  rfl
theorem ofL_len (inter : Bool) (D : List Int) (n : Nat) : (ofL inter D n).length = n := by simp [ofL]
def FofPost (inter : Bool) (D : List Int) (w : World) (e : Ending) (w' : World) : Prop :=
  ∃ v, e = .returned (.tuple #[.int .u32 (peekV 4 D 0), v, .bool true]) ∧ OwnS w' w.heap.size v (ofL inter D (ofN inter D)) ∧ Below w.heap.size w w'
def FofNo (w : World) (e : Ending) (w' : World) : Prop := e = .returned (.tuple #[.int .u32 0, .slice none 0 0, .bool false]) ∧ Below w.heap.size w w'
set_option maxHeartbeats 1000000 in
theorem of_other (t f : Int) (A K : Option Addr) (n c m d : Nat) (w : World) (h1 : t ≠ 192) (h2 : t ≠ 194) : Calls Tryz.prog 39 #[ckV t f A n c K m d] w (FofNo w) := by
  have h3 : (t != 192) = true := by simpa using h1
  have h4 : (t != 194) = true := by simpa using h2
  clear h1 h2
  unfold ckV
  go_enter Tryz.func39, Tryz.ntmps39
  go_wp2_with fail
  go_ret3
  exact ⟨rfl, below_alloc (Below.refl _ _) _⟩
set_option maxHeartbeats 1000000 in
theorem of_bad (t f : Int) (A K : Option Addr) (n c m d : Nat) (w : World) (h1 : t = 192 ∨ t = 194) (X : Int × Option Int) (hck : ∀ W, Below w.heap.size w W → Calls Tryz.prog 29 #[ckV t f A n c K m d] W (ErrPost (some X) W)) : Calls Tryz.prog 39 #[ckV t f A n c K m d] w (FofNo w) := by
  have H := hck _ (below_alloc (Below.refl _ _) (.cells #[.int .u8 t, .int .u8 f, .slice A n c, .slice K m d] 35 (0, 0)))
  obtain ⟨x, _ | y⟩ := X
  all_goals
    unfold ckV ErrPost at H
    simp only [eV] at H
    unfold ckV
    clear hck
    rcases h1 with rfl | rfl
    all_goals
      go_enter Tryz.func39, Tryz.ntmps39
      go_wp2_with fail
      refine H.mono ?_
      rintro e w1 ⟨rfl, hb⟩
      go_wp2_with fail
      go_ret3
      exact ⟨rfl, cthen (below_alloc (Below.refl _ _) _) hb⟩
end Go.Proofs.YtcjcgehhmjnlcaaGreatDoor
