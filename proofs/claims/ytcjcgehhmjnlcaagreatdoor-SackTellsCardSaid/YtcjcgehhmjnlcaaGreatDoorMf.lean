/- Joined: Ofa, Ofb, Ofc. -/
import Derived.Test.YtcjcgehhmjnlcaaGreatDoorMe
/- 'forward.Of': what its rounds keep. -/
set_option linter.unusedVariables false
set_option linter.unusedSimpArgs false
namespace Go.Proofs.YtcjcgehhmjnlcaaGreatDoor
open Go.RowKit Go.Shelf Go.Proofs.YtcjcgehhmjnlcaaGreatDoor.It Go.Proofs.YtcjcgehhmjnlcaaGreatDoorW.PrintWords

theorem infoS : (Tryz.prog.info? 28).map (fun i => (i.zero, i.size, i.bytes)) = some (some (.agg #[.int .u16 0, .bool false, .int .u32 0]), 3, 8) := by kernel_rfl
/-- Skips of the call's own. -/
def OwnS (w : World) (base : Nat) (v : Value) (l : List Sk) : Prop := w.ownsRow base 28 3 v l.length (l.flatMap Sk.cells)
structure OfI (w : World) (p : Nat) (A : Option Addr) (c : Nat) (D : List Int) (bxv : Array Value) (v : Value) (l : List Sk) (i : Nat) (W : World) : Prop where
  bel : Below w.heap.size w W
  bx : W.heap[w.heap.size]? = some (.cells bxv 35 (0, 0))
  cur : CurAt W p A D.length c i
  bc : BC W A D
  own : OwnS W (p + 1) v l
  hp : w.heap.size < p
  hA : ∀ ad, A = some ad → ad.block < p
theorem BC.grown {W W' : World} {A : Option Addr} {D : List Int} {b : Nat} (h : BC W A D) (hg : W.grownBy W' (some b)) (hA : ∀ ad, A = some ad → ad.block < b) : BC W' A D := by
  rcases ints_cells h with rfl | ⟨k, off, rfl, hlt, hc⟩
  · exact ints_nil A
  · refine ints_mk h.2.1 fun t ht => ?_
    have := hA _ rfl
    exact hg.cell (hc t ht) (by simp only [ne_eq, Option.some.injEq]; simp at this; omega)
theorem below_grown {w W W' : World} {b : Nat} (h : Below w.heap.size w W) (hg : W.grownBy W' (some b)) (hb : w.heap.size ≤ b) : Below w.heap.size w W' := h.grown hg h.size (fun k hk => by cases hk; exact hb)
theorem OfI.step {w W W' : World} {p : Nat} {A : Option Addr} {c : Nat} {D : List Int} {bxv : Array Value} {v : Value} {l : List Sk} {i : Nat} (h : OfI w p A c D bxv v l i W) (hb : Below W.heap.size W W') : OfI w p A c D bxv v l i W' :=
  ⟨cthen h.bel hb, blk_below h.bx hb, blk_below h.cur hb, h.bc.below hb, World.ownsRow.kept h.own (grown_of hb none) (by
    cases hv : v.ownBlock with
    | none => exact .inl rfl
    | some k => exact .inr (by simp)), h.hp, h.hA⟩
theorem ownS_ne {W : World} {base p n c i : Nat} {A : Option Addr} {v : Value} {l : List Sk} (h : OwnS W base v l) (hc : CurAt W p A n c i) : v.ownBlock ≠ some p := by
  rcases h with ⟨-, ⟨rfl, -⟩ | ⟨g, cap, cur, rfl, -, h4, -⟩⟩
  · simp [Value.ownBlock]
  · intro e
    simp only [Value.ownBlock, Option.some.injEq] at e
    subst e
    unfold CurAt at hc
    rw [hc] at h4
    simp at h4
theorem OfI.read {w W W' : World} {p : Nat} {A : Option Addr} {c : Nat} {D : List Int} {bxv : Array Value} {v : Value} {l : List Sk} {i i' : Nat} (h : OfI w p A c D bxv v l i W) (hg : W.grownBy W' (some p)) (hc : CurAt W' p A D.length c i') : OfI w p A c D bxv v l i' W' :=
  ⟨below_grown h.bel hg (Nat.le_of_lt h.hp), (hg.block _ (Array.getElem?_eq_some_iff.1 h.bx).1 (by have := h.hp; simp only [ne_eq, Option.some.injEq]; omega)).trans h.bx, hc, h.bc.grown hg h.hA, World.ownsRow.kept h.own hg (.inr (ownS_ne h.own h.cur)), h.hp, h.hA⟩
def SkAt (W : World) (b : Nat) (s : Sk) : Prop := W.heap[b]? = some (.cells #[.int .u16 s.st, .bool s.un, .int .u32 s.sq] 28 (0, 0))
/-- Within a round. -/
structure OfR (w : World) (p : Nat) (A : Option Addr) (c : Nat) (D : List Int) (bxv : Array Value) (v : Value) (l : List Sk) (b : Nat) (i : Nat) (s : Sk) (W : World) : Prop where
  i : OfI w p A c D bxv v l i W
  s : SkAt W b s
  hb : p < b
  ho : ∀ k, v.ownBlock = some k → k < b
theorem OfR.start {w W : World} {p : Nat} {A : Option Addr} {c : Nat} {D : List Int} {bxv : Array Value} {v : Value} {l : List Sk} {i : Nat} (h : OfI w p A c D bxv v l i W) (s : Sk) : OfR w p A c D bxv v l W.heap.size i s (W.alloc (.cells s.cells.toArray 28)) :=
  ⟨h.step (below_alloc (Below.refl _ _) _), blk_new _ _, (Array.getElem?_eq_some_iff.1 h.cur).1, fun k hk => (World.ownsRow.lt h.own k hk).2⟩
theorem OfR.read {w W W' : World} {p : Nat} {A : Option Addr} {c : Nat} {D : List Int} {bxv : Array Value} {v : Value} {l : List Sk} {b i i' : Nat} {s : Sk} (h : OfR w p A c D bxv v l b i s W) (hg : W.grownBy W' (some p)) (hc : CurAt W' p A D.length c i') : OfR w p A c D bxv v l b i' s W' :=
  ⟨h.i.read hg hc, (hg.block _ (Array.getElem?_eq_some_iff.1 h.s).1 (by have := h.hb; simp only [ne_eq, Option.some.injEq]; omega)).trans h.s, h.hb, h.ho⟩
theorem OfR.set {w W : World} {p : Nat} {A : Option Addr} {c : Nat} {D : List Int} {bxv : Array Value} {v : Value} {l : List Sk} {b i : Nat} {s : Sk} (h : OfR w p A c D bxv v l b i s W) (j : Nat) (u : Value) (s' : Sk) (hs : SkAt (W.setCell ⟨b, j, none⟩ u) b s') : OfR w p A c D bxv v l b i s' (W.setCell ⟨b, j, none⟩ u) := by
  have hg : W.grownBy (W.setCell ⟨b, j, none⟩ u) (some b) := grown_set (Below.refl _ _) b j u
  have hpb := h.hb
  have hwp := h.i.hp
  refine ⟨⟨below_grown h.i.bel hg (by omega), (hg.block _ (Array.getElem?_eq_some_iff.1 h.i.bx).1 (by simp only [ne_eq, Option.some.injEq]; omega)).trans h.i.bx, (hg.block _ (Array.getElem?_eq_some_iff.1 h.i.cur).1 (by simp only [ne_eq, Option.some.injEq]; omega)).trans h.i.cur, h.i.bc.grown hg (fun ad e => Nat.lt_trans (h.i.hA ad e) hpb), World.ownsRow.kept h.i.own hg (.inr fun e => ?_), h.i.hp, h.i.hA⟩, hs, h.hb, h.ho⟩
  exact Nat.lt_irrefl _ (h.ho b e)
theorem skAt_0 {W : World} {b : Nat} {s : Sk} (h : SkAt W b s) (x : Int) : SkAt (W.setCell ⟨b, 0, none⟩ (.int .u16 x)) b ⟨x, s.un, s.sq⟩ := by
  unfold SkAt at *
  simp [World.setCell, h, Array.getElem?_modify]
theorem skAt_1 {W : World} {b : Nat} {s : Sk} (h : SkAt W b s) (x : Bool) : SkAt (W.setCell ⟨b, 1, none⟩ (.bool x)) b ⟨s.st, x, s.sq⟩ := by
  unfold SkAt at *
  simp [World.setCell, h, Array.getElem?_modify]
theorem skAt_2 {W : World} {b : Nat} {s : Sk} (h : SkAt W b s) (x : Int) : SkAt (W.setCell ⟨b, 2, none⟩ (.int .u32 x)) b ⟨s.st, s.un, x⟩ := by
  unfold SkAt at *
  simp [World.setCell, h, Array.getElem?_modify]
theorem OfR.app {w W W' : World} {p : Nat} {A : Option Addr} {c : Nat} {D : List Int} {bxv : Array Value} {v v' : Value} {l : List Sk} {b i : Nat} {s : Sk} (h : OfR w p A c D bxv v l b i s W) (hg : W.grownBy W' v.ownBlock) (ho : W'.ownsRow (p + 1) 28 3 v' (l.length + 1) (l.flatMap Sk.cells ++ s.cells)) : OfI w p A c D bxv v' (l ++ [s]) i W' := by
  have hne := ownS_ne h.i.own h.i.cur
  have hlt := World.ownsRow.lt h.i.own
  have hp := h.i.hp
  have hnx : some w.heap.size ≠ v.ownBlock := fun e => by
    have := (hlt _ e.symm).1
    omega
  refine ⟨h.i.bel.grown hg h.i.bel.size (fun k hk => by have := (hlt k hk).1; omega), (hg.block _ (Array.getElem?_eq_some_iff.1 h.i.bx).1 hnx).trans h.i.bx, (hg.block _ (Array.getElem?_eq_some_iff.1 h.i.cur).1 (Ne.symm hne)).trans h.i.cur, ?_, ?_, h.i.hp, h.i.hA⟩
  · rcases ints_cells h.i.bc with rfl | ⟨k, off, rfl, hlk, hc⟩
    · exact ints_nil A
    · refine ints_mk h.i.bc.2.1 fun t ht => hg.cell (hc t ht) ?_
      intro e
      have h1 : p + 1 ≤ k := (hlt k e.symm).1
      have h2 := h.i.hA _ rfl
      simp at h2
      omega
  · unfold OwnS
    simpa using ho
/-- The skips of a chunk's bytes. -/
def ofN (inter : Bool) (D : List Int) : Nat := if inter = true then (D.length - 4) / 8 else (D.length - 4) / 4
def ofSk (inter : Bool) (D : List Int) (j : Nat) : Sk := if inter = true then ⟨peekV 2 D (4 + 8 * j), peekV 2 D (6 + 8 * j) == 1, peekV 4 D (8 + 8 * j)⟩ else ⟨peekV 2 D (4 + 4 * j), false, peekV 2 D (6 + 4 * j)⟩
def ofL (inter : Bool) (D : List Int) (n : Nat) : List Sk := (List.range n).map (ofSk inter D)
theorem ofL_step (inter : Bool) (D : List Int) (n : Nat) : ofL inter D (n + 1) = ofL inter D n ++ [ofSk inter D n] := by
  unfold ofL
  rw [List.range_succ, List.map_append]
  rfl
theorem ofL_len (inter : Bool) (D : List Int) (n : Nat) : (ofL inter D n).length = n := by simp [ofL]
def FofPost (inter : Bool) (D : List Int) (w : World) (e : Ending) (w' : World) : Prop :=
  ∃ v, e = .returned (.tuple #[.int .u32 (peekV 4 D 0), v, .bool true]) ∧ OwnS w' w.heap.size v (ofL inter D (ofN inter D)) ∧ Below w.heap.size w w'
def FofNo (w : World) (e : Ending) (w' : World) : Prop := e = .returned (.tuple #[.int .u32 0, .slice none 0 0, .bool false]) ∧ Below w.heap.size w w'
set_option maxHeartbeats 1000000 in
theorem of_other (t f : Int) (A K : Option Addr) (n c m d : Nat) (w : World) (h1 : t ≠ 192) (h2 : t ≠ 194) : Calls Tryz.prog 39 #[ckV t f A n c K m d] w (FofNo w) := by
  have h3 : (t != 192) = true := by simpa using h1
  have h4 : (t != 194) = true := by simpa using h2
  clear h1 h2
  unfold ckV
  go_enter Tryz.func39, Tryz.ntmps39
  go_wp2_with fail
  go_ret3
  exact ⟨rfl, below_alloc (Below.refl _ _) _⟩
set_option maxHeartbeats 1000000 in
theorem of_bad (t f : Int) (A K : Option Addr) (n c m d : Nat) (w : World) (h1 : t = 192 ∨ t = 194) (X : Int × Option Int) (hck : ∀ W, Below w.heap.size w W → Calls Tryz.prog 29 #[ckV t f A n c K m d] W (ErrPost (some X) W)) : Calls Tryz.prog 39 #[ckV t f A n c K m d] w (FofNo w) := by
  have H := hck _ (below_alloc (Below.refl _ _) (.cells #[.int .u8 t, .int .u8 f, .slice A n c, .slice K m d] 35 (0, 0)))
  obtain ⟨x, _ | y⟩ := X
  all_goals
    unfold ckV ErrPost at H
    simp only [eV] at H
    unfold ckV
    clear hck
    rcases h1 with rfl | rfl
    all_goals
      go_enter Tryz.func39, Tryz.ntmps39
      go_wp2_with fail
      refine H.mono ?_
      rintro e w1 ⟨rfl, hb⟩
      go_wp2_with fail
      go_ret3
      exact ⟨rfl, cthen (below_alloc (Below.refl _ _) _) hb⟩
end Go.Proofs.YtcjcgehhmjnlcaaGreatDoor
/- 'forward.Of': the walk at the short form. -/
set_option linter.unusedVariables false
set_option linter.unusedSimpArgs false
namespace Go.Proofs.YtcjcgehhmjnlcaaGreatDoor
open Go.RowKit Go.Shelf Go.Proofs.YtcjcgehhmjnlcaaGreatDoor.It Go.Proofs.YtcjcgehhmjnlcaaGreatDoorW.PrintWords

theorem read_yes {k : Nat} {l : List Int} {p c i : Nat} {A : Option Addr} {w : World} {e : Ending} {w' : World} (h : ReadPost k l p c i A w e w') (hk : i + k ≤ l.length) :
    e = .returned (.tuple #[.int .u32 (peekV k l i), .bool true]) ∧ CurAt w' p A l.length c (i + k) ∧ w.grownBy w' (some p) := by
  obtain ⟨h1, h2, h3⟩ := h
  have hd : k ≤ l.length - i := by omega
  rw [decide_eq_true hd] at h1
  rw [if_pos hd] at h2
  exact ⟨h1, h2, h3⟩
def lenV : Value → Nat
  | .slice _ n _ => n
  | _ => 0
theorem news3 (w : World) (s : Sk) : ∀ j u, s.cells[j]? = some u → (w.alloc (.cells s.cells.toArray 28)).cell? ((⟨w.heap.size, 0, none⟩ : Addr).add j) = some u := by
  intro j u hu
  obtain ⟨⟨c0, c1, c2⟩, -⟩ := three (blk_new w (.cells s.cells.toArray 28))
  match j with
  | 0 => simp [Sk.cells] at hu; subst hu; exact c0
  | 1 => simp [Sk.cells] at hu; subst hu; exact c1
  | 2 => simp [Sk.cells] at hu; subst hu; exact c2
  | n + 3 => simp [Sk.cells] at hu
theorem OfR.alloc {w W : World} {p : Nat} {A : Option Addr} {c : Nat} {D : List Int} {bxv : Array Value} {v : Value} {l : List Sk} {b i : Nat} {s : Sk} (h : OfR w p A c D bxv v l b i s W) (o : Obj) : OfR w p A c D bxv v l b i s (W.alloc o) :=
  ⟨h.i.step (below_alloc (Below.refl _ _) _), blk_alloc h.s, h.hb, h.ho⟩
theorem ownS_form {w : World} {base : Nat} {v : Value} {l : List Sk} (h : OwnS w base v l) : ∃ A c, v = .slice A l.length c := by
  rcases h with ⟨-, ⟨rfl, h0⟩ | ⟨g, cap, cur, rfl, -⟩⟩
  · exact ⟨none, 0, by rw [h0]⟩
  · exact ⟨_, _, rfl⟩
theorem ownS_lower {w : World} {b0 b1 : Nat} {v : Value} {l : List Sk} (h : OwnS w b1 v l) (hb : b0 ≤ b1) : OwnS w b0 v l := by
  rcases h with ⟨h1, h2 | ⟨g, cap, cur, h3, h4, h5⟩⟩
  · exact ⟨h1, .inl h2⟩
  · exact ⟨h1, .inr ⟨g, cap, cur, h3, Nat.le_trans hb h4, h5⟩⟩
theorem peek_bd {l : List Int} (h : Byt l) (k i : Nat) : 0 ≤ peekV k l i ∧ (k = 2 → peekV k l i ≤ 65535) := by
  unfold peekV
  by_cases hk : k ≤ l.length - i
  · rw [if_pos hk]
    have hb : ∀ t, t < k → 0 ≤ l.getD (i + t) 0 ∧ l.getD (i + t) 0 ≤ 255 := fun t ht => by
      rw [List.getD_eq_getElem?_getD, List.getElem?_eq_getElem (show i + t < l.length by omega)]
      exact h _ (List.getElem_mem _)
    have := numAt_bd (bs := fun t => l.getD t 0) hb k (Nat.le_refl _)
    refine ⟨this.1, fun h2 => ?_⟩
    subst h2
    have h3 := this.2
    omega
  · rw [if_neg hk]
    exact ⟨by omega, fun _ => by omega⟩
set_option maxRecDepth 100000 in
set_option maxHeartbeats 8000000 in
theorem of_192 (f : Int) (A K : Option Addr) (c m d q : Nat) (D : List Int) (w : World) (hC : BC w A D) (hB : Byt D) (hc : D.length ≤ c) (hl : D.length ≤ 65531) (hq : D.length = 4 + 4 * q)
    (hck : ∀ W, Below w.heap.size w W → Calls Tryz.prog 29 #[ckV 192 f A D.length c K m d] W (ErrPost none W)) : Calls Tryz.prog 39 #[ckV 192 f A D.length c K m d] w (FofPost false D w) := by
  have H := hck _ (below_alloc (Below.refl _ _) (.cells #[.int .u8 192, .int .u8 f, .slice A D.length c, .slice K m d] 35 (0, 0)))
  have HB0 := hid hB
  have HC0 := hid hC
  have HL0 := hid hl
  have HQ := hid hq
  have HCC := hid hc
  clear hck hB hC hl hq hc
  unfold ckV ErrPost at H
  simp only [eV] at H
  unfold ckV
  go_enter Tryz.func39, Tryz.ntmps39
  go_wp2_with fail
  refine H.mono ?_
  rintro e w1 ⟨rfl, hb⟩
  have B1 := hid (cthen (below_alloc (Below.refl w.heap.size w) (.cells #[.int .u8 192, .int .u8 f, .slice A D.length c, .slice K m d] 35 (0, 0))) hb)
  have HX := hid (blk_below (blk_new w (.cells #[.int .u8 192, .int .u8 f, .slice A D.length c, .slice K m d] 35 (0, 0))) hb)
  obtain ⟨⟨x0, x1, x2, x3⟩, -⟩ := four HX.out
  clear hb H
  go_wp2_with fail
  refine (wnew_any A c D w1 (HC0.out.below B1.out) HCC.out (by have := HL0.out; omega)).mono ?_
  rintro e w2 ⟨p, A1, c1, rfl, hp, hcur, hbc, hlc, hA, hb⟩
  have HI := hid (show OfI w p A1 c1 D _ (.slice none 0 0) (ofL false D 0) 0 w2 from ⟨cthen B1.out hb, blk_below HX.out hb, hcur, hbc, World.ownsRow_nil _ _ _ _, Nat.lt_of_lt_of_le (Array.getElem?_eq_some_iff.1 HX.out).1 hp, hA⟩)
  have HC1 := hid hlc
  have HH := hid hcur
  clear hp hcur hbc hlc hA hb x0 x1 x2 x3
  go_wp2_with fail
  refine (number_any 4 (by omega) p c1 0 A1 D w2 HH.out HI.out.bc HB0.out HC1.out (by have := HL0.out; omega) (by omega)).mono ?_
  intro e w3 hr
  obtain ⟨rfl, hcur, hg⟩ := read_yes hr (by have := HQ.out; omega)
  have HI2 := hid (HI.out.read hg hcur)
  clear hr hcur hg HI HH
  go_wp2_with fail
  go_loopw [3] (fun v3 W => ∃ j : Nat, j ≤ q ∧ (∃ A3 c3, v3 = .slice A3 j c3) ∧ Hid (OfI w p A1 c1 D #[.int .u8 192, .int .u8 f, .slice A D.length c, .slice K m d] v3 (ofL false D j) (4 + 4 * j) W)) (fun v3 _ => q - lenV v3)
  case atStart => exact ⟨0, by omega, ⟨none, 0, rfl⟩, HI2⟩
  case round =>
    obtain ⟨j, hj, ⟨A3, c3, rfl⟩, hI⟩ := hrel
    clear HI2
    have hq := HQ.out
    have hl := HL0.out
    by_cases hlt : j < q
    · have hpos : (((D.length - (4 + 4 * j) : Nat) : Int) > 0) := by omega
      obtain ⟨r, hr⟩ : ∃ r : Nat, D.length - (4 + 4 * j) = r := ⟨_, rfl⟩
      have hlf := left_any p A1 D.length c1 (4 + 4 * j) wr hI.out.cur (by omega) (by omega)
      rw [hr] at hpos hlf
      have h2 := hid (show 4 + 4 * j + 2 ≤ D.length ∧ 4 + 4 * j + 2 + 2 ≤ D.length by omega)
      clear hr hq hl
      go_wp2_with fail
      refine hlf.mono ?_
      rintro e w4 ⟨rfl, g, hg⟩
      subst hg
      have HI4 := hid (hI.out.step (below_drew (Below.refl _ _) g))
      have HR := hid (show OfR w p A1 c1 D _ _ _ wr.heap.size _ skZ _ from OfR.start HI4.out skZ)
      clear hlf hI
      go_wp2_with fail
      refine (number_any 2 (by omega) p c1 (4 + 4 * j) A1 D _ HR.out.i.cur HR.out.i.bc HB0.out HC1.out (by have := HL0.out; omega) (by have := h2.out; omega)).mono ?_
      intro e w5 hr
      obtain ⟨rfl, hcur, hg⟩ := read_yes hr h2.out.1
      have HR5 := hid (HR.out.read hg hcur)
      obtain ⟨X, hX⟩ : ∃ X, peekV 2 D (4 + 4 * j) = X := ⟨_, rfl⟩
      obtain ⟨hX0, hX1⟩ := peek_bd HB0.out 2 (4 + 4 * j)
      rw [hX] at hX0 hX1 ⊢
      have hX2 := hX1 rfl
      have HXX := hid hX
      clear hX1 hr hcur hg HR hX
      obtain ⟨⟨k0, k1, k2⟩, ⟨y0, y1, y2⟩⟩ := three HR5.out.s
      go_wp2_with fail
      have HR6 := hid (HR5.out.set 0 _ _ (skAt_0 HR5.out.s X))
      refine (number_any 2 (by omega) p c1 (4 + 4 * j + 2) A1 D _ HR6.out.i.cur HR6.out.i.bc HB0.out HC1.out (by have := HL0.out; omega) (by have := h2.out; omega)).mono ?_
      intro e w7 hr
      obtain ⟨rfl, hcur, hg⟩ := read_yes hr h2.out.2
      have HR7 := hid (HR6.out.read hg hcur)
      obtain ⟨Y, hY⟩ : ∃ Y, peekV 2 D (4 + 4 * j + 2) = Y := ⟨_, rfl⟩
      rw [hY]
      have HYY := hid hY
      clear hr hcur hg HR5 HR6 hY k0 k1 k2 y0 y1 y2
      obtain ⟨⟨k0, k1, k2⟩, ⟨y0, y1, y2⟩⟩ := three HR7.out.s
      have HX7 := hid (HR7.out.i.bx)
      obtain ⟨⟨x0, x1, x2, x3⟩, -⟩ := four HX7.out
      have HR8 := hid (HR7.out.set 2 _ _ (skAt_2 HR7.out.s Y))
      obtain ⟨i0, hi0, hz0, hz1, hz2⟩ := info_parts infoS
      have HSK := hid (show (⟨X, false, Y⟩ : Sk) = ofSk false D j by
        unfold ofSk
        rw [← HXX.out, ← HYY.out, show 4 + 4 * j + 2 = 6 + 4 * j by omega]
        rfl)
      have hn8 := hid (show (ofL false D j).length + 1 ≤ 1000000 by have := HL0.out; have := h2.out; rw [ofL_len]; omega)
      have HR9 := hid (HR8.out.alloc (.cells (Sk.cells ⟨X, false, Y⟩).toArray 28))
      have hsz : (w7.setCell ⟨wr.heap.size, 2, none⟩ (.int .u32 Y)).heap.size = w7.heap.size := by simp
      have hnews := news3 (w7.setCell ⟨wr.heap.size, 2, none⟩ (.int .u32 Y)) ⟨X, false, Y⟩
      rw [hsz] at hnews
      have HNW := hid hnews
      clear hsz hnews
      have hps : p + 1 ≤ ((w7.setCell ⟨wr.heap.size, 2, none⟩ (.int .u32 Y)).alloc (.cells (Sk.cells ⟨X, false, Y⟩).toArray 28)).heap.size := (Array.getElem?_eq_some_iff.1 HR9.out.i.cur).1
      have HPS := hid hps
      clear hps HR8 HR7 HX7
      go_wp2_with (at_builtin; refine wpList_append_own _ rfl _ _ 38 rfl (p + 1) 28 i0 _ 3 8 Tryz.underlying38 hi0 hz0 hz1 hz2 rfl (by decide) _ _ _ rfl HR9.out.i.own ⟨w7.heap.size, 0, none⟩ 1 1 (Sk.cells ⟨X, false, Y⟩) rfl rfl HNW.out (by intro u hu; simp only [Sk.cells, List.mem_cons, List.not_mem_nil, or_false] at hu; rcases hu with rfl | rfl | rfl <;> rfl) (by have := hn8.out; unfold maxLen; omega) (by have := hn8.out; omega) HPS.out ?_; intro v' w9 hown' hgrow _; have HI9 := hid (HR9.out.app hgrow hown'); obtain ⟨A9, c9, rfl⟩ := ownS_form HI9.out.own; clear hown' hgrow)
      refine ⟨⟨j + 1, by omega, ⟨A9, c9, by rw [ofL_len]⟩, hid ?_⟩, by rw [ofL_len]; simp only [lenV]; omega⟩
      have hfin := HI9.out
      rw [ofL_step, ← HSK.out, show 4 + 4 * (j + 1) = 4 + 4 * j + 2 + 2 by omega]
      simp only [List.length_append, List.length_singleton] at hfin
      exact hfin
    · obtain rfl : j = q := by omega
      have hz : (4 + 4 * j) = D.length := hq.symm
      have hlf := left_any p A1 D.length c1 (4 + 4 * j) wr hI.out.cur (by omega) (by omega)
      rw [show D.length - (4 + 4 * j) = 0 by omega] at hlf
      have HN := hid (show ofN false D = j by unfold ofN; rw [if_neg (by decide), hq]; omega)
      clear hz hq hl
      go_wp2_with fail
      refine hlf.mono ?_
      rintro e w4 ⟨rfl, g, hg⟩
      subst hg
      clear hlf
      have HI4 := hid (hI.out.step (below_drew (Below.refl _ _) g))
      go_wp2_with fail
      go_ret3
      refine ⟨_, rfl, ?_, HI4.out.bel⟩
      rw [HN.out]
      exact ownS_lower HI4.out.own (by have := HI4.out.hp; omega)
end Go.Proofs.YtcjcgehhmjnlcaaGreatDoor
/- 'forward.Of': the walk at the longer form. -/
set_option linter.unusedVariables false
set_option linter.unusedSimpArgs false
namespace Go.Proofs.YtcjcgehhmjnlcaaGreatDoor
open Go.RowKit Go.Shelf Go.Proofs.YtcjcgehhmjnlcaaGreatDoor.It Go.Proofs.YtcjcgehhmjnlcaaGreatDoorW.PrintWords

set_option maxRecDepth 100000 in
set_option maxHeartbeats 8000000 in
theorem of_194 (f : Int) (A K : Option Addr) (c m d q : Nat) (D : List Int) (w : World) (hC : BC w A D) (hB : Byt D) (hc : D.length ≤ c) (hl : D.length ≤ 65531) (hq : D.length = 4 + 8 * q)
    (hck : ∀ W, Below w.heap.size w W → Calls Tryz.prog 29 #[ckV 194 f A D.length c K m d] W (ErrPost none W)) : Calls Tryz.prog 39 #[ckV 194 f A D.length c K m d] w (FofPost true D w) := by
  have H := hck _ (below_alloc (Below.refl _ _) (.cells #[.int .u8 194, .int .u8 f, .slice A D.length c, .slice K m d] 35 (0, 0)))
  have HB0 := hid hB
  have HC0 := hid hC
  have HL0 := hid hl
  have HQ := hid hq
  have HCC := hid hc
  clear hck hB hC hl hq hc
  unfold ckV ErrPost at H
  simp only [eV] at H
  unfold ckV
  go_enter Tryz.func39, Tryz.ntmps39
  go_wp2_with fail
  refine H.mono ?_
  rintro e w1 ⟨rfl, hb⟩
  have B1 := hid (cthen (below_alloc (Below.refl w.heap.size w) (.cells #[.int .u8 194, .int .u8 f, .slice A D.length c, .slice K m d] 35 (0, 0))) hb)
  have HX := hid (blk_below (blk_new w (.cells #[.int .u8 194, .int .u8 f, .slice A D.length c, .slice K m d] 35 (0, 0))) hb)
  obtain ⟨⟨x0, x1, x2, x3⟩, -⟩ := four HX.out
  clear hb H
  go_wp2_with fail
  refine (wnew_any A c D w1 (HC0.out.below B1.out) HCC.out (by have := HL0.out; omega)).mono ?_
  rintro e w2 ⟨p, A1, c1, rfl, hp, hcur, hbc, hlc, hA, hb⟩
  have HI := hid (show OfI w p A1 c1 D _ (.slice none 0 0) (ofL true D 0) 0 w2 from ⟨cthen B1.out hb, blk_below HX.out hb, hcur, hbc, World.ownsRow_nil _ _ _ _, Nat.lt_of_lt_of_le (Array.getElem?_eq_some_iff.1 HX.out).1 hp, hA⟩)
  have HC1 := hid hlc
  have HH := hid hcur
  clear hp hcur hbc hlc hA hb x0 x1 x2 x3
  go_wp2_with fail
  refine (number_any 4 (by omega) p c1 0 A1 D w2 HH.out HI.out.bc HB0.out HC1.out (by have := HL0.out; omega) (by omega)).mono ?_
  intro e w3 hr
  obtain ⟨rfl, hcur, hg⟩ := read_yes hr (by have := HQ.out; omega)
  have HI2 := hid (HI.out.read hg hcur)
  clear hr hcur hg HI HH
  go_wp2_with fail
  go_loopw [3] (fun v3 W => ∃ j : Nat, j ≤ q ∧ (∃ A3 c3, v3 = .slice A3 j c3) ∧ Hid (OfI w p A1 c1 D #[.int .u8 194, .int .u8 f, .slice A D.length c, .slice K m d] v3 (ofL true D j) (4 + 8 * j) W)) (fun v3 _ => q - lenV v3)
  case atStart => exact ⟨0, by omega, ⟨none, 0, rfl⟩, HI2⟩
  case round =>
    obtain ⟨j, hj, ⟨A3, c3, rfl⟩, hI⟩ := hrel
    clear HI2
    have hq := HQ.out
    have hl := HL0.out
    by_cases hlt : j < q
    · have hpos : (((D.length - (4 + 8 * j) : Nat) : Int) > 0) := by omega
      obtain ⟨r, hr⟩ : ∃ r : Nat, D.length - (4 + 8 * j) = r := ⟨_, rfl⟩
      have hlf := left_any p A1 D.length c1 (4 + 8 * j) wr hI.out.cur (by omega) (by omega)
      rw [hr] at hpos hlf
      have h2 := hid (show 4 + 8 * j + 2 ≤ D.length ∧ 4 + 8 * j + 2 + 2 ≤ D.length ∧ 4 + 8 * j + 2 + 2 + 4 ≤ D.length by omega)
      clear hr hq hl
      go_wp2_with fail
      refine hlf.mono ?_
      rintro e w4 ⟨rfl, g, hg⟩
      subst hg
      have HI4 := hid (hI.out.step (below_drew (Below.refl _ _) g))
      have HR := hid (show OfR w p A1 c1 D _ _ _ wr.heap.size _ skZ _ from OfR.start HI4.out skZ)
      clear hlf hI
      go_wp2_with fail
      refine (number_any 2 (by omega) p c1 (4 + 8 * j) A1 D _ HR.out.i.cur HR.out.i.bc HB0.out HC1.out (by have := HL0.out; omega) (by have := h2.out; omega)).mono ?_
      intro e w5 hr
      obtain ⟨rfl, hcur, hg⟩ := read_yes hr h2.out.1
      have HR5 := hid (HR.out.read hg hcur)
      obtain ⟨X, hX⟩ : ∃ X, peekV 2 D (4 + 8 * j) = X := ⟨_, rfl⟩
      obtain ⟨hX0, hX1⟩ := peek_bd HB0.out 2 (4 + 8 * j)
      rw [hX] at hX0 hX1 ⊢
      have hX2 := hX1 rfl
      have HXX := hid hX
      clear hX1 hr hcur hg HR hX
      obtain ⟨⟨k0, k1, k2⟩, ⟨y0, y1, y2⟩⟩ := three HR5.out.s
      go_wp2_with fail
      have HR6 := hid (HR5.out.set 0 _ _ (skAt_0 HR5.out.s X))
      refine (number_any 2 (by omega) p c1 (4 + 8 * j + 2) A1 D _ HR6.out.i.cur HR6.out.i.bc HB0.out HC1.out (by have := HL0.out; omega) (by have := h2.out; omega)).mono ?_
      intro e w7 hr
      obtain ⟨rfl, hcur, hg⟩ := read_yes hr h2.out.2.1
      have HR7 := hid (HR6.out.read hg hcur)
      obtain ⟨Y, hY⟩ : ∃ Y, peekV 2 D (4 + 8 * j + 2) = Y := ⟨_, rfl⟩
      rw [hY]
      have HYY := hid hY
      clear hr hcur hg HR5 HR6 hY k0 k1 k2 y0 y1 y2
      obtain ⟨⟨k0, k1, k2⟩, ⟨y0, y1, y2⟩⟩ := three HR7.out.s
      have HX7 := hid (HR7.out.i.bx)
      obtain ⟨⟨x0, x1, x2, x3⟩, -⟩ := four HX7.out
      have HR8 := hid (HR7.out.set 2 _ _ (skAt_2 HR7.out.s Y))
      have HR8b := hid (HR8.out.set 1 _ _ (skAt_1 HR8.out.s (Y == 1)))
      go_wp2_with fail
      refine (number_any 4 (by omega) p c1 (4 + 8 * j + 2 + 2) A1 D _ HR8b.out.i.cur HR8b.out.i.bc HB0.out HC1.out (by have := HL0.out; omega) (by have := h2.out; omega)).mono ?_
      intro e w8 hr
      obtain ⟨rfl, hcur, hg⟩ := read_yes hr h2.out.2.2
      have HR9 := hid (HR8b.out.read hg hcur)
      obtain ⟨Z, hZ⟩ : ∃ Z, peekV 4 D (4 + 8 * j + 2 + 2) = Z := ⟨_, rfl⟩
      rw [hZ]
      have HZZ := hid hZ
      clear hr hcur hg HR7 HR8 HR8b hZ k0 k1 k2 y0 y1 y2 x0 x1 x2 x3 HX7
      obtain ⟨⟨k0, k1, k2⟩, ⟨y0, y1, y2⟩⟩ := three HR9.out.s
      have HR10 := hid (HR9.out.set 2 _ _ (skAt_2 HR9.out.s Z))
      obtain ⟨i0, hi0, hz0, hz1, hz2⟩ := info_parts infoS
      have HSK := hid (show (⟨X, Y == 1, Z⟩ : Sk) = ofSk true D j by
        unfold ofSk
        rw [if_pos rfl, ← HXX.out, ← HYY.out, ← HZZ.out, show 4 + 8 * j + 2 + 2 = 8 + 8 * j by omega, show 4 + 8 * j + 2 = 6 + 8 * j by omega])
      obtain ⟨B, hB⟩ : ∃ B, (Y == 1) = B := ⟨_, rfl⟩
      rw [hB] at k1 HR10 HSK
      have hn8 := hid (show (ofL true D j).length + 1 ≤ 1000000 by have := HL0.out; have := h2.out; rw [ofL_len]; omega)
      have HR11 := hid (HR10.out.alloc (.cells (Sk.cells ⟨X, B, Z⟩).toArray 28))
      have hsz : (w8.setCell ⟨wr.heap.size, 2, none⟩ (.int .u32 Z)).heap.size = w8.heap.size := by simp
      have hnews := news3 (w8.setCell ⟨wr.heap.size, 2, none⟩ (.int .u32 Z)) ⟨X, B, Z⟩
      rw [hsz] at hnews
      have HNW := hid hnews
      clear hsz hnews
      have hps : p + 1 ≤ ((w8.setCell ⟨wr.heap.size, 2, none⟩ (.int .u32 Z)).alloc (.cells (Sk.cells ⟨X, B, Z⟩).toArray 28)).heap.size := (Array.getElem?_eq_some_iff.1 HR11.out.i.cur).1
      have HPS := hid hps
      have HBB := hid hB
      clear hps HR9 HR10 hB
      go_wp2_with (at_builtin; refine wpList_append_own _ rfl _ _ 38 rfl (p + 1) 28 i0 _ 3 8 Tryz.underlying38 hi0 hz0 hz1 hz2 rfl (by decide) _ _ _ rfl HR11.out.i.own ⟨w8.heap.size, 0, none⟩ 1 1 (Sk.cells ⟨X, B, Z⟩) rfl rfl HNW.out (by intro u hu; simp only [Sk.cells, List.mem_cons, List.not_mem_nil, or_false] at hu; rcases hu with rfl | rfl | rfl <;> rfl) (by have := hn8.out; unfold maxLen; omega) (by have := hn8.out; omega) HPS.out ?_; intro v' w9 hown' hgrow _; have HI9 := hid (HR11.out.app hgrow hown'); obtain ⟨A9, c9, rfl⟩ := ownS_form HI9.out.own; clear hown' hgrow)
      refine ⟨⟨j + 1, by omega, ⟨A9, c9, by rw [ofL_len]⟩, hid ?_⟩, by rw [ofL_len]; simp only [lenV]; omega⟩
      have hfin := HI9.out
      rw [ofL_step, ← HSK.out, show 4 + 8 * (j + 1) = 4 + 8 * j + 2 + 2 + 4 by omega]
      simp only [List.length_append, List.length_singleton] at hfin
      exact hfin
    · obtain rfl : j = q := by omega
      have hz : (4 + 8 * j) = D.length := hq.symm
      have hlf := left_any p A1 D.length c1 (4 + 8 * j) wr hI.out.cur (by omega) (by omega)
      rw [show D.length - (4 + 8 * j) = 0 by omega] at hlf
      have HN := hid (show ofN true D = j by unfold ofN; rw [if_pos rfl, hq]; omega)
      clear hz hq hl
      go_wp2_with fail
      refine hlf.mono ?_
      rintro e w4 ⟨rfl, g, hg⟩
      subst hg
      clear hlf
      have HI4 := hid (hI.out.step (below_drew (Below.refl _ _) g))
      go_wp2_with fail
      go_ret3
      refine ⟨_, rfl, ?_, HI4.out.bel⟩
      rw [HN.out]
      exact ownS_lower HI4.out.own (by have := HI4.out.hp; omega)
end Go.Proofs.YtcjcgehhmjnlcaaGreatDoor
