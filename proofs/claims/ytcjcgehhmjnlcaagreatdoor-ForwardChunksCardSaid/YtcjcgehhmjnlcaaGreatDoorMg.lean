/- Joined: Cmp, Mpk, RLwm, Mgf, Mgv, Mgc. -/
import Derived.Test.YtcjcgehhmjnlcaaGreatDoorCpr
import Derived.Test.YtcjcgehhmjnlcaaGreatDoorMe
import Derived.Sort.Grow
import Derived.WideKeyArr
import Derived.WideKeyPair
import Derived.Maps.Keyed
import Derived.Maps.OwnIn
import Derived.Maps.OwnOps
import Derived.Test.YtcjcgehhmjnlcaaGreatDoorMa
import Derived.RangeFuncNested
import Derived.RangeFuncBound
import Derived.RangeFuncCalls
import Derived.RangeFuncLeaves
import Derived.RangeFuncStops
import Derived.RangeFuncWrites
import Derived.RangeFuncBox
import Derived.Shelf.Abstract
import Derived.Shelf.RegionOpen
import Derived.OwnWalkIn
import Derived.TacticsInMore
import Derived.RegionIn
import Derived.LoopNIn
import Derived.LoopIn
import Derived.Test.YtcjcgehhmjnlcaaGreatDoorMf
import Derived.Sort.MapsRangeIn
import Derived.Sort.KeysCollected
import Derived.Maps.AppendAt
import Derived.RangeFuncFrom
/- 'forward.Compare', with the world told as draws and new blocks. -/
set_option linter.unusedVariables false
set_option linter.unusedSimpArgs false
namespace Go.Proofs.YtcjcgehhmjnlcaaGreatDoor
open Go.RowKit Go.Shelf Go.Proofs.YtcjcgehhmjnlcaaGreatDoor.It Go.Proofs.YtcjcgehhmjnlcaaGreatDoorW.PrintWords Go.Proofs.YtcjcgehhmjnlcaaGreatDoorW.PrintLast Go.Proofs.YtcjcgehhmjnlcaaGreatDoorW.PrintMore PForwardMatchesReference Go.Sort

def c3 (x y : Int) : Int := if x < y then -1 else if x > y then 1 else 0
def orI (x y : Int) : Int := if x = 0 then y else x
def cmpS (a b : Sk) : Int := orI (c3 a.st b.st) (c3 (ofB a.un) (ofB b.un))
def GrowOf (w W : World) : Prop := ∃ q os, W = grow (w.drewN q) os
theorem GrowOf.refl (w : World) : GrowOf w w := ⟨0, #[], by simp [grow]; rfl⟩
theorem GrowOf.alloc {w W : World} (h : GrowOf w W) (o : Obj) : GrowOf w (W.alloc o) := by
  obtain ⟨q, os, rfl⟩ := h
  exact ⟨q, os ++ #[o], by rw [alloc_eq_grow, grow_grow]⟩
theorem GrowOf.drawn {w W W' : World} (hd : Drawn0 W W') (h : GrowOf w W) : GrowOf w W' := by
  obtain ⟨q, os, rfl⟩ := h
  obtain ⟨n, rfl⟩ := hd.out
  refine ⟨q + n, os, ?_⟩
  rw [← World.drewN_drewN]
  rfl
abbrev SC (w2 : World) (p r : Nat) (a b : Sk) (W : World) : Prop := GrowOf w2 W ∧ W.cell? ⟨p, 0, none⟩ = some (.int .u16 a.st) ∧ W.cell? ⟨p, 1, none⟩ = some (.bool a.un) ∧ W.cell? ⟨r, 0, none⟩ = some (.int .u16 b.st) ∧ W.cell? ⟨r, 1, none⟩ = some (.bool b.un)
theorem SC.drawn {w2 W W' : World} {p r : Nat} {a b : Sk} (hd : Drawn0 W W') (h : SC w2 p r a b W) : SC w2 p r a b W' := by
  refine ⟨h.1.drawn hd, ?_⟩
  obtain ⟨n, rfl⟩ := hd.out
  exact h.2
theorem SC.alloc {w2 W : World} {p r : Nat} {a b : Sk} {o : Obj} (h : SC w2 p r a b W) : SC w2 p r a b (W.alloc o) := by
  have hb : Below W.heap.size W (W.alloc o) := below_alloc (Below.refl _ _) o
  exact ⟨h.1.alloc o, (Below.cell hb (World.block_lt_of_cell? W _ h.2.1)).trans h.2.1, (Below.cell hb (World.block_lt_of_cell? W _ h.2.2.1)).trans h.2.2.1, (Below.cell hb (World.block_lt_of_cell? W _ h.2.2.2.1)).trans h.2.2.2.1, (Below.cell hb (World.block_lt_of_cell? W _ h.2.2.2.2)).trans h.2.2.2.2⟩
theorem sc_grow {w2 W0 W : World} {p r : Nat} {a b : Sk} (hd : Drawn0 W0 W) (h : SC w2 p r a b W) : GrowOf w2 W := h.1
theorem c16_any (x y : Int) (w : World) : Calls Tryz.prog 47 #[.int .u16 x, .int .u16 y] w fun e w' => e = .returned (.int .i64 (c3 x y)) ∧ Drawn0 w w' :=
  cmp_Compare_uint16.calls x y (c3 x y) w (by
    unfold cmp_Compare_uint16.f cmp_isNaN_uint16.f c3
    simp
    by_cases h1 : x < y
    · simp [h1]
    · by_cases h2 : x > y
      · simp [h1, h2]
      · simp [h1, h2])
theorem c32_any (x y : Int) (w : World) : Calls Tryz.prog 48 #[.int .u32 x, .int .u32 y] w fun e w' => e = .returned (.int .i64 (c3 x y)) ∧ Drawn0 w w' :=
  cmp_Compare_uint32.calls x y (c3 x y) w (by
    unfold cmp_Compare_uint32.f cmp_isNaN_uint32.f c3
    simp
    by_cases h1 : x < y
    · simp [h1]
    · by_cases h2 : x > y
      · simp [h1, h2]
      · simp [h1, h2])
theorem bit_drawn (b : Bool) (w : World) : Calls Tryz.prog 49 #[.bool b] w fun e w' => e = .returned (.int .u32 (ofB b)) ∧ Drawn0 w w' :=
  forward_bit.calls b (ofB b) w (by unfold forward_bit.f ofB; cases b <;> rfl)
theorem or_any (x y : Int) (w : World) (e : Nat) : Calls Tryz.prog 46 #[.slice (some ⟨w.heap.size, 0, none⟩) 2 2] (w.alloc (.cells #[.int .i64 x, .int .i64 y] e)) fun e' w' => e' = .returned (.int .i64 (orI x y)) ∧ Drawn0 (w.alloc (.cells #[.int .i64 x, .int .i64 y] e)) w' :=
  cmp_Or_int.calls 20 (some ⟨w.heap.size, 0, none⟩) 2 [x, y] _ _ (ints_mk (by simp) (fun t ht => by
    have h := cell_new w (.int .i64 x) (.int .i64 y) e
    match t with
    | 0 => exact h.1
    | 1 => exact h.2
    | n + 2 => simp at ht; omega)) (by simp) (by
    unfold orI
    by_cases h : x = 0
    · by_cases hy : y = 0 <;> simp [cmp_Or_int.f, cmp_Or_int.l0, rd, wrap64, h, hy]
    · simp [cmp_Or_int.f, cmp_Or_int.l0, rd, wrap64, h])
set_option maxRecDepth 100000 in
set_option maxHeartbeats 4000000 in
theorem compare_any (a b : Sk) (w : World) : Calls Tryz.prog 14 #[.agg a.cells.toArray, .agg b.cells.toArray] w fun e w' => e = .returned (.int .i64 (cmpS a b)) ∧ GrowOf w w' := by
  have hS : SC w w.heap.size (w.heap.size + 1) a b ((w.alloc (.cells a.cells.toArray 28)).alloc (.cells b.cells.toArray 28)).drew := by
    obtain ⟨⟨c0, c1, -⟩, -⟩ := three (blk_alloc (x := .cells b.cells.toArray 28) (blk_new w (.cells a.cells.toArray 28)))
    obtain ⟨⟨d0, d1, -⟩, -⟩ := three (blk_new1 w (.cells a.cells.toArray 28) (.cells b.cells.toArray 28))
    exact ⟨(((GrowOf.refl w).alloc _).alloc _).drawn ⟨⟨1, rfl⟩⟩, c0, c1, d0, d1⟩
  have hS2 := hS
  have HS := hid hS
  clear hS
  obtain ⟨-, c0, c1, d0, d1⟩ := hS2
  go_enter Tryz.func14, Tryz.ntmps14
  go_wp2_with fail
  clear c0 c1 d0 d1
  have hS := HS.out
  go_region_held3 (fun W => GrowOf w W ∧ W.cell? ⟨w.heap.size, 0, none⟩ = some (.int .u16 a.st) ∧ W.cell? ⟨w.heap.size, 1, none⟩ = some (.bool a.un) ∧ W.cell? ⟨w.heap.size + 1, 0, none⟩ = some (.int .u16 b.st) ∧ W.cell? ⟨w.heap.size + 1, 1, none⟩ = some (.bool b.un))
    (first | with_reducible assumption | (refine SC.alloc ?_; with_reducible assumption) | (refine SC.drawn (by with_reducible assumption) ?_; with_reducible assumption))
    (first
      | (go_at_call 47; refine Calls.mono (c16_any _ _ _) ?_; rintro e W ⟨rfl, hd⟩)
      | (go_at_call 49; refine Calls.mono (bit_drawn _ _) ?_; rintro e W ⟨rfl, hd⟩)
      | (go_at_call 48; refine Calls.mono (c32_any _ _ _) ?_; rintro e W ⟨rfl, hd⟩)
      | (go_at_call 46; refine Calls.mono (or_any _ _ _ _) ?_; rintro e W ⟨rfl, hd⟩))
  all_goals
    go_wp2_with fail
    go_ret
    exact ⟨rfl, sc_grow (a := a) (b := b) (p := w.heap.size) (r := w.heap.size + 1) hd (by with_reducible assumption)⟩
end Go.Proofs.YtcjcgehhmjnlcaaGreatDoor
/- A map by pairs of numbers; 'forward.Merge': the filling. -/
set_option linter.unusedVariables false
set_option linter.unusedSimpArgs false
namespace Go.Proofs.YtcjcgehhmjnlcaaGreatDoor
open Go.RowKit Go.Shelf Go.Maps Go.WideMaps Go.Proofs.YtcjcgehhmjnlcaaGreatDoorW.PrintWords

theorem arrK : ArrKey Tryz.prog 142 23 2 := ⟨Tryz.underlying142, by kernel_rfl, by kernel_rfl, by kernel_rfl⟩
theorem lawK : Keyed Tryz.prog 142 := Keyed.of_law arrK.law
theorem tsz : ∃ m, Tryz.prog.types.size = m + 1 := ⟨Tryz.prog.types.size - 1, by kernel_rfl⟩
/-- A skip's key. -/
def Sk.key (s : Sk) : Lit := .string (keyBytes [.int .u32 s.st, .int .u32 (ofB s.un)])
theorem key_of (s : Sk) (h : s.ok) : keyOf Tryz.prog 142 (.agg #[.int .u32 s.st, .int .u32 (ofB s.un)]) = some s.key :=
  keyOf_pair arrK Tryz.underlying23 tsz (WalkArith.wf_u32 (by obtain ⟨h0, h1, -⟩ := h; omega)) (by unfold ofB; cases s.un <;> decide)
def heldElem (v : Value) : Option (DataW Value × List MemPlace) := some (.held v, [])
/-- The map of skips, the last of each key. -/
def skD (l : List Sk) : DataW Value := l.foldl (fun m s => m.put s.key (.held (.agg s.cells.toArray))) (.map [])
theorem skD_step (l : List Sk) (s : Sk) : skD (l ++ [s]) = (skD l).put s.key (.held (.agg s.cells.toArray)) := by simp [skD, List.foldl_append]
set_option maxHeartbeats 1000000 in
theorem bit_same (b : Bool) (w : World) : Calls Tryz.prog 49 #[.bool b] w fun e w' => e = .returned (.int .u32 (ofB b)) ∧ w' = w := by
  cases b
  all_goals
    go_enter Tryz.func49, Tryz.ntmps49
    go_wp2_with fail
    go_ret
    exact ⟨rfl, rfl⟩
end Go.Proofs.YtcjcgehhmjnlcaaGreatDoor
/- The law of a range over a function whose round's variable is laid in memory. -/
set_option linter.unusedVariables false
namespace Go.Proofs.YtcjcgehhmjnlcaaGreatDoor.It
open Go.RowKit
variable {F : Fence} {n : Nat} {P : Program}


theorem wpIn_rangeFunc_M {α : Type} {g : Operand} {ps : Array Tmp} {assign body : Code} {Q : Exit → Act → World → Prop} {a : Act} {w : World}
    (hro : F.round = none) (h1 : 1 ≤ n) {gf : Nat} {lb : Array Value} (hg : a.eval g = .func (.func gf) #[] lb) (hFg : F.fn gf) (eg : ∀ args w, (callFunc gf args).run P w = .ok (.enter gf args) w)
    {encs : α → Array Value} {Kp : Nat → World → World → Prop} {S Sp : List α → Prop} {w0 : World} (hseq : SeqL F (n - 1) P gf lb encs Kp S Sp w0)
    (hKt : ∀ {l : Nat} {A B C : World}, Kp l A B → Kp l B C → Kp l A C) (hKb : ∀ (W : World) (l : Nat) (o o' : Obj), W.heap[l]? = some o → o.isCells = false → o.isWalk = false → Kp l W (W.putObj l o'))
    (hb0 : Below w0.heap.size w0 w) (hps : ∀ x, (encs x).size = ps.size)
    (I : List α → World → Prop) (Ix : Code → List α → World → Prop) (hI : OwnFrom w.heap.size I) (hIx : ∀ c, OwnFrom w.heap.size (Ix c)) (h0 : I [] w) (At : α → Act → World → Prop) (hAt : OwnFrom w.heap.size (fun (p : α × Act) W => At p.1 p.2 W))
    (hassign : ∀ (l : Nat) (x : α) (W : World) (K : Act → World → Prop), (∀ a' W', At x a' W' → W.grownBy W' none → Kp l W W' → K a' W') →
      assign.wpIn (F.inRound l) (n - 1 - 1) P (Exit.then K (fun _ _ _ => False)) { tmps := (ps.zip (encs x)).foldl (fun t (p, v) => t.setIfInBounds p v) a.tmps, defers := [] } W)
    (hbody : ∀ (l : Nat) (pre : List α) (x : α) (a' : Act) (W : World), l = w.heap.size + 1 → I pre W → Sp (pre ++ [x]) → At x a' W → body.wpIn (F.inRound l) (n - 1 - 1) P (ownPostL w.heap.size (Kp l) I Ix (pre ++ [x]) W) a' W)
    (hdone : ∀ (D : Nat) (xs : List α) (W : World), w.heap.size ≤ D → S xs → I xs W → W.heap[D]? = some (.deferred (some [])) → Q .normal { a with defers := { target := .collected D, args := #[] } :: a.defers } W)
    (hstop : ∀ (D : Nat) (c : Code) (pre : List α) (W : World), w.heap.size ≤ D → Sp pre → Ix c pre W → W.heap[D]? = some (.deferred (some [])) → c.wpIn F n P Q { a with defers := { target := .collected D, args := #[] } :: a.defers } W) :
    (Code.rangeFunc g ps assign body).wpIn F n P Q a w := by
  refine wpIn_rangeFunc ?_
  intro fn hfn
  rw [hro]
  obtain ⟨rec, hrec⟩ : ∃ rec : LoopState → Option Code → Loop, rec = fun st pe => { state := st, pending := pe, fn, tmps := a.tmps, params := ps, assign, body, defers := w.heap.size } := ⟨_, rfl⟩
  obtain ⟨W1, hW1⟩ : ∃ W1, (w.alloc (.deferred (some []))).alloc (.loop (rec .ready none)) = W1 := ⟨_, rfl⟩
  have hs1 : W1.heap.size = w.heap.size + 2 := by rw [← hW1]; simp
  have hL1 : W1.heap[w.heap.size + 1]? = some (.loop (rec .ready none)) := by
    rw [← hW1]; have := World.alloc_heap_new (w.alloc (.deferred (some []))) (.loop (rec .ready none)); rwa [World.size_alloc] at this
  have hK1 : W1.heap[w.heap.size]? = some (.deferred (some [])) := by
    rw [← hW1]; exact (Below.heap_alloc _ _ _ (by simp)).trans (World.alloc_heap_new w _)
  have hI1 : I [] W1 := by rw [← hW1]; exact hI.alloc _ (hI.alloc _ h0)
  have hb1 : Below w0.heap.size w0 W1 := by
    rw [← hW1]; exact hb0.trans ((((Below.refl _ w).alloc (Nat.le_refl _) _).alloc (by simp) _).mono hb0.size)
  have other : ∀ {A B : World} {row : Option Nat} {b : Nat} {o : Obj}, A.grownBy B row → (∀ r, row = some r → W1.heap.size ≤ r ∧ ∃ o : Obj, A.heap[r]? = some o ∧ o.isCells = false) → b < W1.heap.size → A.heap[b]? = some o → B.heap[b]? = some o :=
    fun hg hr hb hA => (hg.block _ (Array.getElem?_eq_some_iff.1 hA).1 (fun e => by have := (hr _ e.symm).1; omega)).trans hA
  refine ⟨w.heap.size + 1, [{ target := .collected w.heap.size, args := #[] }], W1, { target := .fn (.func gf) lb, args := #[.func (.yield (w.heap.size + 1)) #[] #[]] }, W1, gf,
    #[.func (.yield (w.heap.size + 1)) #[] #[]] ++ lb, W1, ?_, ?_, ?_, ?_, fun _ => h1, ?_⟩
  · rw [← hW1, hrec]; exact run_enterLoop_outer _ _ _ _ _
  · simp only [resolve, hg]
    simp [go_sem]
  · intro f' hf'; simp [Target.leads] at hf'; subst hf'; exact hFg
  · simp [invoke, go_sem, eg]
  · refine (hseq (w.heap.size + 1)
      (fun pre W => I pre W ∧ W.heap[w.heap.size + 1]? = some (.loop (rec .ready none)) ∧ W.heap[w.heap.size]? = some (.deferred (some [])))
      (fun pre W => ∃ c, Ix c pre W ∧ W.heap[w.heap.size + 1]? = some (.loop (rec .done (some c))) ∧ W.heap[w.heap.size]? = some (.deferred (some [])))
      W1 hb1 (by have := hb0.size; omega) (by omega)
      (fun s A B row hs hg' hr => ⟨hI s A B row hs.1 hg' (fun r e => ⟨by have := (hr r e).1; omega, (hr r e).2⟩), other hg' hr (by omega) hs.2.1, other hg' hr (by omega) hs.2.2⟩)
      (fun s A B row hs hg' hr => by
        obtain ⟨c, hc, hl, hk⟩ := hs
        exact ⟨c, hIx c s A B row hc hg' (fun r e => ⟨by have := (hr r e).1; omega, (hr r e).2⟩), other hg' hr (by omega) hl, other hg' hr (by omega) hk⟩)
      ?_ ⟨hI1, hL1, hK1⟩).mono ?_
    · rintro pre x W ⟨hi, hl, hk⟩ hlen
      have hy := run_yield (P := P) (args := encs x) hl (by rw [hrec]; exact hps x)
      rw [hrec] at hy
      refine ⟨fn, _, assign, body, hy, roundIn_of_wpIn hfn (hassign (w.heap.size + 1) x W _ (fun a' W0 hat hgr hkp => ?_))⟩
      have hl0 : W0.heap[w.heap.size + 1]? = some (.loop (rec .ready none)) := (hgr.block _ (Array.getElem?_eq_some_iff.1 hl).1 (by simp)).trans hl
      have hk0 : W0.heap[w.heap.size]? = some (.deferred (some [])) := (hgr.block _ (Array.getElem?_eq_some_iff.1 hk).1 (by simp)).trans hk
      have hi0 : I pre W0 := hI pre W W0 none hi hgr (fun r e => by cases e)
      have hlt : w.heap.size + 1 < W0.heap.size := (Array.getElem?_eq_some_iff.1 hl0).1
      refine ⟨_, run_beginRound hl0 (by rw [hrec]), ?_⟩
      have hl2 : (W0.putObj (w.heap.size + 1) (.loop { rec .ready none with state := .busy })).heap[w.heap.size + 1]? = some (.loop { rec .ready none with state := .busy }) := World.putObj_heap_same hlt
      have hk2 : (W0.putObj (w.heap.size + 1) (.loop { rec .ready none with state := .busy })).heap[w.heap.size]? = some (.deferred (some [])) := (World.putObj_heap_other (by omega)).trans hk0
      have hw2 : Kp (w.heap.size + 1) W (W0.putObj (w.heap.size + 1) (.loop { rec .ready none with state := .busy })) := hKt hkp (hKb _ _ _ _ hl0 rfl rfl)
      refine wpIn_mono (hbody _ pre x a' _ rfl (hI.putObj _ hi0 (by omega) hl0 rfl) hlen (hAt.putObj (s := (x, a')) _ hat (by omega) hl0 rfl)) ?_
      have fin : ∀ (jump : Option Code) (W3 : World), KeepsFrom w.heap.size (W0.putObj (w.heap.size + 1) (.loop { rec .ready none with state := .busy })) W3 →
          (Instr.endRound (w.heap.size + 1) jump).run P W3 = .ok (.bool jump.isNone) (W3.putObj (w.heap.size + 1) (.loop (rec (if jump.isNone then .ready else .done) jump))) ∧
          W3.heap[w.heap.size + 1]? = some (.loop { rec .ready none with state := .busy }) ∧
          (W3.putObj (w.heap.size + 1) (.loop (rec (if jump.isNone then .ready else .done) jump))).heap[w.heap.size + 1]? = some (.loop (rec (if jump.isNone then .ready else .done) jump)) ∧
          (W3.putObj (w.heap.size + 1) (.loop (rec (if jump.isNone then .ready else .done) jump))).heap[w.heap.size]? = some (.deferred (some [])) := fun jump W3 hk3 => by
        have hl3 := hk3.same _ _ (by omega) hl2 rfl
        have := run_endRound (P := P) jump hl3
        rw [hrec] at this ⊢
        exact ⟨this, by rw [hrec] at hl3; exact hl3, World.putObj_heap_same (Array.getElem?_eq_some_iff.1 hl3).1, (World.putObj_heap_other (by omega)).trans (hk3.same _ _ (Nat.le_refl _) hk2 rfl)⟩
      rintro e a3 W3 hp
      cases e with
      | normal =>
        obtain ⟨hk3, hkp3, hi3⟩ := hp
        obtain ⟨hr, hl3, hl4, hk4⟩ := fin none W3 hk3
        exact ⟨_, _, hr, .inl ⟨rfl, ⟨hI.putObj _ hi3 (by omega) hl3 rfl, hl4, hk4⟩, hKt (hKt hw2 hkp3) (hKb _ _ _ _ hl3 rfl rfl)⟩⟩
      | ret =>
        obtain ⟨hk3, hkp3, hi3⟩ := hp
        obtain ⟨hr, hl3, hl4, hk4⟩ := fin (some .ret) W3 hk3
        exact ⟨_, _, hr, .inr ⟨rfl, ⟨.ret, (hIx _).putObj _ hi3 (by omega) hl3 rfl, hl4, hk4⟩, hKt (hKt hw2 hkp3) (hKb _ _ _ _ hl3 rfl rfl)⟩⟩
      | exit id =>
        obtain ⟨hk3, hkp3, hi3⟩ := hp
        obtain ⟨hr, hl3, hl4, hk4⟩ := fin (some (.exit id)) W3 hk3
        exact ⟨_, _, hr, .inr ⟨rfl, ⟨.exit id, (hIx _).putObj _ hi3 (by omega) hl3 rfl, hl4, hk4⟩, hKt (hKt hw2 hkp3) (hKb _ _ _ _ hl3 rfl rfl)⟩⟩
      | goto t =>
        obtain ⟨hk3, hkp3, hi3⟩ := hp
        obtain ⟨hr, hl3, hl4, hk4⟩ := fin (some (.goto t)) W3 hk3
        exact ⟨_, _, hr, .inr ⟨rfl, ⟨.goto t, (hIx _).putObj _ hi3 (by omega) hl3 rfl, hl4, hk4⟩, hKt (hKt hw2 hkp3) (hKb _ _ _ _ hl3 rfl rfl)⟩⟩
      | panic ch => exact hp.elim
      | outgrown => exact hp.elim
    · rintro e W2 ⟨⟨v, rfl⟩, (⟨xs, hS, hi, hl, hk⟩ | ⟨pre, hSp, c, hi, hl, hk⟩)⟩
      · exact ⟨none, _, by have := run_endLoop (P := P) hl (by rw [hrec]; simp); rw [hrec] at this; exact this, hdone _ xs _ (Nat.le_refl _) hS (hI.putObj _ hi (by omega) hl rfl) ((World.putObj_heap_other (by omega)).trans hk)⟩
      · exact ⟨some c, _, by have := run_endLoop (P := P) hl (by rw [hrec]; simp); rw [hrec] at this; exact this, hstop _ c pre _ (Nat.le_refl _) hSp ((hIx c).putObj _ hi (by omega) hl rfl) ((World.putObj_heap_other (by omega)).trans hk)⟩

end Go.Proofs.YtcjcgehhmjnlcaaGreatDoor.It
/- 'forward.Merge': the loop that fills the map. -/
set_option linter.unusedVariables false
set_option linter.unusedSimpArgs false
namespace Go.Proofs.YtcjcgehhmjnlcaaGreatDoor
open Go.RowKit Go.Shelf Go.Maps Go.WideMaps Go.Proofs.YtcjcgehhmjnlcaaGreatDoorW.PrintWords

structure MgI (w : World) (mb : Nat) (l : List Sk) (i : Nat) (W : World) : Prop where
  bel : Below w.heap.size w W
  own : W.ownsMap Tryz.prog 142 heldElem mb i (skD (l.take i))
  hb : w.heap.size ≤ mb
abbrev S5 (b : Nat) (s : Sk) (W : World) : Prop := W.cell? ⟨b, 0, none⟩ = some (.int .u16 s.st) ∧ W.cell? ⟨b, 1, none⟩ = some (.bool s.un) ∧ W.cell? ⟨b, 2, none⟩ = some (.int .u32 s.sq)
theorem S5.grown {b mb : Nat} {s : Sk} {W W' : World} (h : S5 b s W) (hg : W.grownBy W' (some mb)) (hne : b ≠ mb) : S5 b s W' :=
  ⟨hg.cell h.1 (by simpa using hne), hg.cell h.2.1 (by simpa using hne), hg.cell h.2.2 (by simpa using hne)⟩
set_option maxHeartbeats 1000000 in
theorem values_any (mb : Nat) (w : World) : Calls Tryz.prog 90 #[.map (some mb)] w fun e w' => e = .returned (.func (.func 119) #[] #[.pointer (some ⟨w.heap.size, 0, none⟩)]) ∧ w' = w.alloc (.cells #[.map (some mb)] 141) := by
  go_enter Tryz.func90, Tryz.ntmps90
  go_wp2_with fail
  go_ret
  exact ⟨rfl, rfl⟩
set_option maxRecDepth 100000 in
set_option maxHeartbeats 4000000 in
theorem merge_any (A : Option Addr) (c : Nat) (l : List Sk) (w : World) (hS : SkC w A l) (hok : ∀ s ∈ l, s.ok) (hc : l.length ≤ c) (hl : l.length ≤ 1000000) (R : Ending → World → Prop)
    (hR : ∀ (mb : Nat) (W : World), MgI w mb l l.length W → Calls Tryz.prog 89 #[.func (.func 119) #[] #[.pointer (some ⟨W.heap.size, 0, none⟩)], .func (.func 14) #[] #[]] (W.alloc (.cells #[.map (some mb)] 141)) fun e w' => ∃ v, e = .returned v ∧ R e w') :
    Calls Tryz.prog 44 #[.slice A l.length c] w R := by
  have HS := hid hS
  have HO := hid hok
  have HL := hid hl
  have HR := hid hR
  have hmm := @run_makeMap Tryz.prog
  clear hS hok hc hl hR
  go_enter Tryz.func44, Tryz.ntmps44
  go_wp2_with fail
  clear hmm
  have HI0 := hid (show MgI w w.heap.size l 0 (w.alloc (.map #[] 0)) from ⟨below_alloc (Below.refl _ _) _, World.ownsMap_made _ _ _ _, Nat.le_refl _⟩)
  go_loopw [9] (fun iv W => ∃ i : Nat, iv = .int .i64 i ∧ i ≤ l.length ∧ Hid (MgI w w.heap.size l i W)) (fun iv _ => l.length - (intOf iv).toNat)
  case atStart => exact ⟨0, rfl, by omega, HI0⟩
  case round =>
    obtain ⟨i, rfl, hi, hI⟩ := hrel
    clear HI0
    by_cases hlt : i < l.length
    · have hs : (l.getD i skZ).ok := HO.out _ (by rw [List.getD_eq_getElem?_getD, List.getElem?_eq_getElem hlt]; exact List.getElem_mem hlt)
      rcases HS.out.below hI.out.bel with h | ⟨b, off, rfl, hc⟩
      · rw [h] at hlt; exact absurd hlt (by simp)
      · obtain ⟨k0, k1, k2⟩ := hc i hlt
        clear hc
        obtain ⟨s, hsd⟩ : ∃ s, l.getD i skZ = s := ⟨_, rfl⟩
        rw [hsd] at hs k0 k1 k2
        have HSD := hid hsd
        have HOK := hid hs
        clear hsd hs
        have hm0 : (wr.alloc (.cells s.cells.toArray 28)).drew.ownsMap Tryz.prog 142 heldElem w.heap.size i (skD (l.take i)) := (hI.out.own.alloc _).drew
        obtain ⟨w', hrun, hown', hgr⟩ := hm0.update lawK Tryz.underlying141 (by have := HL.out; unfold maxLen; omega) (key_of s HOK.out) (show heldElem (.agg s.cells.toArray) = some (_, _) from rfl)
        have hS5 : S5 wr.heap.size s (wr.alloc (.cells s.cells.toArray 28)).drew := (three (blk_new wr (.cells s.cells.toArray 28))).1
        have hS5' : S5 wr.heap.size s w' := hS5.grown hgr (by have := hI.out.own.lt; omega)
        have H5 := hid hS5
        have H5' := hid hS5'
        have HG := hid hgr
        have HW := hid hown'
        obtain ⟨s0, s1, -, -⟩ := HOK.out
        have hwst := wrap_st s0 s1
        clear hm0 hS5 hS5' hgr hown'
        rw [← hwst] at hrun
        have hrun2 : (Instr.mapUpdate 141 (.map (some w.heap.size)) (.agg #[.int .u32 (IntKind.u32.wrap s.st), .int .u32 (ofB s.un)]) (.agg #[.int .u16 s.st, .bool s.un, .int .u32 s.sq])).run Tryz.prog (wr.alloc (.cells #[.int .u16 s.st, .bool s.un, .int .u32 s.sq] 28)).drew = .ok () w' := hrun
        clear hrun hwst
        go_wp2_with fail
        go_region_held3 (fun W => W.cell? ⟨wr.heap.size, 0, none⟩ = some (.int .u16 s.st) ∧ W.cell? ⟨wr.heap.size, 1, none⟩ = some (.bool s.un) ∧ W.cell? ⟨wr.heap.size, 2, none⟩ = some (.int .u32 s.sq))
          (first | exact H5.out | exact H5'.out)
          (first
            | (go_at_call 49; refine Calls.mono (bit_same _ _) ?_; rintro e W ⟨rfl, rfl⟩))
        have hl' := HL.out
        go_wp2_with fail
        refine ⟨⟨i + 1, by simp, by omega, hid ⟨?_, ?_, Nat.le_refl _⟩⟩, by simp only [intOf]; omega⟩
        · exact below_grown (below_drew (below_alloc hI.out.bel _) 1) HG.out (Nat.le_refl _)
        · rw [take_step hlt HSD.out, skD_step]
          exact HW.out
    · obtain rfl : i = l.length := by omega
      have hv := values_any w.heap.size wr
      have hr := HR.out w.heap.size wr hI.out
      clear HR
      go_wp2_with fail
      refine hv.mono ?_
      rintro e w1 ⟨rfl, rfl⟩
      go_wp2_with fail
      refine hr.mono ?_
      rintro e w2 ⟨v, rfl, hRR⟩
      go_wp2_with fail
      exact hRR
end Go.Proofs.YtcjcgehhmjnlcaaGreatDoor
/- 'maps.Values' over the map of skips: the iterator, by its promise. -/
set_option linter.unusedVariables false
set_option linter.unusedSimpArgs false
namespace Go.Proofs.YtcjcgehhmjnlcaaGreatDoor.It
open Go.RowKit Go.Shelf Go.Maps Go.WideMaps Go.Sort Go.Proofs.YtcjcgehhmjnlcaaGreatDoorW.PrintWords
attribute [local go_sem] Oper.semAt_some

theorem isKeyS (bs : List UInt8) : WideAt.IsKeyLit (.string bs) := by simp [WideAt.IsKeyLit]
theorem keyLit (r : Sk) : WideAt.IsKeyLit r.key := isKeyS _
theorem key_self (r : Sk) : r.key.sameKey r.key = true := WideAt.sameKey_self (keyLit r)
def lastIn (l : List Sk) (k : Lit) : Option Sk := l.reverse.find? (fun s => s.key.sameKey k)
theorem skD_isMap (l : List Sk) : ∀ m : DataW Value, IsMap m → IsMap (l.foldl (fun m s => m.put s.key (.held (.agg s.cells.toArray))) m) := by
  induction l with
  | nil => exact fun m h => h
  | cons r l ih => exact fun m h => ih _ (h.put _ _)
theorem skD_map (l : List Sk) : IsMap (skD l) := skD_isMap l _ isMap_empty
theorem skD_at (l : List Sk) (k : Lit) (z : DataW Value) : (skD l).atKey k z = (match lastIn l k with | some r => .held (.agg r.cells.toArray) | none => z) := by
  obtain ⟨q, rfl⟩ : ∃ q : List Sk, l = q.reverse := ⟨l.reverse, by simp⟩
  induction q with
  | nil => rfl
  | cons r q ih =>
    unfold lastIn at ih ⊢
    rw [List.reverse_reverse] at ih
    rw [List.reverse_cons, skD_step, ← List.reverse_cons, List.reverse_reverse, List.find?_cons]
    cases h : r.key.sameKey k
    · have hne : k ≠ r.key := fun e => by
        rw [e, key_self] at h
        cases h
      rw [atKey_put_other hne, ih]
    · have he : r.key = k := WideAt.sameKey_eq h
      rw [← he, atKey_put_same (skD_map _) (keyLit r)]
theorem skD_has (l : List Sk) (k : Lit) : has (skD l) k = (lastIn l k).isSome := by
  obtain ⟨q, rfl⟩ : ∃ q : List Sk, l = q.reverse := ⟨l.reverse, by simp⟩
  induction q with
  | nil => rfl
  | cons r q ih =>
    unfold lastIn at ih ⊢
    rw [List.reverse_reverse] at ih
    rw [List.reverse_cons, skD_step, ← List.reverse_cons, List.reverse_reverse, List.find?_cons]
    cases h : r.key.sameKey k
    · have hne : k ≠ r.key := fun e => by
        rw [e, key_self] at h
        cases h
      rw [has_put_other hne, ih]
    · have he : r.key = k := WideAt.sameKey_eq h
      rw [← he, has_put_same (skD_map _) (keyLit r)]
      rfl
/-- What has come so far of the map's values. -/
structure VColl (l : List Sk) (left : Lit → Bool) (ss : List Sk) : Prop where
  nd : (ss.map Sk.key).Nodup
  mem : ∀ s ∈ ss, lastIn l s.key = some s ∧ left s.key = false
  all : ∀ k s, lastIn l k = some s → left k = false → s ∈ ss
theorem lastIn_key {l : List Sk} {k : Lit} {s : Sk} (h : lastIn l k = some s) : s.key = k := WideAt.sameKey_eq (by have := List.find?_some h; simpa using this)
theorem VColl.start (l : List Sk) : VColl l (has (skD l)) [] := ⟨List.nodup_nil, fun s h => (List.not_mem_nil h).elim, fun k s h1 h2 => by
  rw [skD_has, h1] at h2
  cases h2⟩
theorem VColl.step {l : List Sk} {left : Lit → Bool} {ss : List Sk} {s : Sk} (h : VColl l left ss) (hs : lastIn l s.key = some s) (hk : left s.key = true) : VColl l (fun z => left z && !z.sameKey s.key) (ss ++ [s]) := by
  refine ⟨?_, fun x hx => ?_, fun k x h1 h2 => ?_⟩
  · rw [List.map_append, List.nodup_append]
    refine ⟨h.nd, by simp, fun a ha b hb => ?_⟩
    simp only [List.map_cons, List.map_nil, List.mem_singleton] at hb
    subst hb
    rintro rfl
    obtain ⟨x, hx, e⟩ := List.mem_map.1 ha
    have := (h.mem x hx).2
    rw [e, hk] at this
    cases this
  · rcases List.mem_append.1 hx with h1 | h1
    · obtain ⟨h2, h3⟩ := h.mem x h1
      exact ⟨h2, by rw [h3]; rfl⟩
    · simp only [List.mem_singleton] at h1
      subst h1
      refine ⟨hs, ?_⟩
      rw [key_self]
      simp
  · have h2' : left k = false ∨ k.sameKey s.key = true := by
      cases hl : left k
      · exact .inl rfl
      · right
        rw [hl] at h2
        simpa using h2
    rcases h2' with h3 | h3
    · exact List.mem_append_left _ (h.all k x h1 h3)
    · have e : k = s.key := WideAt.sameKey_eq h3
      rw [e, hs] at h1
      cases h1
      exact List.mem_append_right _ (by simp)
/-- All values of the map of skips. -/
def ValS (l : List Sk) (ss : List Sk) : Prop := (ss.map Sk.key).Nodup ∧ ∀ s, s ∈ ss ↔ lastIn l s.key = some s
theorem VColl.done {l : List Sk} {left : Lit → Bool} {ss : List Sk} (h : VColl l left ss) (hl : ∀ k, left k = false) : ValS l ss := ⟨h.nd, fun s => ⟨fun hs => (h.mem s hs).1, fun hs => h.all _ s hs (hl _)⟩⟩
theorem held_sk {l : List Sk} {k : Lit} {v : Value} {y : DataW Value × List MemPlace} (hv : heldElem v = some y) (hat : ∀ zd, (skD l).atKey k zd = y.1) : ∃ s, lastIn l k = some s ∧ v = .agg s.cells.toArray := by
  unfold heldElem at hv
  cases hv
  have h1 := hat (.map [])
  rw [skD_at] at h1
  cases hf : lastIn l k with
  | none => rw [hf] at h1; simp at h1
  | some r =>
    rw [hf] at h1
    simp only [DataW.held.injEq] at h1
    exact ⟨r, rfl, h1.symm⟩
set_option maxRecDepth 100000 in
set_option maxHeartbeats 2000000 in
theorem values1_in (n : Nat) (hn : 1 ≤ n) (lp Bm b nn : Nat) (l : List Sk) (J Jx : List Sk → World → Prop)
    (hY : ∀ pre x W, J pre W → pre.length < Maps.size (skD l) → YieldAt Fence.wide (n - 1) Tryz.prog lp #[.agg x.cells.toArray] W fun e W' =>
      (e = .returned (.bool true) ∧ J (pre ++ [x]) W' ∧ KeepsWalks W W') ∨ (e = .returned (.bool false) ∧ Jx (pre ++ [x]) W'))
    (W : World) (hJ : AbidesFrom W.heap.size J) (hm : W.cell? ⟨Bm, 0, none⟩ = some (.map (some b))) (hown : W.ownsMap Tryz.prog 142 heldElem b nn (skD l)) (h0 : J [] W) :
    CallsIn Fence.wide n Tryz.prog 119 #[.func (.yield lp) #[] #[], .pointer (some ⟨Bm, 0, none⟩)] W fun e W' => (∃ v, e = .returned v) ∧
      ((∃ ss : List Sk, ValS l ss ∧ J ss W') ∨ (∃ pre : List Sk, pre.length ≤ Maps.size (skD l) ∧ Jx pre W')) := by
  refine callsIn_of_wp Tryz.func119 rfl trivial ?_ rfl
  simp only [Tryz.ntmps119, List.size_toArray, List.length_cons, List.length_nil, Nat.reduceAdd, Nat.reduceSub, Array.replicate_succ, Array.replicate_zero, List.push_toArray, List.append_toArray, List.nil_append, List.cons_append]
  gi_wp2_with (gi_at_range; refine wpListIn_range_own _ rfl _ 141 rfl 142 28 lawK Tryz.underlying141 _ b nn _ rfl hown ?_; intro w0 hrg0 hg0 hs0)
  go_frame
  gi_loopw [4] (fun _ wr => ∃ (left : Lit → Bool) (cnt : Nat) (ss : List Sk), wr.ranges Tryz.prog 142 heldElem b W.heap.size nn (skD l) left cnt ∧ ss.length + cnt ≤ Maps.size (skD l) ∧ VColl l left ss ∧ J ss wr)
    (fun _ wr => wr.rangeLeft b W.heap.size)
  case atStart =>
    exact ⟨_, _, [], hrg0, by simp, VColl.start l, hJ [] W w0 none h0 hg0 (fun r e => by cases e)⟩
  case round =>
    obtain ⟨left, cnt, ss, hrg, hcs, hC, hJs⟩ := hrel
    gi_wp2_with (gi_at_next; refine wpListIn_next_ranges _ rfl _ rfl 142 lawK heldElem (id : Value → Value) (id : Value → Value) (fun key kl hk => ⟨key, rfl⟩) (fun v _ _ => ⟨v, rfl⟩) b W.heap.size nn _ _ _ rfl hrg ?_ ?_)
    · intro hc0 hl0
      gi_wp2
      go_end0
      exact ⟨⟨_, rfl⟩, .inl ⟨ss, hC.done hl0, hJs⟩⟩
    · intro x c kl yd yp w2 cnt2 hkey hlk hv hat hrg2 hlt hg2 hs2 hen
      obtain ⟨s, hls, ec⟩ := held_sk (l := l) (y := (yd, yp)) hv hat
      have hks : s.key = kl := lastIn_key hls
      subst hks
      have ec' : c = .agg s.cells.toArray := ec
      subst ec'
      have hC2 := hC.step hls hlk
      have hg3 : w2.grownBy (w2.alloc (.cells s.cells.toArray 28)) none := World.grownBy_alloc _ _ _
      have hJ2 : J ss w2 := hJ ss wr w2 (some W.heap.size) hJs hg2 (fun r e => by cases e; exact ⟨Nat.le_refl _, hrg.iter_walk⟩)
      have hJ3 : J ss (w2.alloc (.cells s.cells.toArray 28)) := hJ ss w2 _ none hJ2 hg3 (fun r e => by cases e)
      have hrg3 := hrg2.of_walks (KeepsWalks.of_grownBy hg3 (fun _ _ e => by cases e))
      obtain ⟨fn, tmps, assign, body, hy, hR⟩ := hY ss s (w2.alloc (.cells s.cells.toArray 28)) hJ3 (by omega)
      obtain ⟨⟨k0, k1, k2⟩, -⟩ := three (blk_new w2 (.cells s.cells.toArray 28))
      clear hs2
      unfold Sk.cells at hen hy hR k0 k1 k2
      gi_wp2
      refine hR.mono ?_
      rintro e W3 (⟨rfl, hJ4, hk3⟩ | ⟨rfl, hJx3⟩)
      · gi_wp2
        have hrg4 := hrg3.of_walks hk3
        go_roundw
        case rel => exact ⟨_, cnt2, ss ++ [s], hrg4, by simp; omega, hC2, hJ4⟩
        case measure => rw [hrg4.left_eq, hrg.left_eq]; exact hlt
      · gi_wp2
        refine bodyPost_ret (results_none rfl _ _ _) rfl ?_
        exact ⟨⟨_, rfl⟩, .inr ⟨ss ++ [s], by simp; omega, hJx3⟩⟩
end Go.Proofs.YtcjcgehhmjnlcaaGreatDoor.It
/- 'slices.Collect' of the map's skips. -/
set_option linter.unusedVariables false
set_option linter.unusedSimpArgs false
namespace Go.Proofs.YtcjcgehhmjnlcaaGreatDoor.It
open Go.RowKit Go.Shelf Go.Maps Go.WideMaps Go.Sort Go.Proofs.YtcjcgehhmjnlcaaGreatDoorW.PrintWords
attribute [local go_sem] Oper.semAt_some

def skV (x : Sk) : Value := .agg x.cells.toArray
theorem values_seq (n : Nat) (hn : 1 ≤ n) (Bm b nn : Nat) (l : List Sk) (w : World) (hBm : Bm < w.heap.size)
    (hm : w.cell? ⟨Bm, 0, none⟩ = some (.map (some b))) (hown : w.ownsMap Tryz.prog 142 heldElem b nn (skD l)) :
    SeqL Fence.wide n Tryz.prog 119 #[.pointer (some ⟨Bm, 0, none⟩)] (fun x : Sk => #[skV x]) (fun _ => KeepsWalks) (ValS l) (fun pre => pre.length ≤ Maps.size (skD l)) w := fun lp J Jx W hW hlo hll hJ _ hY h0 => by
  have hown' : W.ownsMap Tryz.prog 142 heldElem b nn (skD l) := by
    have hbl := hown.lt
    obtain ⟨es, clock, hb, Ft, hs, hD⟩ := hown
    exact ⟨es, clock, (hW.block b hbl).trans hb, Ft, hs, hD⟩
  refine values1_in n hn lp Bm b nn l J Jx (fun pre x W1 hj hl => ?_) W (fun s A B row hs hg hr => hJ s A B row hs hg (fun r e => by
    obtain ⟨h1, o, h2, h3⟩ := hr r e
    exact ⟨h1, o, h2, Obj.not_cells_of_walk h3⟩)) ((hW.cell (p := ⟨Bm, 0, none⟩) hBm).trans hm) hown' h0
  obtain ⟨fn, tmps, assign, body, hy, hR⟩ := hY pre x W1 hj (by simp; omega)
  refine ⟨fn, tmps, assign, body, hy, hR.mono ?_⟩
  rintro e W2 (⟨rfl, h1, h2⟩ | ⟨rfl, h1, h2⟩)
  · exact .inl ⟨rfl, h1, h2⟩
  · exact .inr ⟨rfl, h1⟩
set_option maxRecDepth 100000 in
set_option maxHeartbeats 4000000 in
theorem appendSk_in (g : Nat) (lb : Array Value) (eg : ∀ args w, (callFunc g args).run Tryz.prog w = .ok (.enter g args) w)
    (S : List Sk → Prop) (N : Nat) (hN : N ≤ 1000000) (w : World) (hseq : SeqL Fence.wide 3 Tryz.prog g lb (fun x : Sk => #[skV x]) (fun _ => KeepsWalks) S (fun pre => pre.length ≤ N) w) :
    CallsIn Fence.wide 4 Tryz.prog 143 #[.slice none 0 0, .func (.func g) #[] lb] w fun e w' => ∃ (v : Value) (ss : List Sk), e = .returned v ∧ S ss ∧ ss.length ≤ N ∧ OwnS w' w.heap.size v ss ∧ Below w.heap.size w w' := by
  obtain ⟨i0, hi, hz0, hz1, hz2⟩ := info_parts infoS
  refine callsIn_of_wp_marks Tryz.func143 rfl trivial ?_ rfl
  simp only [Tryz.ntmps143, List.size_toArray, List.length_cons, List.length_nil, Nat.reduceAdd, Nat.reduceSub, Array.replicate_succ, Array.replicate_zero, List.push_toArray, List.append_toArray, List.nil_append, List.cons_append]
  gi_wp2
  have hbx := Boxed.new w 38 (.slice none 0 0)
  have hb0 : Below w.heap.size w (w.alloc (.cells #[.slice none 0 0] 38)) := (Below.refl _ w).alloc (Nat.le_refl _) _
  refine wpIn_rangeFunc_M rfl (by omega) (gf := g) (lb := lb) rfl trivial eg hseq (fun h k => walksK_t h k) (fun W l o o' h1 h2 h3 => KeepsWalks.putObj _ h1 h3) hb0 (fun _ => rfl)
    (fun pre W => (∃ v, Boxed W w.heap.size 38 v ∧ W.ownsRow w.heap.size 28 3 v pre.length (pre.flatMap Sk.cells) ∧ pre.length ≤ N) ∧ Below w.heap.size w W)
    (fun _ _ _ => False)
    (OwnFrom.and (Own.from (holdsRow_own w.heap.size w.heap.size 38 28 3 (fun pre : List Sk => pre.length) (fun pre => pre.flatMap Sk.cells) (fun pre _ => pre.length ≤ N)) _) (ownFrom_below (Nat.le_refl _) (by simp)))
    (fun _ _ _ _ _ hs _ _ => hs)
    ⟨⟨_, hbx, World.ownsRow_nil _ _ _ _, by simp⟩, hb0⟩
    (fun x a W => ∃ b5, a = { tmps := #[.slice none 0 0, .func (.func g) #[] lb, .pointer (some ⟨w.heap.size, 0, none⟩), undef, .slice none 0 0, .pointer (some ⟨b5, 0, none⟩), .func (.func g) #[] lb, skV x, undef, undef, undef, undef, undef], defers := [] } ∧ SkAt W b5 x) ?hat ?assign ?body ?done ?stop
  case hat =>
    rintro ⟨x, a⟩ W W' row ⟨b5, ha, h⟩ hg hr
    refine ⟨b5, ha, ?_⟩
    refine (hg.block b5 (Array.getElem?_eq_some_iff.1 h).1 (fun e => ?_)).trans h
    obtain ⟨-, o, h2, h3⟩ := hr b5 e.symm
    unfold SkAt at h
    rw [h] at h2
    cases h2
    cases h3
  case assign =>
    intro l x W K hK
    have hK2 := hK { tmps := #[.slice none 0 0, .func (.func g) #[] lb, .pointer (some ⟨w.heap.size, 0, none⟩), undef, .slice none 0 0, .pointer (some ⟨W.heap.size, 0, none⟩), .func (.func g) #[] lb, skV x, undef, undef, undef, undef, undef], defers := [] } (W.alloc (.cells x.cells.toArray 28)) ⟨W.heap.size, rfl, blk_new _ _⟩ (World.grownBy_alloc _ _ _) (KeepsWalks.alloc _ _)
    unfold skV Sk.cells at hK2 ⊢
    clear hK
    gi_wp2
    exact hK2
  case body =>
    rintro l pre x a' W hl ⟨⟨v, hv, hrow, hlN⟩, hB⟩ hP ⟨b5, rfl, h5⟩
    have hc := hv.cell
    obtain ⟨⟨k0, k1, k2⟩, -⟩ := three h5
    have hlN' : pre.length + 1 ≤ N := by simpa using hP
    have hnw := news3 W x
    unfold skV Sk.cells at *
    gi_wp2_with (gi_at_builtin; refine wpListIn_append_own _ rfl _ _ 38 rfl w.heap.size 28 i0 _ 3 8 Tryz.underlying38 hi hz0 hz1 hz2 rfl (by decide) _ _ _ rfl (hrow.alloc _) ⟨W.heap.size, 0, none⟩ 1 1 [.int .u16 x.st, .bool x.un, .int .u32 x.sq] rfl rfl hnw (by intro u hu; simp only [List.mem_cons, List.not_mem_nil, or_false] at hu; rcases hu with rfl | rfl | rfl <;> rfl) (by unfold maxLen; omega) (by omega) (by have := hB.size; simp; omega) ?_; intro v' w1 hown' hgrow _; obtain ⟨g', cap', rfl⟩ := ownsRow_succ hown'; obtain ⟨hv1, hv2, hr2, hk2, hb2⟩ := hv.appended (by decide) hrow hB.size (Nat.le_refl _) hown' hgrow; have hc1 := hv1.cell; have hf1 := hv1.frozen)
    exact ⟨hk2.from _, hk2.walks, ⟨_, hv2, by simpa using hr2, by simpa using hP⟩, hB.trans hb2⟩
  case done =>
    rintro D ys W hD hS ⟨⟨v, hv, hrow, hlN⟩, hB⟩ hK
    have hc := hv.cell
    gi_wp2
    refine ⟨by simp, .inl ⟨_, _, rfl, run_takeDeferred hK, ?_⟩⟩
    exact ⟨_, results_tmp rfl _ _ _, v, ys, rfl, hS, hlN, ownsRow_putObj hrow _ hK rfl, hB.trans (belowK_b (w := w) (Nat.le_refl _) W D _ _ (by simp at hD; omega) hK rfl rfl)⟩
  case stop =>
    rintro D c pre W _ _ h _
    exact h.elim
set_option maxHeartbeats 1000000 in
theorem collectSk (g : Nat) (lb : Array Value) (eg : ∀ args w, (callFunc g args).run Tryz.prog w = .ok (.enter g args) w)
    (S : List Sk → Prop) (N : Nat) (hN : N ≤ 1000000) (w : World) (hseq : SeqL Fence.wide 3 Tryz.prog g lb (fun x : Sk => #[skV x]) (fun _ => KeepsWalks) S (fun pre => pre.length ≤ N) w) :
    Calls Tryz.prog 117 #[.func (.func g) #[] lb] w fun e w' => ∃ (v : Value) (ss : List Sk), e = .returned v ∧ S ss ∧ ss.length ≤ N ∧ OwnS w' w.heap.size v ss ∧ Below w.heap.size w w' := by
  go_enter Tryz.func117, Tryz.ntmps117
  go_wp2_with fail
  refine (callsIn_wide.1 (appendSk_in g lb eg S N hN w hseq)).mono ?_
  rintro e w' ⟨v, ss, rfl, hS, hlN, hrow, hb⟩
  go_wp2_with fail
  go_ret
  exact ⟨v, ss, rfl, hS, hlN, hrow, hb⟩
/-- 'maps.Values'' iterator over the skips, collected. -/
theorem collect_vals (b nn : Nat) (l : List Sk) (Bm : Nat) (w : World) (hBm : Bm < w.heap.size)
    (hm : w.cell? ⟨Bm, 0, none⟩ = some (.map (some b))) (hown : w.ownsMap Tryz.prog 142 heldElem b nn (skD l)) (hN : Maps.size (skD l) ≤ 1000000) :
    Calls Tryz.prog 117 #[.func (.func 119) #[] #[.pointer (some ⟨Bm, 0, none⟩)]] w fun e w' => ∃ (v : Value) (ss : List Sk), e = .returned v ∧ ValS l ss ∧ ss.length ≤ Maps.size (skD l) ∧ OwnS w' w.heap.size v ss ∧ Below w.heap.size w w' :=
  (collectSk 119 _ (enters_of Tryz.func119 (by kernel_rfl) rfl) _ (Maps.size (skD l)) hN w (values_seq 3 (by omega) Bm b nn l w hBm hm hown))
end Go.Proofs.YtcjcgehhmjnlcaaGreatDoor.It
