/- The forms of nodes: shape.table, shape.forms (a map), shape.Of. (Turned from the texts of the shape seat.) -/
import Derived.Test.YtmfmomfhiieilaaGreatDoorMa
import Derived.Maps.OwnOps
import Derived.Maps.OwnSet
set_option linter.unusedVariables false
set_option linter.unusedSimpArgs false
namespace Go.Proofs.YtmfmomfhiieilaaGreatDoor
open Go.RowKit Go.Shelf Go.Proofs.YtmfmomfhiieilaaGreatDoor.It Go.Proofs.YtmfmomfhiieilaaGreatDoorW.PrintWords
namespace Sh

/-- A row of the table of forms, without its class. -/
structure FR where
  ty : Int
  nm : ByteArray
  least : Int
  most : Int
  unit : Int
  kids : Int
def fRows1 : List FR := [
  ⟨1, ⟨#[104, 101, 97, 114, 116, 98, 101, 97, 116, 45, 105, 110, 102, 111]⟩, 0, 65531, 1, 0⟩,
  ⟨5, ⟨#[105, 112, 118, 52]⟩, 4, 4, 1, 0⟩,
  ⟨6, ⟨#[105, 112, 118, 54]⟩, 16, 16, 1, 0⟩,
  ⟨7, ⟨#[115, 116, 97, 116, 101, 45, 99, 111, 111, 107, 105, 101]⟩, 0, 65531, 1, 0⟩,
  ⟨8, ⟨#[117, 110, 114, 101, 99, 111, 103, 110, 105, 122, 101, 100]⟩, 0, 0, 1, 1⟩,
  ⟨9, ⟨#[99, 111, 111, 107, 105, 101, 45, 112, 114, 101, 115, 101, 114, 118, 97, 116, 105, 118, 101]⟩, 4, 4, 1, 0⟩,
  ⟨11, ⟨#[104, 111, 115, 116, 45, 110, 97, 109, 101]⟩, 1, 65531, 1, 0⟩,
  ⟨12, ⟨#[97, 100, 100, 114, 101, 115, 115, 45, 116, 121, 112, 101, 115]⟩, 2, 65531, 2, 0⟩,
  ⟨13, ⟨#[111, 117, 116, 103, 111, 105, 110, 103, 45, 114, 101, 115, 101, 116]⟩, 12, 65531, 2, 0⟩,
  ⟨14, ⟨#[105, 110, 99, 111, 109, 105, 110, 103, 45, 114, 101, 115, 101, 116]⟩, 4, 65531, 2, 0⟩,
  ⟨15, ⟨#[116, 115, 110, 45, 114, 101, 115, 101, 116]⟩, 4, 4, 1, 0⟩,
  ⟨16, ⟨#[114, 101, 99, 111, 110, 102, 105, 103, 45, 114, 101, 115, 112, 111, 110, 115, 101]⟩, 8, 16, 8, 0⟩,
  ⟨17, ⟨#[97, 100, 100, 45, 111, 117, 116, 103, 111, 105, 110, 103]⟩, 8, 8, 1, 0⟩,
  ⟨18, ⟨#[97, 100, 100, 45, 105, 110, 99, 111, 109, 105, 110, 103]⟩, 8, 8, 1, 0⟩,
  ⟨32768, ⟨#[101, 99, 110]⟩, 0, 0, 1, 0⟩,
  ⟨32770, ⟨#[114, 97, 110, 100, 111, 109]⟩, 1, 65531, 1, 0⟩,
  ⟨32771, ⟨#[99, 104, 117, 110, 107, 45, 108, 105, 115, 116]⟩, 0, 65531, 1, 0⟩,
  ⟨32772, ⟨#[104, 109, 97, 99, 45, 97, 108, 103, 111, 114, 105, 116, 104, 109, 115]⟩, 2, 65531, 2, 0⟩,
  ⟨32773, ⟨#[112, 97, 100, 100, 105, 110, 103]⟩, 0, 65531, 1, 0⟩,
  ⟨32776, ⟨#[101, 120, 116, 101, 110, 115, 105, 111, 110, 115]⟩, 0, 65531, 1, 0⟩,
  ⟨49152, ⟨#[102, 111, 114, 119, 97, 114, 100, 45, 116, 115, 110]⟩, 0, 0, 1, 0⟩,
  ⟨49153, ⟨#[97, 100, 100, 45, 105, 112]⟩, 4, 4, 1, 4⟩,
  ⟨49154, ⟨#[100, 101, 108, 101, 116, 101, 45, 105, 112]⟩, 4, 4, 1, 4⟩,
  ⟨49155, ⟨#[101, 114, 114, 111, 114, 45, 105, 110, 100, 105, 99, 97, 116, 105, 111, 110]⟩, 4, 4, 1, 3⟩,
  ⟨49156, ⟨#[115, 101, 116, 45, 112, 114, 105, 109, 97, 114, 121]⟩, 4, 4, 1, 4⟩,
  ⟨49157, ⟨#[115, 117, 99, 99, 101, 115, 115]⟩, 4, 4, 1, 0⟩,
  ⟨49158, ⟨#[97, 100, 97, 112, 116, 97, 116, 105, 111, 110]⟩, 4, 4, 1, 0⟩]
def fRows2 : List FR := [
  ⟨1, ⟨#[105, 110, 118, 97, 108, 105, 100, 45, 115, 116, 114, 101, 97, 109]⟩, 4, 4, 1, 0⟩,
  ⟨2, ⟨#[109, 105, 115, 115, 105, 110, 103, 45, 112, 97, 114, 97, 109, 101, 116, 101, 114]⟩, 6, 65531, 2, 0⟩,
  ⟨3, ⟨#[115, 116, 97, 108, 101, 45, 99, 111, 111, 107, 105, 101]⟩, 4, 4, 1, 0⟩,
  ⟨4, ⟨#[111, 117, 116, 45, 111, 102, 45, 114, 101, 115, 111, 117, 114, 99, 101]⟩, 0, 0, 1, 0⟩,
  ⟨5, ⟨#[117, 110, 114, 101, 115, 111, 108, 118, 97, 98, 108, 101, 45, 97, 100, 100, 114, 101, 115, 115]⟩, 0, 0, 1, 1⟩,
  ⟨6, ⟨#[117, 110, 114, 101, 99, 111, 103, 110, 105, 122, 101, 100, 45, 99, 104, 117, 110, 107]⟩, 4, 65531, 1, 0⟩,
  ⟨7, ⟨#[105, 110, 118, 97, 108, 105, 100, 45, 112, 97, 114, 97, 109, 101, 116, 101, 114]⟩, 0, 0, 1, 0⟩,
  ⟨8, ⟨#[117, 110, 114, 101, 99, 111, 103, 110, 105, 122, 101, 100, 45, 112, 97, 114, 97, 109, 101, 116, 101, 114, 115]⟩, 0, 0, 1, 2⟩,
  ⟨9, ⟨#[110, 111, 45, 117, 115, 101, 114, 45, 100, 97, 116, 97]⟩, 4, 4, 1, 0⟩,
  ⟨10, ⟨#[99, 111, 111, 107, 105, 101, 45, 119, 104, 105, 108, 101, 45, 115, 104, 117, 116, 116, 105, 110, 103, 45, 100, 111, 119, 110]⟩, 0, 0, 1, 0⟩,
  ⟨11, ⟨#[114, 101, 115, 116, 97, 114, 116]⟩, 0, 0, 1, 2⟩,
  ⟨12, ⟨#[117, 115, 101, 114, 45, 97, 98, 111, 114, 116]⟩, 0, 65531, 1, 0⟩,
  ⟨13, ⟨#[112, 114, 111, 116, 111, 99, 111, 108, 45, 118, 105, 111, 108, 97, 116, 105, 111, 110]⟩, 0, 65531, 1, 0⟩,
  ⟨160, ⟨#[100, 101, 108, 101, 116, 101, 45, 108, 97, 115, 116, 45, 97, 100, 100, 114, 101, 115, 115]⟩, 0, 0, 1, 1⟩,
  ⟨161, ⟨#[114, 101, 115, 111, 117, 114, 99, 101, 45, 115, 104, 111, 114, 116, 97, 103, 101]⟩, 0, 65531, 1, 0⟩,
  ⟨162, ⟨#[100, 101, 108, 101, 116, 101, 45, 115, 111, 117, 114, 99, 101, 45, 97, 100, 100, 114, 101, 115, 115]⟩, 0, 0, 1, 1⟩,
  ⟨163, ⟨#[105, 108, 108, 101, 103, 97, 108, 45, 97, 115, 99, 111, 110, 102, 45, 97, 99, 107]⟩, 0, 65531, 1, 0⟩,
  ⟨164, ⟨#[110, 111, 45, 97, 117, 116, 104, 111, 114, 105, 122, 97, 116, 105, 111, 110]⟩, 0, 65531, 1, 0⟩,
  ⟨261, ⟨#[117, 110, 115, 117, 112, 112, 111, 114, 116, 101, 100, 45, 104, 109, 97, 99]⟩, 2, 2, 1, 0⟩]
def FR.cells (r : FR) : List Value := [.int .i64 0, .int .u16 r.ty, .string r.nm, .int .i64 r.least, .int .i64 r.most, .int .i64 r.unit, .int .i64 r.kids]
def fCells (l : List FR) : Array Value := (l.flatMap FR.cells).toArray

section
variable {P : Program} {ops : Array Oper} {rest : List Oper} {o : Oper} {a : Act} {Q : Exit → Act → World → Prop}
theorem lit_at {W : World} (n : Nat) (cs : Array Value) (t : TypeId) (hgd : o.guard = none)
    (hrun : ∀ W : World, (execOp a.eval o).run P W = .ok (.value (.slice (some ⟨W.heap.size, 0, none⟩) n n)) (W.alloc (.cells cs t)))
    (h : wpList P ops Q rest (a.put o.dst (.slice (some ⟨W.heap.size, 0, none⟩) n n)) (W.alloc (.cells cs t))) : wpList P ops Q (o :: rest) a W :=
  Kd.event_run hgd (hrun W) h
end
/-- What 'shape.table' gives: its two slices lie in new blocks. -/
def TabPost (w : World) (e : Ending) (w' : World) : Prop := ∃ b1 b2 : Nat, w.heap.size ≤ b1 ∧ w.heap.size ≤ b2 ∧ e = .returned (.agg #[.slice none 0 0, .slice (some ⟨b1, 0, none⟩) 27 27, .slice (some ⟨b2, 0, none⟩) 19 19]) ∧
  w'.heap[b1]? = some (.cells (fCells fRows1) 172 (0, 0)) ∧ w'.heap[b2]? = some (.cells (fCells fRows2) 172 (0, 0)) ∧ Below w.heap.size w w'
theorem tab_second (w : World) (a b c : Obj) : (((w.alloc a).alloc b).alloc c).heap[w.heap.size + 1 + 1]? = some c := by
  have := heap_alloc_new ((w.alloc a).alloc b) c
  rwa [World.size_alloc, World.size_alloc] at this
theorem tab_first (w : World) (a b c : Obj) : (((w.alloc a).alloc b).alloc c).heap[w.heap.size + 1]? = some b := by
  rw [Below.heap_alloc _ _ _ (by simp)]
  have := heap_alloc_new (w.alloc a) b
  rwa [World.size_alloc] at this
set_option maxHeartbeats 1000000 in
set_option maxRecDepth 100000 in
theorem table_any (w : World) : Calls Tryz.prog 130 #[] w (TabPost w) := by
  go_enter Tryz.func130, Tryz.ntmps130
  go_wp2_with (first | ((with_reducible refine gate_dst (N := 28) rfl ?_); refine lit_at 27 (fCells fRows1) 172 rfl (fun _ => by kernel_rfl) ?_) | ((with_reducible refine gate_dst (N := 48) rfl ?_); refine lit_at 19 (fCells fRows2) 172 rfl (fun _ => by kernel_rfl) ?_))
  refine bodyPost_ret (v := .agg #[.slice none 0 0, .slice (some ⟨w.heap.size + 1, 0, none⟩) 27 27, .slice (some ⟨w.heap.size + 1 + 1, 0, none⟩) 19 19]) (by simp [results, Tryz.results130, go_sem]) rfl ⟨_, _, by omega, by omega, rfl, ?_, ?_, ?_⟩
  · exact tab_first _ _ _ _
  · exact tab_second _ _ _ _
  · exact (((Below.refl _ _).alloc (Nat.le_refl _) _).alloc (by simp) _).alloc (by simp; omega) _
/-- A row as a value, its class laid in. -/
def FR.val (c : Int) (r : FR) : Value := .agg #[.int .i64 c, .int .u16 r.ty, .string r.nm, .int .i64 r.least, .int .i64 r.most, .int .i64 r.unit, .int .i64 r.kids]
def heldElem (v : Value) : Option (DataW Value × List MemPlace) := some (.held v, [])
def fD (c : Int) (l : List FR) : DataW Value := l.foldl (fun m r => m.put (.int .u16 r.ty) (.held (r.val c))) (.map [])
def fRowsOf (c : Int) : List FR := if c = 1 then fRows1 else if c = 2 then fRows2 else []
def FormsPost (c : Int) (w : World) (e : Ending) (w' : World) : Prop := ∃ bm : Nat, w.heap.size ≤ bm ∧ e = .returned (.map (some bm)) ∧ w'.ownsMap Tryz.prog 22 heldElem bm 64 (fD c (fRowsOf c)) ∧ Below w.heap.size w w'
theorem law22 : Maps.Keyed Tryz.prog 22 := Maps.int_keyed Tryz.underlying22

theorem fCells_at (l : List FR) (i : Nat) (hi : i < l.length) : ∀ j, j < 7 → (fCells l)[i * 7 + j]? = ((l[i]).cells)[j]? := by
  induction l generalizing i with
  | nil => simp at hi
  | cons r l ih =>
    intro j hj
    unfold fCells
    rw [List.flatMap_cons]
    cases i with
    | zero =>
      simp only [List.getElem?_toArray, Nat.zero_mul, Nat.zero_add, List.getElem_cons_zero]
      rw [List.getElem?_append_left (by simpa [FR.cells] using hj)]
    | succ i =>
      have := ih i (by simpa using hi) j hj
      simp only [List.getElem?_toArray, List.getElem_cons_succ]
      unfold fCells at this
      simp only [List.getElem?_toArray] at this
      rw [List.getElem?_append_right (by simp [FR.cells]; omega), ← this]
      congr 1
      simp [FR.cells]; omega
theorem frow_at {w : World} {b : Nat} {l : List FR} (h : w.heap[b]? = some (.cells (fCells l) 172 (0, 0))) (i : Nat) (r : FR) (hr : l[i]? = some r) :
    w.cell? ⟨b, i * 7, none⟩ = some (.int .i64 0) ∧ w.cell? ⟨b, i * 7 + 1, none⟩ = some (.int .u16 r.ty) ∧ w.cell? ⟨b, i * 7 + 2, none⟩ = some (.string r.nm) ∧ w.cell? ⟨b, i * 7 + 3, none⟩ = some (.int .i64 r.least) ∧
    w.cell? ⟨b, i * 7 + 4, none⟩ = some (.int .i64 r.most) ∧ w.cell? ⟨b, i * 7 + 5, none⟩ = some (.int .i64 r.unit) ∧ w.cell? ⟨b, i * 7 + 6, none⟩ = some (.int .i64 r.kids) := by
  obtain ⟨hi, rfl⟩ := List.getElem?_eq_some_iff.1 hr
  have c := fCells_at l i hi
  have hc : ∀ j, j < 7 → w.cell? ⟨b, i * 7 + j, none⟩ = ((l[i]).cells)[j]? := fun j hj => by
    rw [← c j hj]
    simp [World.cell?, h]
  exact ⟨hc 0 (by omega), hc 1 (by omega), hc 2 (by omega), hc 3 (by omega), hc 4 (by omega), hc 5 (by omega), hc 6 (by omega)⟩
theorem fD_snoc (c : Int) (l : List FR) (r : FR) : fD c (l ++ [r]) = (fD c l).put (.int .u16 r.ty) (.held (r.val c)) := by simp [fD, List.foldl_append]
theorem fD_step {c : Int} {l : List FR} {i : Nat} {r : FR} (hr : l[i]? = some r) : fD c (l.take (i + 1)) = (fD c (l.take i)).put (.int .u16 r.ty) (.held (r.val c)) := by
  rw [← fD_snoc, List.take_add_one, hr]
  rfl
def Wfs (l : List FR) : Prop := ∀ r ∈ l, 0 ≤ r.ty ∧ r.ty ≤ 65535
theorem wf_u16 {x : Int} (h0 : 0 ≤ x) (h1 : x ≤ 65535) : (Lit.int .u16 x).wf = true := WalkArith.wf_u16 (by omega)
/-- The map so far. -/
def Filled (c : Int) (l : List FR) (w : World) (bm : Nat) (i : Nat) (W : World) : Prop := W.ownsMap Tryz.prog 22 heldElem bm i (fD c (l.take i)) ∧ Below w.heap.size w W
theorem Filled.start {c : Int} {l : List FR} {w w1 w2 : World} (h1 : Below (w.alloc (.map #[] 0)).heap.size (w.alloc (.map #[] 0)) w1) (h2 : Below w1.heap.size w1 w2) : Filled c l w w.heap.size 0 w2 := by
  have h0 : (w.alloc (.map #[] 0)).ownsMap Tryz.prog 22 heldElem w.heap.size 0 (fD c (l.take 0)) := World.ownsMap_made _ _ _ _
  have s1 := h1.size
  simp only [World.size_alloc] at s1
  refine ⟨(h0.kept (grown_of_below h1 none) (by simp)).kept (grown_of_below h2 none) (by simp), ?_⟩
  exact (((Below.refl w.heap.size w).alloc (Nat.le_refl _) _).trans (h1.mono (by simp))).trans (h2.mono (by omega))
theorem Filled.step {c : Int} {l : List FR} {w W w3 : World} {o : Obj} {i : Nat} {r : FR} (h : Filled c l w w.heap.size i W) (hr : fD c (l.take (i + 1)) = (fD c (l.take i)).put (.int .u16 r.ty) (.held (r.val c)))
    (ho : w3.ownsMap Tryz.prog 22 heldElem w.heap.size (i + 1) ((fD c (l.take i)).put (.int .u16 r.ty) (.held (r.val c)))) (hg : (W.alloc o).grownBy w3 (some w.heap.size)) : Filled c l w w.heap.size (i + 1) w3 := by
  refine ⟨by rw [hr]; exact ho, ?_⟩
  have hs := h.2.size
  exact (h.2.alloc hs o).grown hg (by simp; omega) (fun k e => by cases e; exact Nat.le_refl _)
theorem Filled.keep {W w3 : World} {o : Obj} {b bm : Nat} {x : Obj} (h : W.heap[b]? = some x) (hl : b < W.heap.size) (hne : b ≠ bm) (hg : (W.alloc o).grownBy w3 (some bm)) : Hid (w3.heap[b]? = some x) := by
  show _ = _
  rw [hg.block b (by simp; omega) (by simpa using hne), Below.heap_alloc _ _ _ hl]
  exact h
theorem Filled.done {c : Int} {l : List FR} {w W : World} {n : Nat} (h : Filled c l w w.heap.size n W) (hn : n ≤ 64) (hl : fRowsOf c = l.take n) : W.ownsMap Tryz.prog 22 heldElem w.heap.size 64 (fD c (fRowsOf c)) := by
  rw [hl]
  exact h.1.mono hn

theorem fRows1_len : fRows1.length = 27 := rfl
theorem fRows1_wf : Wfs fRows1 := by unfold Wfs; decide
set_option maxHeartbeats 1000000 in
theorem forms_one (w : World) : Calls Tryz.prog 122 #[.int .i64 1] w (FormsPost 1 w) := by
  have hmm := @run_makeMap Tryz.prog
  have i1 : ∀ (b3 b4 : Nat) (w : World), (Instr.index 205 (.agg #[.slice none 0 0, .slice (some ⟨b3, 0, none⟩) 27 27, .slice (some ⟨b4, 0, none⟩) 19 19]) (.int .i64 1)).run Tryz.prog w = .ok (.slice (some ⟨b3, 0, none⟩) 27 27) w := fun _ _ _ => by kernel_rfl
  go_enter Tryz.func122, Tryz.ntmps122
  go_wp2_with fail
  refine (table_any _).mono ?_
  rintro e w1 ⟨b1, b2, hb1, hb2, rfl, hc1, hc2, hB⟩
  have HB := hid hB
  clear hB hc1 hc2
  go_wp2_with fail
  refine (table_any _).mono ?_
  rintro e w2 ⟨b3, b4, hb3, hb4, rfl, hc3, hc4, hB2⟩
  have HF : Filled 1 fRows1 w w.heap.size 0 w2 := Filled.start HB.out hB2
  have HC := hid hc3
  have hsz1 := HB.out.size
  simp only [World.size_alloc] at hsz1
  have hne : b3 ≠ w.heap.size := by omega
  have hlb : b3 < w2.heap.size := (Array.getElem?_eq_some_iff.1 HC.out).1
  clear hB2 hc3 hc4 HB
  go_wp2_with fail
  go_loopw [5, 20] (fun v5 vi W => ∃ i : Nat, vi = .int .i64 i ∧ i ≤ 27 ∧ Filled 1 fRows1 w w.heap.size i W ∧ Hid (W.heap[b3]? = some (.cells (fCells fRows1) 172 (0, 0)))) (fun _ vi _ => 27 - (intOf vi).toNat)
  case atStart => exact ⟨0, rfl, by omega, HF, HC⟩
  case round =>
    obtain ⟨i, rfl, hi, hF, hC⟩ := hrel
    by_cases hlt : i < 27
    · obtain ⟨r, hr⟩ : ∃ r, fRows1[i]? = some r := ⟨_, List.getElem?_eq_getElem (by rw [fRows1_len]; exact hlt)⟩
      have cs := frow_at hC.out i r hr
      have hwf := fRows1_wf r (List.mem_of_getElem? hr)
      have hr' := hid (fD_step (c := 1) hr)
      have hlw : b3 < wr.heap.size := (Array.getElem?_eq_some_iff.1 hC.out).1
      clear hr
      go_wp2_with (at_mapUpdate; refine wpList_mapUpdate_own _ rfl _ _ _ 194 rfl 22 172 law22 Tryz.underlying194 heldElem w.heap.size i (fD 1 (fRows1.take i)) rfl (hF.1.alloc _) (by unfold maxLen; omega) _ _ (.int .u16 r.ty) rfl rfl (Maps.keyOf_int_mk Tryz.underlying22 (wf_u16 hwf.1 hwf.2)) (.held (r.val 1)) [] rfl ?_; intro w3 hown3 hgrow3)
      go_roundw
      case rel => exact ⟨i + 1, by go_num, by omega, Filled.step hF hr'.out hown3 hgrow3, Filled.keep hC.out hlw hne hgrow3⟩
      case measure => simp [intOf]; omega
    · obtain rfl : i = 27 := by omega
      go_wp2_with fail
      go_ret
      exact ⟨_, Nat.le_refl _, rfl, Filled.done hF (by decide) rfl, hF.2⟩

theorem fRows2_len : fRows2.length = 19 := rfl
theorem fRows2_wf : Wfs fRows2 := by unfold Wfs; decide
set_option maxHeartbeats 1000000 in
theorem forms_two (w : World) : Calls Tryz.prog 122 #[.int .i64 2] w (FormsPost 2 w) := by
  have hmm := @run_makeMap Tryz.prog
  have i1 : ∀ (b3 b4 : Nat) (w : World), (Instr.index 205 (.agg #[.slice none 0 0, .slice (some ⟨b3, 0, none⟩) 27 27, .slice (some ⟨b4, 0, none⟩) 19 19]) (.int .i64 2)).run Tryz.prog w = .ok (.slice (some ⟨b4, 0, none⟩) 19 19) w := fun _ _ _ => by kernel_rfl
  go_enter Tryz.func122, Tryz.ntmps122
  go_wp2_with fail
  refine (table_any _).mono ?_
  rintro e w1 ⟨b1, b2, hb1, hb2, rfl, hc1, hc2, hB⟩
  have HB := hid hB
  clear hB hc1 hc2
  go_wp2_with fail
  refine (table_any _).mono ?_
  rintro e w2 ⟨b3, b4, hb3, hb4, rfl, hc3, hc4, hB2⟩
  have HF : Filled 2 fRows2 w w.heap.size 0 w2 := Filled.start HB.out hB2
  have HC := hid hc4
  have hsz1 := HB.out.size
  simp only [World.size_alloc] at hsz1
  have hne : b4 ≠ w.heap.size := by omega
  have hlb : b4 < w2.heap.size := (Array.getElem?_eq_some_iff.1 HC.out).1
  clear hB2 hc3 hc4 HB
  go_wp2_with fail
  go_loopw [5, 20] (fun v5 vi W => ∃ i : Nat, vi = .int .i64 i ∧ i ≤ 19 ∧ Filled 2 fRows2 w w.heap.size i W ∧ Hid (W.heap[b4]? = some (.cells (fCells fRows2) 172 (0, 0)))) (fun _ vi _ => 19 - (intOf vi).toNat)
  case atStart => exact ⟨0, rfl, by omega, HF, HC⟩
  case round =>
    obtain ⟨i, rfl, hi, hF, hC⟩ := hrel
    by_cases hlt : i < 19
    · obtain ⟨r, hr⟩ : ∃ r, fRows2[i]? = some r := ⟨_, List.getElem?_eq_getElem (by rw [fRows2_len]; exact hlt)⟩
      have cs := frow_at hC.out i r hr
      have hwf := fRows2_wf r (List.mem_of_getElem? hr)
      have hr' := hid (fD_step (c := 2) hr)
      have hlw : b4 < wr.heap.size := (Array.getElem?_eq_some_iff.1 hC.out).1
      clear hr
      go_wp2_with (at_mapUpdate; refine wpList_mapUpdate_own _ rfl _ _ _ 194 rfl 22 172 law22 Tryz.underlying194 heldElem w.heap.size i (fD 2 (fRows2.take i)) rfl (hF.1.alloc _) (by unfold maxLen; omega) _ _ (.int .u16 r.ty) rfl rfl (Maps.keyOf_int_mk Tryz.underlying22 (wf_u16 hwf.1 hwf.2)) (.held (r.val 2)) [] rfl ?_; intro w3 hown3 hgrow3)
      go_roundw
      case rel => exact ⟨i + 1, by go_num, by omega, Filled.step hF hr'.out hown3 hgrow3, Filled.keep hC.out hlw hne hgrow3⟩
      case measure => simp [intOf]; omega
    · obtain rfl : i = 19 := by omega
      go_wp2_with fail
      go_ret
      exact ⟨_, Nat.le_refl _, rfl, Filled.done hF (by decide) rfl, hF.2⟩

def fFindIn (l : List FR) (t : Int) : Option FR := l.reverse.find? (fun r => r.ty == t)
def fHas (c t : Int) : Bool := (fRowsOf c).any (fun r => r.ty == t)
theorem isKey16 (x : Int) : WideAt.IsKeyLit (.int .u16 x) := by
  simp [WideAt.IsKeyLit]
theorem fD_isMap (c : Int) (l : List FR) : ∀ m : DataW Value, Maps.IsMap m → Maps.IsMap (l.foldl (fun m r => m.put (.int .u16 r.ty) (.held (r.val c))) m) := by
  induction l with
  | nil => exact fun m h => h
  | cons r l ih => exact fun m h => ih _ (h.put _ _)
theorem fD_has0 (c t : Int) (l : List FR) : ∀ m : DataW Value, Maps.IsMap m → Maps.has (l.foldl (fun m r => m.put (.int .u16 r.ty) (.held (r.val c))) m) (.int .u16 t) = (Maps.has m (.int .u16 t) || l.any (fun r => r.ty == t)) := by
  induction l with
  | nil => intro m _; simp
  | cons r l ih =>
    intro m hm
    rw [List.foldl_cons, ih _ (hm.put _ _), List.any_cons]
    by_cases h : r.ty = t
    · rw [h, Maps.has_put_same hm (isKey16 _), beq_self_eq_true]
      simp
    · rw [Maps.has_put_other (by simpa using fun e => h e.symm), show (r.ty == t) = false from by simpa using h]
      simp
theorem fD_has (c t : Int) (l : List FR) : Maps.has (fD c l) (.int .u16 t) = l.any (fun r => r.ty == t) := by
  unfold fD
  rw [fD_has0 c t l _ Maps.isMap_empty]
  rfl
theorem fD_at (c t : Int) (l : List FR) (z : DataW Value) : (fD c l).atKey (.int .u16 t) z = (match fFindIn l t with | some r => .held (r.val c) | none => z) := by
  obtain ⟨q, rfl⟩ : ∃ q : List FR, l = q.reverse := ⟨l.reverse, by simp⟩
  induction q with
  | nil => rfl
  | cons r q ih =>
    unfold fFindIn at ih ⊢
    rw [List.reverse_reverse] at ih
    rw [List.reverse_cons, fD_snoc, ← List.reverse_cons, List.reverse_reverse, List.find?_cons]
    by_cases h : r.ty = t
    · rw [h, Maps.atKey_put_same (show Maps.IsMap (fD c q.reverse) from fD_isMap c q.reverse _ Maps.isMap_empty) (isKey16 _), beq_self_eq_true]
    · rw [Maps.atKey_put_other (by simpa using fun e => h e.symm), ih, show (r.ty == t) = false from by simpa using h]
theorem zero52 (w : World) : (zeroValue 172).run Tryz.prog w = .ok (.agg #[.int .i64 0, .int .u16 0, .string ⟨#[]⟩, .int .i64 0, .int .i64 0, .int .i64 0, .int .i64 0]) w := by kernel_rfl
def fZ : FR := ⟨0, ⟨#[]⟩, 0, 0, 0, 0⟩
/-- The form with a type, its class laid in; the zero form if there is none. -/
def fAt (c t : Int) : Int × FR := match fFindIn (fRowsOf c) t with | some r => (c, r) | none => (0, fZ)
def FOfPost (c t : Int) (w : World) (e : Ending) (w' : World) : Prop := ∃ (k : Int) (r : FR) (b : Bool), (k, r) = fAt c t ∧ b = fHas c t ∧ e = .returned (.tuple #[.agg #[.int .i64 k, .int .u16 r.ty, .string r.nm, .int .i64 r.least, .int .i64 r.most, .int .i64 r.unit, .int .i64 r.kids], .bool b]) ∧ Below w.heap.size w w'
theorem held_at {c t : Int} {v : Value} {ps : List MemPlace} (h : heldElem v = some ((fD c (fRowsOf c)).atKey (.int .u16 t) (.held (fZ.val 0)), ps)) : v = (fAt c t).2.val (fAt c t).1 := by
  rw [fD_at] at h
  unfold fAt
  unfold heldElem at h
  split at h <;> simp only [Option.some.injEq, Prod.mk.injEq, DataW.held.injEq] at h <;> exact h.1

theorem below_set0 {w W : World} {j : Nat} {u : Value} (h : Below w.heap.size w W) : Below w.heap.size w (W.setCell ⟨w.heap.size, j, none⟩ u) := h.setCell (Nat.le_refl _) _
set_option maxHeartbeats 1000000 in
theorem fof_any (c t : Int) (w : World) (h3 : 0 ≤ t) (h4 : t ≤ 65535) (hf : Calls Tryz.prog 122 #[.int .i64 c] (w.alloc (.cells #[.int .i64 0, .int .u16 0, .string ⟨#[]⟩, .int .i64 0, .int .i64 0, .int .i64 0, .int .i64 0] 172)) (FormsPost c (w.alloc (.cells #[.int .i64 0, .int .u16 0, .string ⟨#[]⟩, .int .i64 0, .int .i64 0, .int .i64 0, .int .i64 0] 172)))) :
    Calls Tryz.prog 104 #[.int .i64 c, .int .u16 t] w (FOfPost c t w) := by
  go_enter Tryz.func104, Tryz.ntmps104
  go_wp2_with fail
  refine hf.mono ?_
  rintro e w1 ⟨bm, hbm, rfl, hown, hb⟩
  have s7 := seven (new_blk hb)
  have hbb : Below w.heap.size w w1 := ((Below.refl w.heap.size w).alloc (Nat.le_refl _) _).trans (hb.mono (by simp))
  clear hf
  have hz := zero52
  obtain ⟨k, r, hkr⟩ : ∃ k r, (k, r) = fAt c t := ⟨_, _, rfl⟩
  have hkr' := hid hkr
  clear hkr
  have hsz : w.heap.size < w1.heap.size := by have := hb.size; simp at this; omega
  have hbb' := hid hbb
  clear hbb hb
  go_wp2_with (at_lookup; refine wpList_lookup_own_ok _ rfl _ _ 194 rfl 22 172 law22 Tryz.underlying194 heldElem (zero52 _) (.held (fZ.val 0)) [] rfl bm 64 _ rfl hown _ _ rfl (Maps.keyOf_int_mk Tryz.underlying22 (wf_u16 h3 h4)) ?_; intro v ps hv; have hv2 := held_at hv; rw [← hkr'.out] at hv2; clear hv; unfold FR.val at hv2; subst hv2)
  refine bodyPost_ret (v := .tuple #[.agg #[.int .i64 k, .int .u16 r.ty, .string r.nm, .int .i64 r.least, .int .i64 r.most, .int .i64 r.unit, .int .i64 r.kids], .bool _]) (by simp [results, Tryz.results104, go_sem, s7, hsz]) rfl ⟨k, r, _, hkr'.out, fD_has c t _, rfl, ?_⟩
  repeat (first | with_reducible exact hbb'.out | with_reducible apply below_alloc | with_reducible apply below_set0)
theorem made_kept {c : Int} {w w1 : World} (hc : fRowsOf c = []) (h : Below (w.alloc (.map #[] 0)).heap.size (w.alloc (.map #[] 0)) w1) : w1.ownsMap Tryz.prog 22 heldElem w.heap.size 64 (fD c (fRowsOf c)) ∧ Below w.heap.size w w1 := by
  have h0 : (w.alloc (.map #[] 0)).ownsMap Tryz.prog 22 heldElem w.heap.size 0 (fD c []) := World.ownsMap_made _ _ _ _
  rw [hc]
  exact ⟨(h0.kept (grown_of_below h none) (by simp)).mono (by decide), ((Below.refl w.heap.size w).alloc (Nat.le_refl _) _).trans (h.mono (by simp))⟩
set_option maxHeartbeats 1000000 in
theorem forms_neg (c : Int) (w : World) (hn : c < 0) : Calls Tryz.prog 122 #[.int .i64 c] w (FormsPost c w) := by
  have hc : fRowsOf c = [] := by unfold fRowsOf; rw [if_neg (by omega), if_neg (by omega)]
  have hmm := @run_makeMap Tryz.prog
  go_enter Tryz.func122, Tryz.ntmps122
  go_wp2_with fail
  go_ret
  have hh := made_kept (w := w) hc (Below.refl _ _)
  exact ⟨_, Nat.le_refl _, rfl, hh.1, hh.2⟩
set_option maxHeartbeats 1000000 in
theorem forms_big (c : Int) (w : World) (hn : 3 ≤ c) : Calls Tryz.prog 122 #[.int .i64 c] w (FormsPost c w) := by
  have hc : fRowsOf c = [] := by unfold fRowsOf; rw [if_neg (by omega), if_neg (by omega)]
  have hn0 : ¬ (c < 0) := by omega
  have hmm := @run_makeMap Tryz.prog
  go_enter Tryz.func122, Tryz.ntmps122
  go_wp2_with fail
  refine (table_any _).mono ?_
  rintro e w1 ⟨b1, b2, hb1, hb2, rfl, hc1, hc2, hB⟩
  have HB := hid hB
  clear hB hc1 hc2
  go_wp2_with fail
  go_ret
  have hh := made_kept (w := w) hc HB.out
  exact ⟨_, Nat.le_refl _, rfl, hh.1, hh.2⟩
set_option maxHeartbeats 1000000 in
theorem forms_zero (w : World) : Calls Tryz.prog 122 #[.int .i64 0] w (FormsPost 0 w) := by
  have hc : fRowsOf 0 = [] := rfl
  have hmm := @run_makeMap Tryz.prog
  have i1 : ∀ (b3 b4 : Nat) (w : World), (Instr.index 205 (.agg #[.slice none 0 0, .slice (some ⟨b3, 0, none⟩) 27 27, .slice (some ⟨b4, 0, none⟩) 19 19]) (.int .i64 0)).run Tryz.prog w = .ok (.slice none 0 0) w := fun _ _ _ => by kernel_rfl
  go_enter Tryz.func122, Tryz.ntmps122
  go_wp2_with fail
  refine (table_any _).mono ?_
  rintro e w1 ⟨b1, b2, hb1, hb2, rfl, hc1, hc2, hB⟩
  have HB := hid hB
  clear hB hc1 hc2
  go_wp2_with fail
  refine (table_any _).mono ?_
  rintro e w2 ⟨b3, b4, hb3, hb4, rfl, hc3, hc4, hB2⟩
  have HB2 := hid (HB.out.trans (hB2.mono HB.out.size))
  clear hB2 hc3 hc4 HB
  go_wp2_with fail
  go_loopw [20] (fun vi W => vi = .int .i64 0 ∧ W = w2) (fun vi _ => 0)
  case atStart => exact ⟨rfl, rfl⟩
  case round =>
    obtain ⟨rfl, rfl⟩ := hrel
    go_wp2_with fail
    go_ret
    have hh := made_kept (w := w) hc HB2.out
    exact ⟨_, Nat.le_refl _, rfl, hh.1, hh.2⟩
theorem forms_any (c : Int) (w : World) : Calls Tryz.prog 122 #[.int .i64 c] w (FormsPost c w) := by
  by_cases h : c < 0
  · exact forms_neg c w h
  · by_cases h3 : 3 ≤ c
    · exact forms_big c w h3
    · have : c = 0 ∨ c = 1 ∨ c = 2 := by omega
      rcases this with rfl | rfl | rfl
      · exact forms_zero w
      · exact forms_one w
      · exact forms_two w
end Sh
end Go.Proofs.YtmfmomfhiieilaaGreatDoor
