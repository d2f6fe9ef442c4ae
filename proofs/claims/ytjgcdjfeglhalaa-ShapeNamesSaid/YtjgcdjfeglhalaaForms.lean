/- The map of forms: 'shape.forms', 'shape.Of', 'shape.Known', 'action.Param'. -/
import Derived.Test.YtjgcdjfeglhalaaTab
import Derived.Test.YtjgcdjfeglhalaaBase
import Derived.Maps.OwnOps
import Derived.Maps.OwnSet
namespace Go.Proofs.Ytjgcdjfeglhalaa
open Go.RowKit Go.Proofs.YtjgcdjfeglhalaaW.PrintWords
/-- A row as a value, its class laid in. -/
def FR.val (c : Int) (r : FR) : Value := .agg #[.int .i64 c, .int .u16 r.ty, .string r.nm, .int .i64 r.least, .int .i64 r.most, .int .i64 r.unit, .int .i64 r.kids]
def heldElem (v : Value) : Option (DataW Value × List MemPlace) := some (.held v, [])
def fD (c : Int) (l : List FR) : DataW Value := l.foldl (fun m r => m.put (.int .u16 r.ty) (.held (r.val c))) (.map [])
def fRowsOf (c : Int) : List FR := if c = 1 then fRows1 else if c = 2 then fRows2 else []
def FormsPost (c : Int) (w : World) (e : Ending) (w' : World) : Prop := ∃ bm : Nat, w.heap.size ≤ bm ∧ e = .returned (.map (some bm)) ∧ w'.ownsMap Try.prog 23 heldElem bm 64 (fD c (fRowsOf c)) ∧ Below w.heap.size w w'
theorem law22 : Maps.Keyed Try.prog 23 := Maps.int_keyed Try.underlying23

theorem fCells_at (l : List FR) (i : Nat) (hi : i < l.length) : ∀ j, j < 7 → (fCells l)[i * 7 + j]? = ((l[i]).cells)[j]? := by
  induction l generalizing i with
  | nil => simp at hi
  | cons r l ih =>
    intro j hj
    unfold fCells
    rw [List.flatMap_cons]
    cases i with
    | zero =>
      simp only [List.getElem?_toArray, Nat.zero_mul, Nat.zero_add, List.getElem_cons_zero]
      rw [List.getElem?_append_left (by simpa [FR.cells] using hj)]
    | succ i =>
      have := ih i (by simpa using hi) j hj
      simp only [List.getElem?_toArray, List.getElem_cons_succ]
      unfold fCells at this
      simp only [List.getElem?_toArray] at this
      rw [List.getElem?_append_right (by simp [FR.cells]; omega), ← this]
      congr 1
      simp [FR.cells]; omega
theorem frow_at {w : World} {b : Nat} {l : List FR} (h : w.heap[b]? = some (.cells (fCells l) 28 (0, 0))) (i : Nat) (r : FR) (hr : l[i]? = some r) :
    w.cell? ⟨b, i * 7, none⟩ = some (.int .i64 0) ∧ w.cell? ⟨b, i * 7 + 1, none⟩ = some (.int .u16 r.ty) ∧ w.cell? ⟨b, i * 7 + 2, none⟩ = some (.string r.nm) ∧ w.cell? ⟨b, i * 7 + 3, none⟩ = some (.int .i64 r.least) ∧
    w.cell? ⟨b, i * 7 + 4, none⟩ = some (.int .i64 r.most) ∧ w.cell? ⟨b, i * 7 + 5, none⟩ = some (.int .i64 r.unit) ∧ w.cell? ⟨b, i * 7 + 6, none⟩ = some (.int .i64 r.kids) := by
  obtain ⟨hi, rfl⟩ := List.getElem?_eq_some_iff.1 hr
  have c := fCells_at l i hi
  have hc : ∀ j, j < 7 → w.cell? ⟨b, i * 7 + j, none⟩ = ((l[i]).cells)[j]? := fun j hj => by
    rw [← c j hj]
    simp [World.cell?, h]
  exact ⟨hc 0 (by omega), hc 1 (by omega), hc 2 (by omega), hc 3 (by omega), hc 4 (by omega), hc 5 (by omega), hc 6 (by omega)⟩
theorem fD_snoc (c : Int) (l : List FR) (r : FR) : fD c (l ++ [r]) = (fD c l).put (.int .u16 r.ty) (.held (r.val c)) := by simp [fD, List.foldl_append]
theorem fD_step {c : Int} {l : List FR} {i : Nat} {r : FR} (hr : l[i]? = some r) : fD c (l.take (i + 1)) = (fD c (l.take i)).put (.int .u16 r.ty) (.held (r.val c)) := by
  rw [← fD_snoc, List.take_add_one, hr]
  rfl
def Wfs (l : List FR) : Prop := ∀ r ∈ l, 0 ≤ r.ty ∧ r.ty ≤ 65535
theorem wf_u16 {x : Int} (h0 : 0 ≤ x) (h1 : x ≤ 65535) : (Lit.int .u16 x).wf = true := WalkArith.wf_u16 (by omega)
/-- The map so far. -/
def Filled (c : Int) (l : List FR) (w : World) (bm : Nat) (i : Nat) (W : World) : Prop := W.ownsMap Try.prog 23 heldElem bm i (fD c (l.take i)) ∧ Below w.heap.size w W
theorem Filled.start {c : Int} {l : List FR} {w w1 w2 : World} (h1 : Below (w.alloc (.map #[] 0)).heap.size (w.alloc (.map #[] 0)) w1) (h2 : Below w1.heap.size w1 w2) : Filled c l w w.heap.size 0 w2 := by
  have h0 : (w.alloc (.map #[] 0)).ownsMap Try.prog 23 heldElem w.heap.size 0 (fD c (l.take 0)) := World.ownsMap_made _ _ _ _
  have s1 := h1.size
  simp only [World.size_alloc] at s1
  refine ⟨(h0.kept (grown_of_below h1 none) (by simp)).kept (grown_of_below h2 none) (by simp), ?_⟩
  exact (((Below.refl w.heap.size w).alloc (Nat.le_refl _) _).trans (h1.mono (by simp))).trans (h2.mono (by omega))
theorem Filled.step {c : Int} {l : List FR} {w W w3 : World} {o : Obj} {i : Nat} {r : FR} (h : Filled c l w w.heap.size i W) (hr : fD c (l.take (i + 1)) = (fD c (l.take i)).put (.int .u16 r.ty) (.held (r.val c)))
    (ho : w3.ownsMap Try.prog 23 heldElem w.heap.size (i + 1) ((fD c (l.take i)).put (.int .u16 r.ty) (.held (r.val c)))) (hg : (W.alloc o).grownBy w3 (some w.heap.size)) : Filled c l w w.heap.size (i + 1) w3 := by
  refine ⟨by rw [hr]; exact ho, ?_⟩
  have hs := h.2.size
  exact (h.2.alloc hs o).grown hg (by simp; omega) (fun k e => by cases e; exact Nat.le_refl _)
theorem Filled.keep {W w3 : World} {o : Obj} {b bm : Nat} {x : Obj} (h : W.heap[b]? = some x) (hl : b < W.heap.size) (hne : b ≠ bm) (hg : (W.alloc o).grownBy w3 (some bm)) : Hid (w3.heap[b]? = some x) := by
  show _ = _
  rw [hg.block b (by simp; omega) (by simpa using hne), Below.heap_alloc _ _ _ hl]
  exact h
theorem Filled.done {c : Int} {l : List FR} {w W : World} {n : Nat} (h : Filled c l w w.heap.size n W) (hn : n ≤ 64) (hl : fRowsOf c = l.take n) : W.ownsMap Try.prog 23 heldElem w.heap.size 64 (fD c (fRowsOf c)) := by
  rw [hl]
  exact h.1.mono hn

theorem fRows1_len : fRows1.length = 27 := rfl
theorem fRows1_wf : Wfs fRows1 := by unfold Wfs; decide
set_option maxHeartbeats 1000000 in
theorem forms_one (w : World) : Calls Try.prog 21 #[.int .i64 1] w (FormsPost 1 w) := by
  have hmm := @run_makeMap Try.prog
  have i1 : ∀ (b3 b4 : Nat) (w : World), (Instr.index 56 (.agg #[.slice none 0 0, .slice (some ⟨b3, 0, none⟩) 27 27, .slice (some ⟨b4, 0, none⟩) 19 19]) (.int .i64 1)).run Try.prog w = .ok (.slice (some ⟨b3, 0, none⟩) 27 27) w := fun _ _ _ => by kernel_rfl
  go_enter Try.func21, Try.ntmps21
  go_wp2_with fail
  refine (table_any _).mono ?_
  rintro e w1 ⟨b1, b2, hb1, hb2, rfl, hc1, hc2, hB⟩
  have HB := hid hB
  clear hB hc1 hc2
  go_wp2_with fail
  refine (table_any _).mono ?_
  rintro e w2 ⟨b3, b4, hb3, hb4, rfl, hc3, hc4, hB2⟩
  have HF : Filled 1 fRows1 w w.heap.size 0 w2 := Filled.start HB.out hB2
  have HC := hid hc3
  have hsz1 := HB.out.size
  simp only [World.size_alloc] at hsz1
  have hne : b3 ≠ w.heap.size := by omega
  have hlb : b3 < w2.heap.size := (Array.getElem?_eq_some_iff.1 HC.out).1
  clear hB2 hc3 hc4 HB
  go_wp2_with fail
  go_loopw [5, 20] (fun v5 vi W => ∃ i : Nat, vi = .int .i64 i ∧ i ≤ 27 ∧ Filled 1 fRows1 w w.heap.size i W ∧ Hid (W.heap[b3]? = some (.cells (fCells fRows1) 28 (0, 0)))) (fun _ vi _ => 27 - (intOf vi).toNat)
  case atStart => exact ⟨0, rfl, by omega, HF, HC⟩
  case round =>
    obtain ⟨i, rfl, hi, hF, hC⟩ := hrel
    by_cases hlt : i < 27
    · obtain ⟨r, hr⟩ : ∃ r, fRows1[i]? = some r := ⟨_, List.getElem?_eq_getElem (by rw [fRows1_len]; exact hlt)⟩
      have cs := frow_at hC.out i r hr
      have hwf := fRows1_wf r (List.mem_of_getElem? hr)
      have hr' := hid (fD_step (c := 1) hr)
      have hlw : b3 < wr.heap.size := (Array.getElem?_eq_some_iff.1 hC.out).1
      clear hr
      go_wp2_with (at_mapUpdate; refine wpList_mapUpdate_own _ rfl _ _ _ 46 rfl 23 28 law22 Try.underlying46 heldElem w.heap.size i (fD 1 (fRows1.take i)) rfl (hF.1.alloc _) (by unfold maxLen; omega) _ _ (.int .u16 r.ty) rfl rfl (Maps.keyOf_int_mk Try.underlying23 (wf_u16 hwf.1 hwf.2)) (.held (r.val 1)) [] rfl ?_; intro w3 hown3 hgrow3)
      go_roundw
      case rel => exact ⟨i + 1, by go_num, by omega, Filled.step hF hr'.out hown3 hgrow3, Filled.keep hC.out hlw hne hgrow3⟩
      case measure => simp [intOf]; omega
    · obtain rfl : i = 27 := by omega
      go_wp2_with fail
      go_ret
      exact ⟨_, Nat.le_refl _, rfl, Filled.done hF (by decide) rfl, hF.2⟩

theorem fRows2_len : fRows2.length = 19 := rfl
theorem fRows2_wf : Wfs fRows2 := by unfold Wfs; decide
set_option maxHeartbeats 1000000 in
theorem forms_two (w : World) : Calls Try.prog 21 #[.int .i64 2] w (FormsPost 2 w) := by
  have hmm := @run_makeMap Try.prog
  have i1 : ∀ (b3 b4 : Nat) (w : World), (Instr.index 56 (.agg #[.slice none 0 0, .slice (some ⟨b3, 0, none⟩) 27 27, .slice (some ⟨b4, 0, none⟩) 19 19]) (.int .i64 2)).run Try.prog w = .ok (.slice (some ⟨b4, 0, none⟩) 19 19) w := fun _ _ _ => by kernel_rfl
  go_enter Try.func21, Try.ntmps21
  go_wp2_with fail
  refine (table_any _).mono ?_
  rintro e w1 ⟨b1, b2, hb1, hb2, rfl, hc1, hc2, hB⟩
  have HB := hid hB
  clear hB hc1 hc2
  go_wp2_with fail
  refine (table_any _).mono ?_
  rintro e w2 ⟨b3, b4, hb3, hb4, rfl, hc3, hc4, hB2⟩
  have HF : Filled 2 fRows2 w w.heap.size 0 w2 := Filled.start HB.out hB2
  have HC := hid hc4
  have hsz1 := HB.out.size
  simp only [World.size_alloc] at hsz1
  have hne : b4 ≠ w.heap.size := by omega
  have hlb : b4 < w2.heap.size := (Array.getElem?_eq_some_iff.1 HC.out).1
  clear hB2 hc3 hc4 HB
  go_wp2_with fail
  go_loopw [5, 20] (fun v5 vi W => ∃ i : Nat, vi = .int .i64 i ∧ i ≤ 19 ∧ Filled 2 fRows2 w w.heap.size i W ∧ Hid (W.heap[b4]? = some (.cells (fCells fRows2) 28 (0, 0)))) (fun _ vi _ => 19 - (intOf vi).toNat)
  case atStart => exact ⟨0, rfl, by omega, HF, HC⟩
  case round =>
    obtain ⟨i, rfl, hi, hF, hC⟩ := hrel
    by_cases hlt : i < 19
    · obtain ⟨r, hr⟩ : ∃ r, fRows2[i]? = some r := ⟨_, List.getElem?_eq_getElem (by rw [fRows2_len]; exact hlt)⟩
      have cs := frow_at hC.out i r hr
      have hwf := fRows2_wf r (List.mem_of_getElem? hr)
      have hr' := hid (fD_step (c := 2) hr)
      have hlw : b4 < wr.heap.size := (Array.getElem?_eq_some_iff.1 hC.out).1
      clear hr
      go_wp2_with (at_mapUpdate; refine wpList_mapUpdate_own _ rfl _ _ _ 46 rfl 23 28 law22 Try.underlying46 heldElem w.heap.size i (fD 2 (fRows2.take i)) rfl (hF.1.alloc _) (by unfold maxLen; omega) _ _ (.int .u16 r.ty) rfl rfl (Maps.keyOf_int_mk Try.underlying23 (wf_u16 hwf.1 hwf.2)) (.held (r.val 2)) [] rfl ?_; intro w3 hown3 hgrow3)
      go_roundw
      case rel => exact ⟨i + 1, by go_num, by omega, Filled.step hF hr'.out hown3 hgrow3, Filled.keep hC.out hlw hne hgrow3⟩
      case measure => simp [intOf]; omega
    · obtain rfl : i = 19 := by omega
      go_wp2_with fail
      go_ret
      exact ⟨_, Nat.le_refl _, rfl, Filled.done hF (by decide) rfl, hF.2⟩
end Go.Proofs.Ytjgcdjfeglhalaa
