import Derived.Test.YtjgcdjfeglhalaaOf
import Derived.Test.YtjgcdjfeglhalaaSrtQ
set_option linter.unusedVariables false
namespace Go.Proofs.Ytjgcdjfeglhalaa
open Go.RowKit Go.Proofs.YtjgcdjfeglhalaaW.PrintWords

theorem made_kept {c : Int} {w w1 : World} (hc : fRowsOf c = []) (h : Below (w.alloc (.map #[] 0)).heap.size (w.alloc (.map #[] 0)) w1) : w1.ownsMap Try.prog 23 heldElem w.heap.size 64 (fD c (fRowsOf c)) ∧ Below w.heap.size w w1 := by
  have h0 : (w.alloc (.map #[] 0)).ownsMap Try.prog 23 heldElem w.heap.size 0 (fD c []) := World.ownsMap_made _ _ _ _
  rw [hc]
  exact ⟨(h0.kept (grown_of_below h none) (by simp)).mono (by decide), ((Below.refl w.heap.size w).alloc (Nat.le_refl _) _).trans (h.mono (by simp))⟩
set_option maxHeartbeats 1000000 in
theorem forms_neg (c : Int) (w : World) (hn : c < 0) : Calls Try.prog 21 #[.int .i64 c] w (FormsPost c w) := by
  have hc : fRowsOf c = [] := by unfold fRowsOf; rw [if_neg (by omega), if_neg (by omega)]
  have hmm := @run_makeMap Try.prog
  go_enter Try.func21, Try.ntmps21
  go_wp2_with fail
  go_ret
  have hh := made_kept (w := w) hc (Below.refl _ _)
  exact ⟨_, Nat.le_refl _, rfl, hh.1, hh.2⟩
set_option maxHeartbeats 1000000 in
theorem forms_big (c : Int) (w : World) (hn : 3 ≤ c) : Calls Try.prog 21 #[.int .i64 c] w (FormsPost c w) := by
  have hc : fRowsOf c = [] := by unfold fRowsOf; rw [if_neg (by omega), if_neg (by omega)]
  have hn0 : ¬ (c < 0) := by omega
  have hmm := @run_makeMap Try.prog
  go_enter Try.func21, Try.ntmps21
  go_wp2_with fail
  refine (table_any _).mono ?_
  rintro e w1 ⟨b1, b2, hb1, hb2, rfl, hc1, hc2, hB⟩
  have HB := hid hB
  clear hB hc1 hc2
  go_wp2_with fail
  go_ret
  have hh := made_kept (w := w) hc HB.out
  exact ⟨_, Nat.le_refl _, rfl, hh.1, hh.2⟩
set_option maxHeartbeats 1000000 in
theorem forms_zero (w : World) : Calls Try.prog 21 #[.int .i64 0] w (FormsPost 0 w) := by
  have hc : fRowsOf 0 = [] := rfl
  have hmm := @run_makeMap Try.prog
  have i1 : ∀ (b3 b4 : Nat) (w : World), (Instr.index 56 (.agg #[.slice none 0 0, .slice (some ⟨b3, 0, none⟩) 27 27, .slice (some ⟨b4, 0, none⟩) 19 19]) (.int .i64 0)).run Try.prog w = .ok (.slice none 0 0) w := fun _ _ _ => by kernel_rfl
  go_enter Try.func21, Try.ntmps21
  go_wp2_with fail
  refine (table_any _).mono ?_
  rintro e w1 ⟨b1, b2, hb1, hb2, rfl, hc1, hc2, hB⟩
  have HB := hid hB
  clear hB hc1 hc2
  go_wp2_with fail
  refine (table_any _).mono ?_
  rintro e w2 ⟨b3, b4, hb3, hb4, rfl, hc3, hc4, hB2⟩
  have HB2 := hid (HB.out.trans (hB2.mono HB.out.size))
  clear hB2 hc3 hc4 HB
  go_wp2_with fail
  go_loopw [20] (fun vi W => vi = .int .i64 0 ∧ W = w2) (fun vi _ => 0)
  case atStart => exact ⟨rfl, rfl⟩
  case round =>
    obtain ⟨rfl, rfl⟩ := hrel
    go_wp2_with fail
    go_ret
    have hh := made_kept (w := w) hc HB2.out
    exact ⟨_, Nat.le_refl _, rfl, hh.1, hh.2⟩
theorem forms_any (c : Int) (w : World) : Calls Try.prog 21 #[.int .i64 c] w (FormsPost c w) := by
  by_cases h : c < 0
  · exact forms_neg c w h
  · by_cases h3 : 3 ≤ c
    · exact forms_big c w h3
    · have : c = 0 ∨ c = 1 ∨ c = 2 := by omega
      rcases this with rfl | rfl | rfl
      · exact forms_zero w
      · exact forms_one w
      · exact forms_two w
set_option maxHeartbeats 400000 in
theorem fknown_any (c t : Int) (w : World) (h3 : 0 ≤ t) (h4 : t ≤ 65535) : Calls Try.prog 15 #[.int .i64 c, .int .u16 t] w (IsPost (.bool (fHas c t)) w) := by
  go_enter Try.func15, Try.ntmps15
  go_wp2_with fail
  refine (fof_any c t _ h3 h4 (forms_any c _)).mono ?_
  rintro e w' ⟨k, r, b, hk, hv, rfl, hb⟩
  have hb' := hid hb
  have hv' := hid hv
  clear hk hv hb
  go_wp2_with fail
  go_ret
  exact ⟨by rw [← hv'.out]; rfl, by repeat (first | with_reducible exact hb'.out | with_reducible apply below_alloc)⟩

/-- The types of a class. -/
def fTys (c : Int) : List Int := (fRowsOf c).map (·.ty)
def TypesPost (c : Int) (w : World) (e : Ending) (w' : World) : Prop := ∃ (v : Value) (L : List Int), e = .returned v ∧ Srt.Asc L ∧ (∀ x, x ∈ L ↔ x ∈ fTys c) ∧ w'.ownsRow w.heap.size 23 1 v L.length (L.map (Value.int .u16)) ∧ Below w.heap.size w w'
theorem fD_tidy (c : Int) (l : List FR) : ∀ m : DataW Value, Maps.Tidy m → Maps.Tidy (l.foldl (fun m r => m.put (.int .u16 r.ty) (.held (r.val c))) m) ∧ Maps.size (l.foldl (fun m r => m.put (.int .u16 r.ty) (.held (r.val c))) m) ≤ Maps.size m + l.length := by
  induction l with
  | nil => exact fun m h => ⟨h, by simp⟩
  | cons r l ih =>
    intro m h
    have h2 := h.put (isKey16 r.ty) (DataW.held (r.val c))
    have h3 := Maps.size_put (k := .int .u16 r.ty) h (.held (r.val c))
    have i := ih (m.put (.int .u16 r.ty) (.held (r.val c))) h2
    refine ⟨i.1, ?_⟩
    have i2 := i.2
    rw [List.foldl_cons, List.length_cons]
    split at h3 <;> omega
theorem fD_size (c : Int) : Maps.size (fD c (fRowsOf c)) ≤ 1000000 := by
  have h := (fD_tidy c (fRowsOf c) (.map []) Maps.tidy_empty).2
  have hl : (fRowsOf c).length ≤ 27 := by
    unfold fRowsOf
    split
    · decide
    · split <;> decide
  have h0 : Maps.size (.map [] : DataW Value) = 0 := rfl
  show Maps.size ((fRowsOf c).foldl _ _) ≤ _
  omega
theorem owns_base {w : World} {b0 b1 : Nat} {v : Value} {n : Nat} {xs : List Value} (h : w.ownsRow b1 23 1 v n xs) (hb : b0 ≤ b1) : w.ownsRow b0 23 1 v n xs := by
  refine ⟨h.1, ?_⟩
  rcases h.2 with h | ⟨g, cap, cur, e, hg, h⟩
  · exact .inl h
  · exact .inr ⟨g, cap, cur, e, by omega, h⟩
theorem types_any (c : Int) (w : World) : Calls Try.prog 20 #[.int .i64 c] w (TypesPost c w) := by
  go_enter Try.func20, Try.ntmps20
  go_wp2_with fail
  refine (forms_any c _).mono ?_
  rintro e w1 ⟨bm, hbm, rfl, hown, hb⟩
  have HB := hid hb
  clear hb
  go_wp2_with (go_at_call 25; refine (Seq.keys_calls _ _).mono ?_; rintro e w2 ⟨rfl, rfl⟩)
  have hown2 : (w1.alloc (.cells #[.map (some bm)] 46)).ownsMap Try.prog 23 heldElem bm 64 (fD c (fRowsOf c)) := hown.alloc _
  refine (Srt.sorted_keys bm 64 (fD c (fRowsOf c)) w1.heap.size _ (by simp) (Boxed.new w1 46 (.map (some bm))).cell hown2 (fD_size c)).mono ?_
  rintro e w3 ⟨v, L, rfl, hA, hm, hrow, hb3⟩
  go_wp2_with fail
  go_ret
  have hs := HB.out.size
  refine ⟨v, L, rfl, hA, fun x => ?_, owns_base hrow (by simp; omega), cthen (HB.out.alloc hs _) hb3⟩
  rw [hm x, fD_has]
  simp [fTys]
end Go.Proofs.Ytjgcdjfeglhalaa
