/- 'shape.Of', 'shape.Known', 'action.Param' over the map of forms. -/
import Derived.Test.YtjgcdjfeglhalaaForms
namespace Go.Proofs.Ytjgcdjfeglhalaa
open Go.RowKit Go.Proofs.YtjgcdjfeglhalaaW.PrintWords

def fFindIn (l : List FR) (t : Int) : Option FR := l.reverse.find? (fun r => r.ty == t)
def fHas (c t : Int) : Bool := (fRowsOf c).any (fun r => r.ty == t)
theorem isKey16 (x : Int) : WideAt.IsKeyLit (.int .u16 x) := by
  simp [WideAt.IsKeyLit]
theorem fD_isMap (c : Int) (l : List FR) : ∀ m : DataW Value, Maps.IsMap m → Maps.IsMap (l.foldl (fun m r => m.put (.int .u16 r.ty) (.held (r.val c))) m) := by
  induction l with
  | nil => exact fun m h => h
  | cons r l ih => exact fun m h => ih _ (h.put _ _)
theorem fD_has0 (c t : Int) (l : List FR) : ∀ m : DataW Value, Maps.IsMap m → Maps.has (l.foldl (fun m r => m.put (.int .u16 r.ty) (.held (r.val c))) m) (.int .u16 t) = (Maps.has m (.int .u16 t) || l.any (fun r => r.ty == t)) := by
  induction l with
  | nil => intro m _; simp
  | cons r l ih =>
    intro m hm
    rw [List.foldl_cons, ih _ (hm.put _ _), List.any_cons]
    by_cases h : r.ty = t
    · rw [h, Maps.has_put_same hm (isKey16 _), beq_self_eq_true]
      simp
    · rw [Maps.has_put_other (by simpa using fun e => h e.symm), show (r.ty == t) = false from by simpa using h]
      simp
theorem fD_has (c t : Int) (l : List FR) : Maps.has (fD c l) (.int .u16 t) = l.any (fun r => r.ty == t) := by
  unfold fD
  rw [fD_has0 c t l _ Maps.isMap_empty]
  rfl
theorem fD_at (c t : Int) (l : List FR) (z : DataW Value) : (fD c l).atKey (.int .u16 t) z = (match fFindIn l t with | some r => .held (r.val c) | none => z) := by
  obtain ⟨q, rfl⟩ : ∃ q : List FR, l = q.reverse := ⟨l.reverse, by simp⟩
  induction q with
  | nil => rfl
  | cons r q ih =>
    unfold fFindIn at ih ⊢
    rw [List.reverse_reverse] at ih
    rw [List.reverse_cons, fD_snoc, ← List.reverse_cons, List.reverse_reverse, List.find?_cons]
    by_cases h : r.ty = t
    · rw [h, Maps.atKey_put_same (show Maps.IsMap (fD c q.reverse) from fD_isMap c q.reverse _ Maps.isMap_empty) (isKey16 _), beq_self_eq_true]
    · rw [Maps.atKey_put_other (by simpa using fun e => h e.symm), ih, show (r.ty == t) = false from by simpa using h]
theorem zero52 (w : World) : (zeroValue 28).run Try.prog w = .ok (.agg #[.int .i64 0, .int .u16 0, .string ⟨#[]⟩, .int .i64 0, .int .i64 0, .int .i64 0, .int .i64 0]) w := by kernel_rfl
def fZ : FR := ⟨0, ⟨#[]⟩, 0, 0, 0, 0⟩
/-- The form with a type, its class laid in; the zero form if there is none. -/
def fAt (c t : Int) : Int × FR := match fFindIn (fRowsOf c) t with | some r => (c, r) | none => (0, fZ)
def FOfPost (c t : Int) (w : World) (e : Ending) (w' : World) : Prop := ∃ (k : Int) (r : FR) (b : Bool), (k, r) = fAt c t ∧ b = fHas c t ∧ e = .returned (.tuple #[.agg #[.int .i64 k, .int .u16 r.ty, .string r.nm, .int .i64 r.least, .int .i64 r.most, .int .i64 r.unit, .int .i64 r.kids], .bool b]) ∧ Below w.heap.size w w'
theorem held_at {c t : Int} {v : Value} {ps : List MemPlace} (h : heldElem v = some ((fD c (fRowsOf c)).atKey (.int .u16 t) (.held (fZ.val 0)), ps)) : v = (fAt c t).2.val (fAt c t).1 := by
  rw [fD_at] at h
  unfold fAt
  unfold heldElem at h
  split at h <;> simp only [Option.some.injEq, Prod.mk.injEq, DataW.held.injEq] at h <;> exact h.1

theorem below_set0 {w W : World} {j : Nat} {u : Value} (h : Below w.heap.size w W) : Below w.heap.size w (W.setCell ⟨w.heap.size, j, none⟩ u) := h.setCell (Nat.le_refl _) _
set_option maxHeartbeats 1000000 in
theorem fof_any (c t : Int) (w : World) (h3 : 0 ≤ t) (h4 : t ≤ 65535) (hf : Calls Try.prog 21 #[.int .i64 c] (w.alloc (.cells #[.int .i64 0, .int .u16 0, .string ⟨#[]⟩, .int .i64 0, .int .i64 0, .int .i64 0, .int .i64 0] 28)) (FormsPost c (w.alloc (.cells #[.int .i64 0, .int .u16 0, .string ⟨#[]⟩, .int .i64 0, .int .i64 0, .int .i64 0, .int .i64 0] 28)))) :
    Calls Try.prog 13 #[.int .i64 c, .int .u16 t] w (FOfPost c t w) := by
  go_enter Try.func13, Try.ntmps13
  go_wp2_with fail
  refine hf.mono ?_
  rintro e w1 ⟨bm, hbm, rfl, hown, hb⟩
  have s7 := seven (new_blk hb)
  have hbb : Below w.heap.size w w1 := ((Below.refl w.heap.size w).alloc (Nat.le_refl _) _).trans (hb.mono (by simp))
  clear hf
  have hz := zero52
  obtain ⟨k, r, hkr⟩ : ∃ k r, (k, r) = fAt c t := ⟨_, _, rfl⟩
  have hkr' := hid hkr
  clear hkr
  have hsz : w.heap.size < w1.heap.size := by have := hb.size; simp at this; omega
  have hbb' := hid hbb
  clear hbb hb
  go_wp2_with (at_lookup; refine wpList_lookup_own_ok _ rfl _ _ 46 rfl 23 28 law22 Try.underlying46 heldElem (zero52 _) (.held (fZ.val 0)) [] rfl bm 64 _ rfl hown _ _ rfl (Maps.keyOf_int_mk Try.underlying23 (wf_u16 h3 h4)) ?_; intro v ps hv; have hv2 := held_at hv; rw [← hkr'.out] at hv2; clear hv; unfold FR.val at hv2; subst hv2)
  refine bodyPost_ret (v := .tuple #[.agg #[.int .i64 k, .int .u16 r.ty, .string r.nm, .int .i64 r.least, .int .i64 r.most, .int .i64 r.unit, .int .i64 r.kids], .bool _]) (by simp [results, Try.results13, go_sem, s7, hsz]) rfl ⟨k, r, _, hkr'.out, fD_has c t _, rfl, ?_⟩
  repeat (first | with_reducible exact hbb'.out | with_reducible apply below_alloc | with_reducible apply below_set0)
end Go.Proofs.Ytjgcdjfeglhalaa
