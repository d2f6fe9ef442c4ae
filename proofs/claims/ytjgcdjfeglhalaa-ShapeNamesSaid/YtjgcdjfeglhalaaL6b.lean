import Derived.Test.YtjgcdjfeglhalaaL6
set_option linter.unusedVariables false
namespace Go.Proofs.Ytjgcdjfeglhalaa
open Go.RowKit Go.Proofs.YtjgcdjfeglhalaaW.PrintWords

/-- Is this the row that is wanted? -/
def wIs (c : Int) (nm : ByteArray) (p : Int × FR) : Bool := p.1 == c && decide (p.2.nm = nm)
/-- The last row that is wanted; a zero row if there is none. -/
def wAcc (c : Int) (nm : ByteArray) (l : List (Int × FR)) : Int × FR := l.foldl (fun a p => if wIs c nm p = true then p else a) (0, fZ)
theorem wAcc_step {c k : Int} {nm : ByteArray} {r : FR} {i : Nat} (hr : rRows[i]? = some (k, r)) : wAcc c nm (rRows.take (i + 1)) = if wIs c nm (k, r) = true then (k, r) else wAcc c nm (rRows.take i) := by
  unfold wAcc
  rw [List.take_add_one, hr, List.foldl_append]
  rfl
theorem fold_none (f : (Int × FR) → Bool) (l : List (Int × FR)) : ∀ a, (∀ p ∈ l, f p = false) → l.foldl (fun a p => if f p = true then p else a) a = a := by
  induction l with
  | nil => intro a _; rfl
  | cons q l ih =>
    intro a h
    rw [List.foldl_cons, h q (List.mem_cons_self)]
    exact ih _ (fun p hp => h p (List.mem_cons_of_mem _ hp))
theorem fold_one (f : (Int × FR) → Bool) (q : Int × FR) (l : List (Int × FR)) : ∀ a, (∀ p ∈ l, f p = true → p = q) → (a = q ∨ ∃ p ∈ l, f p = true) → l.foldl (fun a p => if f p = true then p else a) a = q := by
  induction l with
  | nil =>
    intro a _ h
    rcases h with h | ⟨p, hp, _⟩
    · exact h
    · cases hp
  | cons x l ih =>
    intro a h he
    rw [List.foldl_cons]
    refine ih _ (fun p hp => h p (List.mem_cons_of_mem _ hp)) ?_
    by_cases hx : f x = true
    · left; rw [if_pos hx]; exact h x List.mem_cons_self hx
    · rw [if_neg hx]
      rcases he with he | ⟨p, hp, hf⟩
      · exact .inl he
      · rcases List.mem_cons.1 hp with rfl | hp
        · exact absurd hf hx
        · exact .inr ⟨p, hp, hf⟩
theorem row_of {c : Int} {p : Int × FR} (hp : p ∈ rRows) (h : p.1 = c) : p.2 ∈ fRowsOf c := by
  unfold rRows at hp
  rw [List.mem_append, List.mem_map, List.mem_map] at hp
  rcases hp with ⟨q, hq, rfl⟩ | ⟨q, hq, rfl⟩
  · obtain rfl : (1 : Int) = c := h
    exact hq
  · obtain rfl : (2 : Int) = c := h
    exact hq
theorem row_in {c : Int} {r : FR} (h : r ∈ fRowsOf c) : (c, r) ∈ rRows := by
  unfold fRowsOf at h
  unfold rRows
  rw [List.mem_append, List.mem_map, List.mem_map]
  split at h
  · rename_i e; subst e; exact .inl ⟨r, h, rfl⟩
  · split at h
    · rename_i e; subst e; exact .inr ⟨r, h, rfl⟩
    · cases h
theorem names1 : ∀ a ∈ fRows1, ∀ b ∈ fRows1, a.nm = b.nm → a.ty = b.ty := by decide +kernel
theorem names2 : ∀ a ∈ fRows2, ∀ b ∈ fRows2, a.nm = b.nm → a.ty = b.ty := by decide +kernel
theorem uniq_nm {c : Int} {a b : FR} (ha : a ∈ fRowsOf c) (hb : b ∈ fRowsOf c) (e : a.nm = b.nm) : a = b := by
  refine uniq_ty (fRowsOf_nodup c) ha hb ?_
  unfold fRowsOf at ha hb
  split at ha
  · rename_i h; rw [if_pos h] at hb; exact names1 a ha b hb e
  · rename_i h
    rw [if_neg h] at hb
    split at ha
    · rename_i h; rw [if_pos h] at hb; exact names2 a ha b hb e
    · cases ha
/-- What the program found is what the law's loop finds. -/
theorem wAcc_all {c k : Int} {name : ByteArray} {r : FR} {b : Bool} (h : (b = true ∧ k = c ∧ r ∈ fRowsOf c ∧ r.nm = name) ∨ (b = false ∧ k = 0 ∧ r = fZ ∧ ∀ q ∈ fRowsOf c, q.nm ≠ name)) : wAcc c name rRows = (k, r) ∧ b = decide (0 < k) := by
  rcases h with ⟨rfl, rfl, hr, hn⟩ | ⟨rfl, rfl, rfl, hn⟩
  · refine ⟨fold_one _ _ _ _ (fun p hp hf => ?_) (.inr ⟨(k, r), row_in hr, by simp [wIs, hn]⟩), ?_⟩
    · simp only [wIs, Bool.and_eq_true, beq_iff_eq, decide_eq_true_eq] at hf
      have h1 := uniq_nm (row_of hp hf.1) hr (hf.2.trans hn.symm)
      exact Prod.ext hf.1 h1
    · have : k = 1 ∨ k = 2 := by
        unfold fRowsOf at hr
        split at hr
        · exact .inl ‹_›
        · split at hr
          · exact .inr ‹_›
          · cases hr
      rcases this with rfl | rfl <;> rfl
  · refine ⟨fold_none _ _ _ (fun p hp => ?_), rfl⟩
    by_cases h1 : p.1 = c
    · have := hn p.2 (row_of hp h1)
      simp [wIs, this]
    · simp [wIs, h1]
theorem set7 {w : World} {b t : Nat} {v0 v1 v2 v3 v4 v5 v6 : Value} (u0 u1 u2 u3 u4 u5 u6 : Value) (h : w.heap[b]? = some (.cells #[v0, v1, v2, v3, v4, v5, v6] t (0, 0))) :
    (((((((w.setCell ⟨b, 0, none⟩ u0).setCell ⟨b, 1, none⟩ u1).setCell ⟨b, 2, none⟩ u2).setCell ⟨b, 3, none⟩ u3).setCell ⟨b, 4, none⟩ u4).setCell ⟨b, 5, none⟩ u5).setCell ⟨b, 6, none⟩ u6).heap[b]? = some (.cells #[u0, u1, u2, u3, u4, u5, u6] t (0, 0)) := by
  simp [World.setCell, h, Array.getElem?_modify]
theorem set7_far {w : World} {b b' : Nat} (u0 u1 u2 u3 u4 u5 u6 : Value) (h : b' ≠ b) :
    (((((((w.setCell ⟨b, 0, none⟩ u0).setCell ⟨b, 1, none⟩ u1).setCell ⟨b, 2, none⟩ u2).setCell ⟨b, 3, none⟩ u3).setCell ⟨b, 4, none⟩ u4).setCell ⟨b, 5, none⟩ u5).setCell ⟨b, 6, none⟩ u6).heap[b']? = w.heap[b']? := by
  have f : ∀ (W : World) (j : Nat) (u : Value), (W.setCell ⟨b, j, none⟩ u).heap[b']? = W.heap[b']? := fun W j u => Below.heap_setCell W ⟨b, j, none⟩ u b' h
  rw [f, f, f, f, f, f, f]
theorem set7_below {w W : World} {b : Nat} {u0 u1 u2 u3 u4 u5 u6 : Value} (h : Below w.heap.size w W) (hb : w.heap.size ≤ b) :
    Below w.heap.size w (((((((W.setCell ⟨b, 0, none⟩ u0).setCell ⟨b, 1, none⟩ u1).setCell ⟨b, 2, none⟩ u2).setCell ⟨b, 3, none⟩ u3).setCell ⟨b, 4, none⟩ u4).setCell ⟨b, 5, none⟩ u5).setCell ⟨b, 6, none⟩ u6) :=
  ((((((h.setCell hb _).setCell hb _).setCell hb _).setCell hb _).setCell hb _).setCell hb _).setCell hb _
/-- The cell that holds what has been found so far. -/
def Want (c : Int) (nm : ByteArray) (w2 : World) (i : Nat) (W : World) : Prop := W.heap[w2.heap.size + 1]? = some (.cells #[.int .i64 (wAcc c nm (rRows.take i)).1, .int .u16 (wAcc c nm (rRows.take i)).2.ty, .string (wAcc c nm (rRows.take i)).2.nm, .int .i64 (wAcc c nm (rRows.take i)).2.least, .int .i64 (wAcc c nm (rRows.take i)).2.most, .int .i64 (wAcc c nm (rRows.take i)).2.unit, .int .i64 (wAcc c nm (rRows.take i)).2.kids] 25 (0, 0))
set_option maxHeartbeats 4000000 in
theorem law6_long (c : Int) (name : ByteArray) (w : World) (hl : 100 < name.size) : Calls Try.prog 6 #[.int .i64 c, .string name] w (IsPost (.bool true) w) := by
  have hl' : (100 : Int) < (name.size : Int) := by omega
  go_enter Try.func6, Try.ntmps6
  go_wp2_with fail
  refine (awake_any _).mono ?_
  rintro e w1 ⟨rfl, hb⟩
  have B1 := hid hb
  clear hb
  go_wp2_with fail
  refine (awake_any _).mono ?_
  rintro e w2 ⟨rfl, hb⟩
  have B2 := hid (cthen B1.out hb)
  clear hb
  go_wp2_with fail
  go_ret
  exact ⟨rfl, B2.out⟩
set_option maxHeartbeats 4000000 in
theorem law6_short (c : Int) (name : ByteArray) (w : World) (hl : name.size ≤ 100) : Calls Try.prog 6 #[.int .i64 c, .string name] w (IsPost (.bool true) w) := by
  have hl' : ¬ ((100 : Int) < (name.size : Int)) := by omega
  go_enter Try.func6, Try.ntmps6
  go_wp2_with fail
  refine (awake_any _).mono ?_
  rintro e w1 ⟨rfl, hb⟩
  have B1 := hid hb
  clear hb
  go_wp2_with fail
  refine (byName_any c name _).mono ?_
  rintro e w2 ⟨kf, rf, bf, hv, rfl, hb⟩
  have HV := hid (wAcc_all hv)
  have B2 := hid (cthen B1.out hb)
  clear hb hv
  go_wp2_with fail
  refine (rtab_any _).mono ?_
  rintro e w3 ⟨b, hb0, rfl, hc, hB⟩
  have KF := hid (blk_below (b := w2.heap.size) (blk_alloc (heap_alloc_new w2 _)) hB)
  have KW := hid (blk_below (b := w2.heap.size + 1) (by have := heap_alloc_new (w2.alloc (.cells #[.int .i64 kf, .int .u16 rf.ty, .string rf.nm, .int .i64 rf.least, .int .i64 rf.most, .int .i64 rf.unit, .int .i64 rf.kids] 28)) (.cells #[.int .i64 0, .int .u16 0, .string ⟨#[]⟩, .int .i64 0, .int .i64 0, .int .i64 0, .int .i64 0] 25); rwa [World.size_alloc] at this) hB)
  have B3 := hid (cthen (below_alloc (below_alloc B2.out _) _) hB)
  have HC := hid hc
  have hbl : b < w3.heap.size := (Array.getElem?_eq_some_iff.1 hc).1
  have hbn : w2.heap.size + 1 < b := by simp at hb0; omega
  have hsz2 := B2.out.size
  have hsz3 : w2.heap.size + 1 < w3.heap.size := by omega
  clear hB hc hb0
  go_wp2_with fail
  go_loopw [9] (fun vi W => ∃ i : Nat, vi = .int .i64 i ∧ i ≤ 46 ∧ Hid (W.heap[b]? = some (.cells rCells 25 (0, 0))) ∧ Hid (W.heap[w2.heap.size]? = some (.cells #[.int .i64 kf, .int .u16 rf.ty, .string rf.nm, .int .i64 rf.least, .int .i64 rf.most, .int .i64 rf.unit, .int .i64 rf.kids] 28 (0, 0))) ∧ Hid (Want c name w2 i W) ∧ Hid (Below w.heap.size w W)) (fun vi _ => 46 - (intOf vi).toNat)
  case atStart => exact ⟨0, rfl, by omega, HC, KF, KW, B3⟩
  case round =>
    obtain ⟨i, rfl, hi46, hC, hF, hWt, hB⟩ := hrel
    by_cases hlt : i < 46
    · obtain ⟨k, r, hr⟩ : ∃ k r, rRows[i]? = some (k, r) := ⟨_, _, List.getElem?_eq_getElem (by rw [rRows_len]; exact hlt)⟩
      have cs := rrow_at hC.out i k r hr
      have gs := hid (wAcc_step (c := c) (nm := name) hr)
      clear hr
      by_cases hk : k = c
      · have hkb : (k == c) = true := by simp [hk]
        have hwb : Hid (wIs c name (k, r) = (r.nm.toList == name.toList)) := hid (by unfold wIs; rw [str_eq, hkb]; rfl)
        clear hk
        by_cases hx : (r.nm.toList == name.toList) = true
        · have s7 := seven hWt.out
          have hsz := (Array.getElem?_eq_some_iff.1 hWt.out).1
          have hw1 := hid (hwb.out.trans hx)
          clear hwb
          go_wp2_with fail
          go_roundw
          case rel =>
            refine ⟨i + 1, by go_num, by omega, ?_, ?_, ?_, ?_⟩
            · exact hid ((set7_far _ _ _ _ _ _ _ (by omega)).trans hC.out)
            · exact hid ((set7_far _ _ _ _ _ _ _ (by omega)).trans hF.out)
            · have hn := set7 (.int .i64 k) (.int .u16 r.ty) (.string r.nm) (.int .i64 r.least) (.int .i64 r.most) (.int .i64 r.unit) (.int .i64 r.kids) hWt.out
              unfold Want
              rw [gs.out, if_pos hw1.out]
              exact hid hn
            · exact hid (set7_below hB.out (by omega))
          case measure => simp [intOf]; omega
        · have hxb : (r.nm.toList == name.toList) = false := by simpa using hx
          have hw1 := hid (hwb.out.trans hxb)
          clear hwb hx
          go_wp2_with fail
          go_roundw
          case rel =>
            refine ⟨i + 1, by go_num, by omega, hC, hF, ?_, hB⟩
            unfold Want
            rw [gs.out, if_neg (by rw [hw1.out]; decide)]
            exact hWt
          case measure => simp [intOf]; omega
      · have hkb : (k == c) = false := by simp [hk]
        have hw1 := hid (show wIs c name (k, r) = false by unfold wIs; rw [hkb]; rfl)
        clear hk
        go_wp2_with fail
        go_roundw
        case rel =>
          refine ⟨i + 1, by go_num, by omega, hC, hF, ?_, hB⟩
          unfold Want
          rw [gs.out, if_neg (by rw [hw1.out]; decide)]
          exact hWt
        case measure => simp [intOf]; omega
    · obtain rfl : i = 46 := by omega
      have ht : rRows.take 46 = rRows := List.take_of_length_le (by rw [rRows_len]; exact Nat.le_refl _)
      have hWt' : Hid (wr.heap[w2.heap.size + 1]? = some (.cells #[.int .i64 kf, .int .u16 rf.ty, .string rf.nm, .int .i64 rf.least, .int .i64 rf.most, .int .i64 rf.unit, .int .i64 rf.kids] 25 (0, 0))) := by
        have := hWt.out
        unfold Want at this
        rw [ht, HV.out.1] at this
        exact this
      have s1 := seven hF.out
      have s2 := seven hWt'.out
      have hbe := HV.out.2
      subst hbe
      by_cases h0 : 0 < kf
      · have h0b : decide (0 < kf) = true := by simp [h0]
        go_wp2_with fail
        go_ret
        exact ⟨by first | rfl | simp, hB.out⟩
      · have h0b : decide (0 < kf) = false := by simp [h0]
        go_wp2_with fail
        go_ret
        exact ⟨by first | rfl | simp, hB.out⟩
theorem law6 (c : Int) (name : ByteArray) (w : World) : Calls Try.prog 6 #[.int .i64 c, .string name] w (IsPost (.bool true) w) := by
  by_cases h : 100 < name.size
  · exact law6_long c name w h
  · exact law6_short c name w (by omega)
#print axioms law6
end Go.Proofs.Ytjgcdjfeglhalaa
