import Derived.Test.YtjgcdjfeglhalaaL3
set_option linter.unusedVariables false
namespace Go.Proofs.Ytjgcdjfeglhalaa
open Go.RowKit Go.Proofs.YtjgcdjfeglhalaaW.PrintWords

theorem nodup1 : (fRows1.map (·.ty)).Nodup := by decide
theorem nodup2 : (fRows2.map (·.ty)).Nodup := by decide
theorem find_rev (l : List FR) (t : Int) (h : (l.map (·.ty)).Nodup) : l.reverse.find? (fun r => r.ty == t) = l.find? (fun r => r.ty == t) := by
  induction l with
  | nil => rfl
  | cons r l ih =>
    rw [List.map_cons, List.nodup_cons] at h
    rw [List.reverse_cons, List.find?_append, ih h.2, List.find?_cons]
    by_cases e : r.ty = t
    · have : l.find? (fun r => r.ty == t) = none := by
        rw [List.find?_eq_none]
        intro x hx
        simp only [beq_iff_eq]
        intro hxt
        exact h.1 (by rw [e, ← hxt]; exact List.mem_map_of_mem hx)
      rw [this]
      simp [e]
    · have e2 : (r.ty == t) = false := by simp [e]
      rw [e2]
      rw [List.find?_cons, e2]
      simp
theorem fRowsOf_nodup (c : Int) : ((fRowsOf c).map (·.ty)).Nodup := by
  unfold fRowsOf
  split
  · exact nodup1
  · split
    · exact nodup2
    · exact List.nodup_nil
/-- The reference's look-up is the program's. -/
theorem rAt_eq (c t : Int) : rAt c t = fAt c t := by
  unfold rAt fAt fFindIn
  rw [find_rev _ _ (fRowsOf_nodup c)]
  by_cases h : c = 1 ∨ c = 2
  · rw [find_class c t h]
    cases (fRowsOf c).find? (fun r => r.ty == t) <;> rfl
  · have hr : fRowsOf c = [] := by unfold fRowsOf; rw [if_neg (by omega), if_neg (by omega)]
    rw [hr]
    have hn : rRows.find? (rIs c t) = none := by
      rw [List.find?_eq_none]
      intro p hp
      have : p.1 = 1 ∨ p.1 = 2 := by
        unfold rRows at hp
        rw [List.mem_append, List.mem_map, List.mem_map] at hp
        rcases hp with ⟨_, _, rfl⟩ | ⟨_, _, rfl⟩ <;> simp
      unfold rIs
      simp
      omega
    rw [hn]
    rfl
theorem fAt_known (c t : Int) : decide ((fAt c t).1 > 0) = fHas c t := by
  unfold fAt fHas fFindIn
  rw [find_rev _ _ (fRowsOf_nodup c)]
  by_cases h : c = 1 ∨ c = 2
  · cases hf : (fRowsOf c).find? (fun r => r.ty == t) with
    | none =>
      rw [List.find?_eq_none] at hf
      have : (fRowsOf c).any (fun r => r.ty == t) = false := by rw [List.any_eq_false]; exact hf
      rw [this]; rfl
    | some r =>
      have : (fRowsOf c).any (fun r => r.ty == t) = true := List.any_eq_true.2 ⟨r, List.mem_of_find?_eq_some hf, by have := List.find?_some hf; exact this⟩
      rw [this]
      rcases h with rfl | rfl <;> rfl
  · have hr : fRowsOf c = [] := by unfold fRowsOf; rw [if_neg (by omega), if_neg (by omega)]
    rw [hr]
    rfl
set_option maxHeartbeats 4000000 in
theorem law5 (c t : Int) (w : World) (h3 : 0 ≤ t) (h4 : t ≤ 65535) : Calls Try.prog 5 #[.int .i64 c, .int .u16 t] w (IsPost (.bool true) w) := by
  obtain ⟨k, r, hkr⟩ : ∃ k r, fAt c t = (k, r) := ⟨_, _, rfl⟩
  obtain ⟨q, hq⟩ : ∃ q, fHas c t = q := ⟨_, rfl⟩
  have hk := fAt_known c t
  rw [hkr, hq] at hk
  simp only at hk
  have o := fun W => of_at c t k r q W h3 h4 hkr hq
  have ro := fun W => rfof_any c t W
  have kn := fun W => fknown_any c t W h3 h4
  simp only [hq] at kn
  have hkr2 := hid hkr
  clear hq hkr
  go_enter Try.func5, Try.ntmps5
  go_wp2_with fail
  refine (awake_any _).mono ?_
  rintro e w1 ⟨rfl, hb⟩
  have B1 := hid hb
  clear hb
  go_wp2_with fail
  refine (o _).mono ?_
  rintro e w2 ⟨rfl, hb⟩
  have B2 := hid (cthen B1.out hb)
  clear hb
  go_wp2_with fail
  refine (ro _).mono ?_
  rintro e w3 ⟨k3, r3, hk3, rfl, hb⟩
  rw [rAt_eq, hkr2.out] at hk3
  obtain ⟨rfl, rfl⟩ := Prod.mk.inj hk3
  have K3 := hid (new_blk hb)
  have B3 := hid (cthen (below_alloc B2.out _) hb)
  have hsz : w2.heap.size < w3.heap.size := by have := hb.size; simp at this; omega
  have s3 := seven K3.out
  clear hb hk3
  cases q
  · have hk0 : decide (0 < k3) = false := hk
    have hk1 : ¬ (0 < k3) := of_decide_eq_false hk
    clear hk
    go_wp2_with fail
    refine (kn _).mono ?_
    rintro e w4 ⟨rfl, hb⟩
    have B4 := hid (cthen (below_alloc B3.out _) hb)
    clear hb
    go_wp2_with fail
    go_ret
    exact ⟨by first | rfl | simp, B4.out⟩
  · have hk0 : decide (0 < k3) = true := hk
    have hk1 : 0 < k3 := of_decide_eq_true hk
    clear hk
    go_wp2_with fail
    refine (kn _).mono ?_
    rintro e w4 ⟨rfl, hb⟩
    have B4 := hid (cthen (below_alloc B3.out _) hb)
    clear hb
    go_wp2_with fail
    go_ret
    exact ⟨by first | rfl | simp, B4.out⟩
#print axioms law5
end Go.Proofs.Ytjgcdjfeglhalaa
