import Derived.Test.YtjgcdjfeglhalaaL3
set_option linter.unusedVariables false
namespace Go.Proofs.Ytjgcdjfeglhalaa
open Go.RowKit Go.Proofs.YtjgcdjfeglhalaaW.PrintWords

theorem inside_at (k a b c : Int) (w : World) (h : inside k = (a, b, c)) : Calls Try.prog 12 #[.int .i64 k] w (IsPost (.tuple #[.int .i64 a, .int .i64 b, .int .i64 c]) w) := by
  have := inside_any k w
  rw [h] at this
  exact this
set_option maxHeartbeats 4000000 in
theorem law4_known (k n a b c : Int) (w : World) (hk : inside k = (a, b, c)) (h : (k = 1 ∧ a = 1 ∧ b = 1 ∧ c = 1) ∨ (k = 4 ∧ a = 1 ∧ b = 1 ∧ c = 1) ∨ (k = 2 ∧ a = 1 ∧ b = 1 ∧ c = 16384) ∨ (k = 3 ∧ a = 2 ∧ b = 1 ∧ c = 16384)) (h0 : ¬ n < 0) : Calls Try.prog 4 #[.int .i64 k, .int .i64 n] w (IsPost (.bool true) w) := by
  rcases h with ⟨rfl, rfl, rfl, rfl⟩ | ⟨rfl, rfl, rfl, rfl⟩ | ⟨rfl, rfl, rfl, rfl⟩ | ⟨rfl, rfl, rfl, rfl⟩
  all_goals
    go_enter Try.func4, Try.ntmps4
    go_wp2_with fail
    refine (awake_any _).mono ?_
    rintro e w1 ⟨rfl, hb⟩
    have B1 := hid hb
    clear hb
    go_wp2_with fail
    refine (inside_at _ _ _ _ _ hk).mono ?_
    rintro e w2 ⟨rfl, hb⟩
    have B2 := hid (cthen B1.out hb)
    clear hb hk
    go_wp2_with fail
    go_ret
    exact ⟨rfl, B2.out⟩
set_option maxHeartbeats 4000000 in
theorem law4_neg (k n : Int) (w : World) (h0 : n < 0) : Calls Try.prog 4 #[.int .i64 k, .int .i64 n] w (IsPost (.bool true) w) := by
  go_enter Try.func4, Try.ntmps4
  go_wp2_with fail
  refine (awake_any _).mono ?_
  rintro e w1 ⟨rfl, hb⟩
  have B1 := hid hb
  clear hb
  go_wp2_with fail
  refine (awake_any _).mono ?_
  rintro e w2 ⟨rfl, hb⟩
  have B2 := hid (cthen B1.out hb)
  clear hb
  go_wp2_with fail
  go_ret
  exact ⟨rfl, B2.out⟩
set_option maxHeartbeats 4000000 in
theorem law4_other (k n : Int) (w : World) (h : ¬ (k = 1 ∨ k = 2 ∨ k = 3 ∨ k = 4)) (h0 : ¬ n < 0) (hn2 : n ≤ 9223372036854775807) : Calls Try.prog 4 #[.int .i64 k, .int .i64 n] w (IsPost (.bool true) w) := by
  have hin : inside k = (0, 0, 0) := by unfold inside; rw [if_neg (by omega), if_neg (by omega), if_neg (by omega)]
  have h1 : (k == 1) = false := by simp; omega
  have h2 : (k == 2) = false := by simp; omega
  have h3 : (k == 3) = false := by simp; omega
  have h4 : (k == 4) = false := by simp; omega
  go_enter Try.func4, Try.ntmps4
  go_wp2_with fail
  refine (awake_any _).mono ?_
  rintro e w1 ⟨rfl, hb⟩
  have B1 := hid hb
  clear hb
  go_wp2_with fail
  refine (inside_at _ _ _ _ _ hin).mono ?_
  rintro e w2 ⟨rfl, hb⟩
  have B2 := hid (cthen B1.out hb)
  clear hb hin
  go_wp2_with fail
  refine (number_any n _ (by omega) hn2).mono ?_
  rintro e w3 ⟨kk, r, hkr, rfl, hb⟩
  have B3 := hid (cthen B2.out hb)
  obtain ⟨-, -, -, -, -, hf⟩ := num_ok (by omega) hkr
  have hf2 : r.kids = 0 ∨ (¬ r.kids = 0 ∧ r.least = r.most) := by
    simp only at hf
    omega
  clear hb hkr hf
  rcases hf2 with hz | ⟨hz, hlm⟩
  · have hzb : (r.kids == 0) = true := by simp [hz]
    go_wp2_with fail
    go_ret
    exact ⟨by first | rfl | simp, below_alloc B3.out _⟩
  · have hzb : (r.kids == 0) = false := by simp [hz]
    have hlb : (r.least == r.most) = true := by simp [hlm]
    go_wp2_with fail
    go_ret
    exact ⟨by first | rfl | simp, below_alloc B3.out _⟩
theorem law4 (k n : Int) (w : World) (hn2 : n ≤ 9223372036854775807) : Calls Try.prog 4 #[.int .i64 k, .int .i64 n] w (IsPost (.bool true) w) := by
  by_cases h0 : n < 0
  · exact law4_neg k n w h0
  · by_cases h : k = 1 ∨ k = 2 ∨ k = 3 ∨ k = 4
    · rcases h with rfl | rfl | rfl | rfl
      · exact law4_known 1 n 1 1 1 w rfl (by simp) h0
      · exact law4_known 2 n 1 1 16384 w rfl (by simp) h0
      · exact law4_known 3 n 2 1 16384 w rfl (by simp) h0
      · exact law4_known 4 n 1 1 1 w rfl (by simp) h0
    · exact law4_other k n w h h0 hn2
#print axioms law4
end Go.Proofs.Ytjgcdjfeglhalaa
