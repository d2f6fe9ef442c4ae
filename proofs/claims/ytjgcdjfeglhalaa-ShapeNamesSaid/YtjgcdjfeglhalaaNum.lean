import Derived.Test.YtjgcdjfeglhalaaRef
set_option linter.unusedVariables false
namespace Go.Proofs.Ytjgcdjfeglhalaa
open Go.RowKit Go.Proofs.YtjgcdjfeglhalaaW.PrintWords

def intOf : Value → Int | .int _ q => q | _ => 0
/-- The reference's form with a number. -/
def numRow (n : Int) : Int × FR := rRows.getD ((n % 46).toNat) (0, fZ)
def NumPost (n : Int) (w : World) (e : Ending) (w' : World) : Prop := ∃ (k : Int) (r : FR), (k, r) = numRow n ∧ e = .returned (.agg #[.int .i64 k, .int .u16 r.ty, .string r.nm, .int .i64 r.least, .int .i64 r.most, .int .i64 r.unit, .int .i64 r.kids]) ∧ Below w.heap.size w w'
set_option maxHeartbeats 1000000 in
theorem number_any (n : Int) (w : World) (hn : 0 ≤ n) (hn2 : n ≤ 9223372036854775807) : Calls Try.prog 9 #[.int .i64 n] w (NumPost n w) := by
  obtain ⟨i, hi⟩ : ∃ i : Nat, n % 46 = (i : Int) := ⟨(n % 46).toNat, by omega⟩
  have hi46 : i < 46 := by omega
  have hi2 : ((i : Int) + 46) % 46 = (i : Int) := by omega
  obtain ⟨k, r, hr⟩ : ∃ k r, rRows[i]? = some (k, r) := ⟨_, _, List.getElem?_eq_getElem (by rw [rRows_len]; exact hi46)⟩
  have hnr : Hid ((k, r) = numRow n) := hid (by unfold numRow; rw [hi, Int.toNat_natCast, List.getD_eq_getElem?_getD, hr]; rfl)
  go_enter Try.func9, Try.ntmps9
  go_wp2_with fail
  refine (rtab_any _).mono ?_
  rintro e w1 ⟨b, hb0, rfl, hc, hB⟩
  have HC := hid hc
  have s7 := seven (new_blk hB)
  have hsz : w.heap.size < w1.heap.size := by have := hB.size; simp at this; omega
  have HB := hid (((Below.refl w.heap.size w).alloc (Nat.le_refl _) _).trans (hB.mono (by simp)))
  clear hB hc
  have cs := rrow_at HC.out i k r hr
  clear hr
  go_wp2_with fail
  refine bodyPost_ret (v := .agg #[.int .i64 k, .int .u16 r.ty, .string r.nm, .int .i64 r.least, .int .i64 r.most, .int .i64 r.unit, .int .i64 r.kids]) (by simp [results, Try.results9, go_sem, s7]) rfl ⟨k, r, hnr.out, rfl, ?_⟩
  repeat (first | with_reducible exact HB.out | with_reducible apply below_alloc | with_reducible apply below_set0)

theorem fit_next {lo hi un n k : Int} (h3 : 1 ≤ un) (hk : (k - lo) % un = 0) (hf : fits lo hi un n = true → k ≤ n) (hne : ¬ k = n) : ((k + un) - lo) % un = 0 ∧ (fits lo hi un n = true → k + un ≤ n) := by
  refine ⟨by rw [show k + un - lo = (k - lo) + un by omega, Int.add_emod_right]; exact hk, fun h => ?_⟩
  have h1 := hf h
  have h2 : (n - lo) % un = 0 := by unfold fits at h; simp at h; exact h.2
  have h4 : un ∣ (n - k) := by
    have e : n - k = (n - lo) - (k - lo) := by omega
    rw [e]
    exact Int.dvd_sub (Int.dvd_of_emod_eq_zero h2) (Int.dvd_of_emod_eq_zero hk)
  have h5 := Int.le_of_dvd (by omega) h4
  omega
set_option maxHeartbeats 1000000 in
theorem rfits_any (k t : Int) (nm : ByteArray) (lo hi un kd n : Int) (w : World) (h1 : 0 ≤ lo) (h2 : hi ≤ 65531) (h3 : 1 ≤ un) (h4 : un ≤ 8) (hlh : lo ≤ hi) :
    Calls Try.prog 11 #[.agg #[.int .i64 k, .int .u16 t, .string nm, .int .i64 lo, .int .i64 hi, .int .i64 un, .int .i64 kd], .int .i64 n] w (IsPost (.bool (fits lo hi un n)) w) := by
  go_enter Try.func11, Try.ntmps11
  go_wp2_with fail
  have s7 := seven (heap_alloc_new w (.cells #[.int .i64 k, .int .u16 t, .string nm, .int .i64 lo, .int .i64 hi, .int .i64 un, .int .i64 kd] 25))
  go_loop [5] (fun v => ∃ q : Int, v = .int .i64 q ∧ lo ≤ q ∧ q ≤ hi + un ∧ Hid ((q - lo) % un = 0 ∧ (fits lo hi un n = true → q ≤ n))) (fun v => (hi + un - intOf v).toNat)
  case atStart => exact ⟨lo, rfl, by omega, by omega, hid ⟨by simp, fun h => by unfold fits at h; simp at h; exact h.1.1⟩⟩
  case round =>
    obtain ⟨q, rfl, hq1, hq2, hF⟩ := hrel
    by_cases hle : q ≤ hi
    · by_cases he : q = n
      · subst he
        have E : fits lo hi un q = true := by unfold fits; simp [hq1, hle, hF.out.1]
        go_wp2_with fail
        go_ret
        exact ⟨by first | rfl | (rw [E]; rfl), by repeat (first | with_reducible exact Below.refl _ _ | with_reducible apply below_alloc)⟩
      · have hN := hid (fit_next h3 hF.out.1 hF.out.2 he)
        have heb : (q == n) = false := by simp [he]
        go_wp2_with fail
        go_round
        case rel => exact ⟨q + un, by first | rfl | go_num, by omega, by omega, hN⟩
        case measure => simp [intOf]; omega
    · have E : fits lo hi un n = false := by
        cases hc : fits lo hi un n
        · rfl
        · have a := hF.out.2 hc
          unfold fits at hc
          simp at hc
          omega
      have hlez : ¬ (q ≤ hi) := hle
      go_wp2_with fail
      go_ret
      exact ⟨by first | rfl | (rw [E]; rfl), by repeat (first | with_reducible exact Below.refl _ _ | with_reducible apply below_alloc)⟩
#print axioms rfits_any
end Go.Proofs.Ytjgcdjfeglhalaa
