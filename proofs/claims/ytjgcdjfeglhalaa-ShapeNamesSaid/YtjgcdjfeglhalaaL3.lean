import Derived.Test.YtjgcdjfeglhalaaNum
import Derived.Deep.RegionWith
set_option linter.unusedVariables false
namespace Go.Proofs.Ytjgcdjfeglhalaa
open Go.RowKit Go.Proofs.YtjgcdjfeglhalaaW.PrintWords

def RowOk (p : Int × FR) : Prop := 0 ≤ p.2.least ∧ p.2.least ≤ p.2.most ∧ p.2.most ≤ 65531 ∧ 1 ≤ p.2.unit ∧ p.2.unit ≤ 8 ∧ (p.2.kids = 0 ∨ p.2.least = p.2.most)
instance (p : Int × FR) : Decidable (RowOk p) := by unfold RowOk; infer_instance
theorem rows_ok : ∀ p ∈ rRows, RowOk p := by decide
theorem num_ok {n k : Int} {r : FR} (hn : 0 ≤ n) (h : (k, r) = numRow n) : RowOk (k, r) := by
  have hi : (n % 46).toNat < rRows.length := by rw [rRows_len]; omega
  unfold numRow at h
  rw [List.getD_eq_getElem?_getD, List.getElem?_eq_getElem hi] at h
  rw [show (k, r) = rRows[(n % 46).toNat] from h]
  exact rows_ok _ (List.getElem_mem hi)
theorem awake_twice {f : Nat} : True := trivial
set_option maxHeartbeats 4000000 in
theorem law3 (n s : Int) (w : World) (hn2 : n ≤ 9223372036854775807) : Calls Try.prog 3 #[.int .i64 n, .int .i64 s] w (IsPost (.bool true) w) := by
  go_enter Try.func3, Try.ntmps3
  by_cases h0 : n < 0
  · go_wp2_with fail
    refine (awake_any _).mono ?_
    rintro e w1 ⟨rfl, hb⟩
    have B1 := hid hb
    clear hb
    go_wp2_with fail
    refine (awake_any _).mono ?_
    rintro e w2 ⟨rfl, hb⟩
    have B2 := hid (cthen B1.out hb)
    clear hb
    go_wp2_with fail
    go_ret
    exact ⟨rfl, B2.out⟩
  · go_wp2_with fail
    refine (awake_any _).mono ?_
    rintro e w1 ⟨rfl, hb⟩
    have B1 := hid hb
    clear hb
    go_wp2_with fail
    refine (number_any n _ (by omega) hn2).mono ?_
    rintro e w2 ⟨k, r, hkr, rfl, hb⟩
    have B2 := hid (below_alloc (cthen B1.out hb) (.cells #[.int .i64 k, .int .u16 r.ty, .string r.nm, .int .i64 r.least, .int .i64 r.most, .int .i64 r.unit, .int .i64 r.kids] 25))
    obtain ⟨h1, h2, h3, h4, h5, -⟩ := num_ok (by omega) hkr
    have K2 := hid (heap_alloc_new w2 (.cells #[.int .i64 k, .int .u16 r.ty, .string r.nm, .int .i64 r.least, .int .i64 r.most, .int .i64 r.unit, .int .i64 r.kids] 25))
    have s2 := seven K2.out
    clear hb hkr
    go_wp2_with fail
    have F := fun W => fits_any k r.ty r.nm r.least r.most r.unit r.kids s W h1 h3 h4 h5
    have RF := fun W => rfits_any k r.ty r.nm r.least r.most r.unit r.kids s W h1 h3 h4 h5 h2
    obtain ⟨v, hv⟩ : ∃ v, fits r.least r.most r.unit s = v := ⟨_, rfl⟩
    simp only [hv] at F RF
    clear hv h1 h2 h3 h4 h5
    have B2d := hid B2.out.drew
    have K2d : Hid ((w2.alloc (.cells #[.int .i64 k, .int .u16 r.ty, .string r.nm, .int .i64 r.least, .int .i64 r.most, .int .i64 r.unit, .int .i64 r.kids] 25)).drew.heap[w2.heap.size]? = some (.cells #[.int .i64 k, .int .u16 r.ty, .string r.nm, .int .i64 r.least, .int .i64 r.most, .int .i64 r.unit, .int .i64 r.kids] 25 (0, 0))) := K2
    go_region_with (first
      | (go_at_call 10; refine (F _).mono ?_; rintro e w4 ⟨rfl, hb⟩; have K4 := hid (blk_below (b := w2.heap.size) (o := .cells #[.int .i64 k, .int .u16 r.ty, .string r.nm, .int .i64 r.least, .int .i64 r.most, .int .i64 r.unit, .int .i64 r.kids] 25 (0, 0)) (by first | exact K5.out | exact K2d.out) hb); have s4 := seven K4.out; have B4 := hid (cthen (by first | exact B5.out | exact B2d.out) hb); clear hb)
      | (go_at_call 11; refine (RF _).mono ?_; rintro e w5 ⟨rfl, hb⟩; have K5 := hid (blk_below (b := w2.heap.size) (o := .cells #[.int .i64 k, .int .u16 r.ty, .string r.nm, .int .i64 r.least, .int .i64 r.most, .int .i64 r.unit, .int .i64 r.kids] 25 (0, 0)) (by first | exact K4.out | exact K2d.out) hb); have s5 := seven K5.out; have B5 := hid (cthen (by first | exact B4.out | exact B2d.out) hb); clear hb))
    all_goals
      go_wp2_with fail
      go_ret
      exact ⟨by first | rfl | (cases v <;> rfl) | simp, by first | exact B5.out | exact B4.out⟩
#print axioms law3
end Go.Proofs.Ytjgcdjfeglhalaa
