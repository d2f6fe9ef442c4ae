import Derived.Test.YtjgcdjfeglhalaaMore
set_option linter.unusedVariables false
namespace Go.Proofs.Ytjgcdjfeglhalaa
open Go.RowKit Go.Proofs.YtjgcdjfeglhalaaW.PrintWords

/-- Whether a number of bytes fits. -/
def fits (lo hi un n : Int) : Bool := decide (n ≥ lo) && decide (n ≤ hi) && ((n - lo) % un == 0)
set_option maxHeartbeats 1000000 in
theorem fits_any (k t : Int) (nm : ByteArray) (lo hi un kd n : Int) (w : World) (h1 : 0 ≤ lo) (h2 : hi ≤ 65531) (h3 : 1 ≤ un) (h4 : un ≤ 8) :
    Calls Try.prog 10 #[.agg #[.int .i64 k, .int .u16 t, .string nm, .int .i64 lo, .int .i64 hi, .int .i64 un, .int .i64 kd], .int .i64 n] w (IsPost (.bool (fits lo hi un n)) w) := by
  go_enter Try.func10, Try.ntmps10
  by_cases c1 : n ≥ lo
  · by_cases c2 : n ≤ hi
    · have hr : 0 ≤ n - lo ∧ n - lo < 65532 := by omega
      have E : fits lo hi un n = ((n - lo) % un == 0) := by unfold fits; simp [c1, c2]
      go_wp2_with fail
      go_ret
      exact ⟨by first | rfl | (rw [E]; rfl), by repeat (first | with_reducible exact Below.refl _ _ | with_reducible apply below_alloc)⟩
    · have E : fits lo hi un n = false := by unfold fits; simp [c2]
      go_wp2_with fail
      go_ret
      exact ⟨by first | rfl | (rw [E]; rfl), by repeat (first | with_reducible exact Below.refl _ _ | with_reducible apply below_alloc)⟩
  · have E : fits lo hi un n = false := by unfold fits; simp [c1]
    go_wp2_with fail
    go_ret
    exact ⟨by first | rfl | (rw [E]; rfl), by repeat (first | with_reducible exact Below.refl _ _ | with_reducible apply below_alloc)⟩

/-- What a form has inside. -/
def inside (k : Int) : Int × Int × Int := if k = 1 ∨ k = 4 then (1, 1, 1) else if k = 2 then (1, 1, 16384) else if k = 3 then (2, 1, 16384) else (0, 0, 0)
set_option maxHeartbeats 1000000 in
theorem inside_any (k : Int) (w : World) : Calls Try.prog 12 #[.int .i64 k] w (IsPost (.tuple #[.int .i64 (inside k).1, .int .i64 (inside k).2.1, .int .i64 (inside k).2.2]) w) := by
  by_cases h : k = 1 ∨ k = 2 ∨ k = 3 ∨ k = 4
  · rcases h with rfl | rfl | rfl | rfl
    all_goals
      go_enter Try.func12, Try.ntmps12
      go_wp2_with fail
      go_ret3
      exact ⟨rfl, Below.refl _ _⟩
  · have E : inside k = (0, 0, 0) := by unfold inside; rw [if_neg (by omega), if_neg (by omega), if_neg (by omega)]
    rw [E]
    have h1 : (k == 1) = false := by simp; omega
    have h2 : (k == 2) = false := by simp; omega
    have h3 : (k == 3) = false := by simp; omega
    have h4 : (k == 4) = false := by simp; omega
    go_enter Try.func12, Try.ntmps12
    go_wp2_with fail
    go_ret3
    exact ⟨rfl, Below.refl _ _⟩

theorem asc_length {L M : List Int} (hL : Srt.Asc L) (hM : M.Nodup) (h : ∀ x, x ∈ L ↔ x ∈ M) : L.length = M.length := by
  have hn : L.Nodup := List.Pairwise.imp (fun hab => by omega) hL
  exact (List.Perm.length_eq ((List.perm_ext_iff_of_nodup hn hM).2 h))
theorem types_len (c : Int) (k : Nat) (hk : (fTys c).Nodup ∧ (fTys c).length = k) (w : World) : Calls Try.prog 20 #[.int .i64 c] w fun e w' => ∃ A cp, e = .returned (.slice A k cp) ∧ Below w.heap.size w w' := by
  refine (types_any c w).mono ?_
  rintro e w' ⟨v, L, rfl, hA, hm, hrow, hb⟩
  have hl : L.length = k := by rw [asc_length hA hk.1 hm, hk.2]
  rcases hrow.2 with ⟨rfl, h0⟩ | ⟨g, cap, cur, rfl, _⟩
  · exact ⟨none, 0, by rw [show k = 0 by omega], hb⟩
  · exact ⟨_, cap, by rw [← hl], hb⟩
theorem of_at (c t k : Int) (r : FR) (b : Bool) (w : World) (h3 : 0 ≤ t) (h4 : t ≤ 65535) (hv : fAt c t = (k, r)) (hb : fHas c t = b) :
    Calls Try.prog 13 #[.int .i64 c, .int .u16 t] w (IsPost (.tuple #[.agg #[.int .i64 k, .int .u16 r.ty, .string r.nm, .int .i64 r.least, .int .i64 r.most, .int .i64 r.unit, .int .i64 r.kids], .bool b]) w) :=
  (fof_any c t w h3 h4 (forms_any c _)).mono fun e w' ⟨k', r', b', hk, hb', he, hw⟩ => by
    rw [hv] at hk
    obtain ⟨rfl, rfl⟩ := Prod.mk.inj hk
    rw [hb] at hb'
    subst hb'
    exact ⟨he, hw⟩

theorem fits_at (k t : Int) (nm : ByteArray) (lo hi un kd n : Int) (r : Bool) (w : World) (h1 : 0 ≤ lo) (h2 : hi ≤ 65531) (h3 : 1 ≤ un) (h4 : un ≤ 8) (h5 : fits lo hi un n = r) :
    Calls Try.prog 10 #[.agg #[.int .i64 k, .int .u16 t, .string nm, .int .i64 lo, .int .i64 hi, .int .i64 un, .int .i64 kd], .int .i64 n] w (IsPost (.bool r) w) := h5 ▸ fits_any k t nm lo hi un kd n w h1 h2 h3 h4
theorem inside_three (w : World) : Calls Try.prog 12 #[.int .i64 3] w (IsPost (.tuple #[.int .i64 2, .int .i64 1, .int .i64 16384]) w) := inside_any 3 w
theorem blk_below {w w' : World} {b : Nat} {o : Obj} (h : w.heap[b]? = some o) (hb : Below w.heap.size w w') : w'.heap[b]? = some o := (hb.block b (Array.getElem?_eq_some_iff.1 h).1).trans h
theorem blk_alloc {w : World} {b : Nat} {o x : Obj} (h : w.heap[b]? = some o) : (w.alloc x).heap[b]? = some o := (Below.heap_alloc _ _ _ (Array.getElem?_eq_some_iff.1 h).1).trans h
set_option maxHeartbeats 4000000 in
theorem awake_any (w : World) : Calls Try.prog 8 #[] w (IsPost (.bool true) w) := by
  have t1 := fun w => types_len 1 27 (by decide) w
  have t2 := fun w => types_len 2 19 (by decide) w
  have t0 := fun w => types_len 0 0 (by decide) w
  go_enter Try.func8, Try.ntmps8
  go_wp2_with fail
  refine (of_at 1 16 1 ⟨16, ⟨#[114, 101, 99, 111, 110, 102, 105, 103, 45, 114, 101, 115, 112, 111, 110, 115, 101]⟩, 8, 16, 8, 0⟩ true _ (by decide) (by decide) (by rfl) (by rfl)).mono ?_
  rintro e w1 ⟨rfl, hb⟩
  have B1 := hid hb
  clear hb
  go_wp2_with fail
  refine (of_at 1 2 0 fZ false _ (by decide) (by decide) (by rfl) (by rfl)).mono ?_
  rintro e w2 ⟨rfl, hb⟩
  have K2 := hid (new_blk hb)
  have B2 := hid (cthen (below_alloc B1.out _) hb)
  clear hb
  go_wp2_with fail
  refine (inside_three _).mono ?_
  rintro e w3 ⟨rfl, hb⟩
  have K3 := hid (blk_below (blk_alloc K2.out) hb)
  have B3 := hid (cthen (below_alloc B2.out _) hb)
  have s3 := seven K3.out
  clear hb K2
  go_wp2_with fail
  refine (fits_at 1 16 _ 8 16 8 0 8 true _ (by decide) (by decide) (by decide) (by decide) (by decide)).mono ?_
  rintro e w4 ⟨rfl, hb⟩
  have B4 := hid (cthen B3.out hb)
  have K4 := hid (blk_below K3.out hb)
  have s4 := seven K4.out
  clear hb s3 K3
  go_wp2_with fail
  refine (fits_at 1 16 _ 8 16 8 0 16 true _ (by decide) (by decide) (by decide) (by decide) (by decide)).mono ?_
  rintro e w5 ⟨rfl, hb⟩
  have B5 := hid (cthen B4.out hb)
  have K5 := hid (blk_below K4.out hb)
  have s5 := seven K5.out
  clear hb s4 K4
  go_wp2_with fail
  refine (fits_at 1 16 _ 8 16 8 0 12 false _ (by decide) (by decide) (by decide) (by decide) (by decide)).mono ?_
  rintro e w6 ⟨rfl, hb⟩
  have B6 := hid (cthen B5.out hb)
  have K6 := hid (blk_below K5.out hb)
  have s6 := seven K6.out
  clear hb s5 K5
  go_wp2_with fail
  refine (t1 _).mono ?_
  rintro e w7 ⟨A1, c1, rfl, hb⟩
  have B7 := hid (cthen B6.out hb)
  clear hb
  go_wp2_with fail
  refine (t2 _).mono ?_
  rintro e w8 ⟨A2, c2, rfl, hb⟩
  have B8 := hid (cthen B7.out hb)
  clear hb
  go_wp2_with fail
  refine (t0 _).mono ?_
  rintro e w9 ⟨A3, c3, rfl, hb⟩
  have B9 := hid (cthen B8.out hb)
  clear hb
  go_wp2_with fail
  go_ret
  exact ⟨rfl, B9.out⟩
#print axioms awake_any
end Go.Proofs.Ytjgcdjfeglhalaa
