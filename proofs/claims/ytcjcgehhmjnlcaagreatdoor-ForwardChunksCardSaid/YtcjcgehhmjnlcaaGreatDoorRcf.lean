/- The parts of 'wharfref12.Check' in plain words: forms, sizes, reserved numbers; 'wharfref12.Few'. -/
import Derived.Test.YtcjcgehhmjnlcaaGreatDoorRck
import Derived.Test.YtcjcgehhmjnlcaaGreatDoorRtb
set_option linter.unusedVariables false
set_option linter.unusedSimpArgs false
namespace Go.Proofs.YtcjcgehhmjnlcaaGreatDoor
open Go.RowKit Go.Shelf Go.Proofs.YtcjcgehhmjnlcaaGreatDoor.It Go.Proofs.YtcjcgehhmjnlcaaGreatDoorW.PrintWords Go.Proofs.YtcjcgehhmjnlcaaGreatDoorW.PrintLast Go.Proofs.YtcjcgehhmjnlcaaGreatDoorW.PrintMore PForwardChunks
theorem kR_get (i : Nat) (h : i < 23) : kRows[i]? = some (kR i) := by
  unfold kR
  rw [List.getD_eq_getElem?_getD, List.getElem?_eq_getElem (by rw [kRows_len]; exact h)]
  rfl
theorem rof_at (i0 : Nat) (hi0 : i0 < 23) (t : Int) (ht : kT i0 = t) (w : World) : Calls Tryz.prog 70 #[.int .u8 t] w (IsPost (.tuple #[(kR i0).val, .bool true]) w) := by
  refine (rof_any t w).mono ?_
  rintro e w' ⟨r, b, hr, hb, rfl, hw⟩
  have hf : kRows.find? (kIs t) = some (kR i0) := by
    refine NoneOf.found (i := i0) (fun a x hx ha => ?_) (kR_get i0 hi0) (by simp [kIs]; exact ht)
    have : x = kR a := Option.some.inj (hx.symm.trans (kR_get a (by omega)))
    subst this
    have := kT_mono a i0 ha hi0
    simp only [kIs]
    have h2 : (kR a).ty = kT a := rfl
    rw [h2]
    simp
    omega
  rw [hf] at hr hb
  obtain rfl : r = kR i0 := hr
  obtain rfl : b = true := hb
  exact ⟨rfl, hw⟩
theorem rfits_ev (ty : Int) (nm : ByteArray) (mask lo hi un kd n : Int) (h1 : 0 ≤ lo) (h2 : hi ≤ 65531) (h3 : 1 ≤ un) (h4 : un ≤ 8) : ∀ (d : Nat) (x : Int), (hi + 1 - x).toNat ≤ d → lo ≤ x → x ≤ 65539 → (x - lo) % un = 0 →
    Ev (fun k => wharfref11_Fits.l0 k n x ty nm mask lo hi un kd) (decide (n ≥ x) && decide (n ≤ hi) && ((n - lo) % un == 0)) := by
  intro d
  induction d with
  | zero =>
    intro x hd hx hb hm
    refine Ev.step (f := fun _ => some false) (fun k => ?_) (by
      have : (decide (n ≥ x) && decide (n ≤ hi) && ((n - lo) % un == 0)) = false := by
        by_cases h : n ≥ x
        · have : ¬ n ≤ hi := by omega
          simp [this]
        · simp [h]
      rw [this]
      exact Ev.now _)
    simp only [wharfref11_Fits.l0]
    rw [if_neg (by omega)]
  | succ d ih =>
    intro x hd hx hb hm
    by_cases hle : x ≤ hi
    · by_cases he : x = n
      · refine Ev.step (f := fun _ => some true) (fun k => ?_) (by
          have : (decide (n ≥ x) && decide (n ≤ hi) && ((n - lo) % un == 0)) = true := by
            rw [← he]
            simp [hle, hm]
          rw [this]
          exact Ev.now _)
        simp only [wharfref11_Fits.l0]
        rw [if_pos hle, if_pos he]
      · have hw : wrap64 (x + un) = x + un := by unfold wrap64; omega
        have hm2 : (x + un - lo) % un = 0 := by
          rw [show x + un - lo = (x - lo) + un by omega, Int.add_emod_right]
          exact hm
        have hi2 := ih (x + un) (by omega) (by omega) (by omega) hm2
        have heq : (decide (n ≥ x + un) && decide (n ≤ hi) && ((n - lo) % un == 0)) = (decide (n ≥ x) && decide (n ≤ hi) && ((n - lo) % un == 0)) := by
          by_cases hz : (n - lo) % un = 0
          · have hiff : n ≥ x + un ↔ n ≥ x := by
              constructor
              · intro h; omega
              · intro h
                have hdv : un ∣ n - x := by
                  have e1 : (n - x) % un = 0 := by
                    rw [show n - x = (n - lo) - (x - lo) by omega, Int.sub_emod, hz, hm]
                    simp
                  exact Int.dvd_of_emod_eq_zero e1
                have := Int.le_of_dvd (by omega) hdv
                omega
            simp [hz, hiff]
          · have hzf : ((n - lo) % un == 0) = false := by simpa using hz
            rw [hzf]
            simp
        rw [heq] at hi2
        refine Ev.step (fun k => ?_) hi2
        simp only [wharfref11_Fits.l0]
        rw [if_pos hle, if_neg he, hw]
    · refine Ev.step (f := fun _ => some false) (fun k => ?_) (by
        have : (decide (n ≥ x) && decide (n ≤ hi) && ((n - lo) % un == 0)) = false := by
          by_cases h : n ≥ x
          · have : ¬ n ≤ hi := by omega
            simp [this]
          · simp [h]
        rw [this]
        exact Ev.now _)
      simp only [wharfref11_Fits.l0]
      rw [if_neg hle]
theorem rfits_any (r : KR) (hr : r.ok) (n : Int) (w : World) : Calls Tryz.prog 71 #[r.val, .int .i64 n] w (IsPost (.bool (fits r.least r.most r.unit n)) w) := by
  obtain ⟨h1, h2, h3, h4⟩ : 0 ≤ r.least ∧ r.most ≤ 65531 ∧ 1 ≤ r.unit ∧ r.unit ≤ 8 := by unfold KR.ok at hr; omega
  have h5 : r.least ≤ 65539 := by unfold KR.ok at hr; omega
  obtain ⟨k, hk⟩ := (rfits_ev r.ty r.nm r.mask r.least r.most r.unit r.kids n h1 h2 h3 h4 _ r.least (Nat.le_refl _) (Int.le_refl _) h5 (by simp)).rounds
  exact (wharfref11_Fits.calls k r.ty r.nm r.mask r.least r.most r.unit r.kids n _ w hk).mono (fun e w' h => h)
theorem rodd_not (t : Int) (A : Option Addr) (c : Nat) (l : List Int) (w : World) (h1 : t ≠ 64) (h2 : t ≠ 194) (hC : BC w A l) (hc : l.length ≤ c) : Calls Tryz.prog 74 #[.int .u8 t, .slice A l.length c] w (IsPost (.int .i64 (-1)) w) :=
  (wharfref12_odd.calls 5 t A c l (-1) w hC hc (by simp [wharfref12_odd.f, wharfref12_odd.j0, wharfref12_odd.l0, wharfref12_odd.j2, h1, h2])).mono (fun e w' h => ⟨h.1, h.2.below⟩)
theorem rcounted_not (t : Int) (A : Option Addr) (c : Nat) (l : List Int) (w : World) (h1 : t ≠ 3) (hC : BC w A l) (hc : l.length ≤ c) : Calls Tryz.prog 73 #[.int .u8 t, .slice A l.length c] w (IsPost (.bool true) w) :=
  (wharfref12_counted.calls t A c l true w hC hc (by simp [wharfref12_counted.f, h1])).mono (fun e w' h => ⟨h.1, h.2.below⟩)
/-- The number of two bytes. -/
theorem number_f {l : List Int} (hB : ∀ x ∈ l, 0 ≤ x ∧ x ≤ 255) (i : Nat) (hi : i + 2 ≤ l.length) (hl : l.length ≤ 1000000) : wharfref12_number.f l (i : Int) = some (l.getD i 0 * 256 + l.getD (i + 1) 0) := by
  have hb : ∀ j, j < l.length → 0 ≤ l.getD j 0 ∧ l.getD j 0 ≤ 255 := fun j hj => by
    rw [List.getD_eq_getElem?_getD, List.getElem?_eq_getElem hj]
    exact hB _ (List.getElem_mem hj)
  have h0 := hb i (by omega)
  have h1 := hb (i + 1) (by omega)
  have hw : wrap64 ((i : Int) + 1) = ((i + 1 : Nat) : Int) := by unfold wrap64; omega
  have e0 : rd l (i : Int) = l.getD i 0 := by simp [rd]
  have e1 : rd l ((i + 1 : Nat) : Int) = l.getD (i + 1) 0 := by simp [rd]
  unfold wharfref12_number.f
  rw [hw, if_pos (by omega), if_pos (by omega), if_pos (by omega), if_pos (by omega), e0, e1]
  congr 1
  unfold wrap64
  omega
theorem rodd_ev (l : List Int) (q : Nat) (hB : ∀ x ∈ l, 0 ≤ x ∧ x ≤ 255) (hq : l.length = 4 + 8 * q) (hl : l.length ≤ 1000000) : ∀ (d j : Nat), q - j = d → j ≤ q → (∀ i, i < j → ¬ 1 < grp l i) →
    ∃ r, Ev (fun k => wharfref12_odd.l0 k 194 l ((6 + 8 * j : Nat) : Int)) r ∧ (0 ≤ r ↔ gb l q < q) := by
  intro d
  induction d with
  | zero =>
    intro j hd hj hn
    have hjq : j = q := by omega
    subst hjq
    refine ⟨-1, Ev.step (f := fun k => wharfref12_odd.j2 k 194 l ((6 + 8 * j : Nat) : Int) false) (fun k => ?_) (Ev.step (f := fun _ => some (-1)) (fun k => by simp [wharfref12_odd.j2]) (Ev.now _)), ?_⟩
    · simp only [wharfref12_odd.l0]
      rw [if_pos True.intro, decide_eq_false (by omega)]
    · constructor
      · intro h; omega
      · intro h; exact absurd (gb_at l j h) (hn _ h)
  | succ d ih =>
    intro j hd hj hn
    have hjq : j < q := by omega
    have hnum := number_f hB (6 + 8 * j) (by omega) hl
    have hgr : grp l j = l.getD (6 + 8 * j) 0 * 256 + l.getD (6 + 8 * j + 1) 0 := by
      unfold grp
      simp [numAt]
    rw [← hgr] at hnum
    by_cases hg : 1 < grp l j
    · refine ⟨((6 + 8 * j : Nat) : Int), Ev.step (f := fun k => wharfref12_odd.j2 k 194 l ((6 + 8 * j : Nat) : Int) true) (fun k => ?_) (Ev.step (f := fun _ => some ((6 + 8 * j : Nat) : Int)) (fun k => ?_) (Ev.now _)), ?_⟩
      · simp only [wharfref12_odd.l0]
        rw [if_pos True.intro, decide_eq_true (by omega)]
      · simp only [wharfref12_odd.j2]
        rw [if_pos True.intro, hnum, Option.bind_some, if_pos hg]
      · constructor
        · intro _
          apply Classical.byContradiction
          intro hge
          have hgb := gb_le l q
          exact gb_lt l q j (by omega) hg
        · intro _; omega
    · obtain ⟨r, hr, hiff⟩ := ih (j + 1) (by omega) (by omega) (fun i hi => by
        rcases Nat.lt_or_ge i j with h | h
        · exact hn i h
        · rw [show i = j by omega]; exact hg)
      have hw : wrap64 (((6 + 8 * j : Nat) : Int) + 8) = ((6 + 8 * (j + 1) : Nat) : Int) := by unfold wrap64; omega
      refine ⟨r, Ev.step (f := fun k => wharfref12_odd.j2 k 194 l ((6 + 8 * j : Nat) : Int) true) (fun k => ?_) (Ev.step (fun k => ?_) hr), hiff⟩
      · simp only [wharfref12_odd.l0]
        rw [if_pos True.intro, decide_eq_true (by omega)]
      · simp only [wharfref12_odd.j2]
        rw [if_pos True.intro, hnum, Option.bind_some, if_neg hg, hw]
theorem rodd_194 (A : Option Addr) (c : Nat) (l : List Int) (q : Nat) (hB : ∀ x ∈ l, 0 ≤ x ∧ x ≤ 255) (hq : l.length = 4 + 8 * q) (hl : l.length ≤ 1000000) (hc : l.length ≤ c) : ∃ r : Int, (0 ≤ r ↔ gb l q < q) ∧ ∀ w, BC w A l → Calls Tryz.prog 74 #[.int .u8 194, .slice A l.length c] w (IsPost (.int .i64 r) w) := by
  obtain ⟨r, hr, hiff⟩ := rodd_ev l q hB hq hl q 0 (by omega) (by omega) (fun i hi => by omega)
  obtain ⟨k, hk⟩ := hr.rounds
  refine ⟨r, hiff, fun w hC => (wharfref12_odd.calls (k + 1) 194 A c l r w hC hc ?_).mono (fun e w' h => ⟨h.1, h.2.below⟩)⟩
  simpa [wharfref12_odd.f, wharfref12_odd.j0] using hk
theorem and255 : ∀ m : Nat, m < 256 → bits .and .i64 (m : Int) 255 = (m : Int) := by decide +kernel
theorem and255_ne {f : Int} (h0 : 0 ≤ f) (h1 : f ≤ 255) : (bits .and .i64 f 255 != 0) = decide (f ≠ 0) := by
  obtain ⟨m, rfl⟩ := Int.eq_ofNat_of_zero_le h0
  rw [and255 m (by omega)]
  rw [Bool.eq_iff_iff]
  simp
theorem andNot0 : ∀ m : Nat, m < 256 → bits .andNot .u8 (m : Int) 0 = (m : Int) := by decide +kernel
theorem flagsE_0 {f : Int} (h0 : 0 ≤ f) (h1 : f ≤ 255) : flagsE f 0 = none ↔ f = 0 := by
  obtain ⟨m, rfl⟩ := Int.eq_ofNat_of_zero_le h0
  unfold flagsE badFlags
  rw [andNot0 m (by omega)]
  by_cases h : (m : Int) = 0
  · simp [h]
  · simp [h]
/-! ### 'wharfref12.Few' -/
/-- The nodes of a tree are such as memory can hold (to a depth). -/
def sm : Nat → S114 → Prop
  | 0, _ => True
  | d + 1, x => x.f1.length ≤ 9223372036854775807 ∧ x.f2.length ≤ 9223372036854775807 ∧ ∀ y ∈ x.f2, sm d y
theorem sm_row {w : World} {A : Option Addr} {n : Nat} {xs : List S114} (h : Kd.C k114 w A n xs) (d : Nat) (hd : ∀ x cs, k114.K w x cs → sm d x) : ∀ y ∈ xs, sm d y := by
  intro y hy
  obtain ⟨i, hi, rfl⟩ := List.getElem_of_mem hy
  have hn : 0 < n := by have := h.1; omega
  obtain ⟨ad, -, hc⟩ := h.2.2 hn
  obtain ⟨c, -, hk, -⟩ := hc i _ (List.getElem?_eq_getElem hi)
  exact hd _ _ hk
theorem sm_of {w : World} : ∀ (d : Nat) (x : S114) (cs : List Value), k114.K w x cs → sm d x
  | 0, _, _, _ => trivial
  | d + 1, x, cs, h => by
    obtain ⟨A1, c1, A2, c2, -, -, g1, -, g2⟩ := k114_open h
    exact ⟨g1.2.1, g2.2.1, sm_row g2 d (sm_of d)⟩
theorem count_ev : ∀ (m : Nat) (a : Int) (l : List S114), 0 ≤ a → a ≤ 21 → (21 - a).toNat = m → l.length ≤ 9223372036854775807 → (∀ y ∈ l, sm m y) → ∃ r : Int, 0 ≤ r ∧ r ≤ 1000 + m * 10000000000000000 ∧ (r < 1000 → (l.length : Int) ≤ r) ∧ Ev (fun k => wharfref08_Count.f k l a) r := by
  intro m
  induction m with
  | zero =>
    intro a l h0 h1 hm hl hs
    refine ⟨1000, by omega, by omega, by omega, Ev.step (f := fun _ => some 1000) (fun k => ?_) (Ev.now _)⟩
    simp only [wharfref08_Count.f]
    rw [if_pos (by omega)]
  | succ m ih =>
    intro a l h0 h1 hm hl hs
    have loop : ∀ (d i : Nat) (x : Int), l.length - i = d → i ≤ l.length → 0 ≤ x → x ≤ 1000 + (m + 1) * 10000000000000000 → (x ≤ 999 ∨ 1000 ≤ x) → ∃ r : Int, 0 ≤ r ∧ r ≤ 1000 + (m + 1) * 10000000000000000 ∧ (r < 1000 → x + ((l.length - i : Nat) : Int) ≤ r) ∧ Ev (fun k => wharfref08_Count.l0 k l a x (i : Int)) r := by
      intro d
      induction d with
      | zero =>
        intro i x hd hi hx0 hx1 _
        refine ⟨x, hx0, hx1, by omega, Ev.step (f := fun _ => some x) (fun k => ?_) (Ev.now _)⟩
        simp only [wharfref08_Count.l0]
        rw [if_neg (by omega)]
      | succ d ihd =>
        intro i x hd hi hx0 hx1 hx
        have hil : i < l.length := by omega
        by_cases hlt : x < 1000
        · have hy := hs _ (List.getElem_mem hil)
          have hrd : rd_T114 l (i : Int) = l[i] := by
            unfold rd_T114
            simp [List.getD_eq_getElem?_getD, List.getElem?_eq_getElem hil]
          obtain ⟨hy1, hy2, hy3⟩ := hy
          obtain ⟨r1, hr0, hr1, -, hr⟩ := ih (a + 1) l[i].f2 (by omega) (by omega) (by omega) hy2 hy3
          have hm20 : m ≤ 20 := by omega
          have hdiv : 0 ≤ (l[i].f1.length : Int) / 1000 ∧ (l[i].f1.length : Int) / 1000 ≤ 9223372036854776 := by omega
          obtain ⟨D, hD⟩ : ∃ D : Int, D = (l[i].f1.length : Int) / 1000 := ⟨_, rfl⟩
          rw [← hD] at hdiv
          have hmm : (m : Int) * 10000000000000000 ≤ 200000000000000000 := by omega
          obtain ⟨r, hq0, hq1, hq2, hq⟩ := ihd (i + 1) (x + 1 + D + r1) (by omega) (by omega) (by omega) (by omega) (by omega)
          have hql : r < 1000 → x + ((l.length - i : Nat) : Int) ≤ r := fun h => by have := hq2 h; omega
          have hc1 : (i : Int) < (l.length : Int) := by omega
          have hc2 : (0 : Int) ≤ (i : Int) := by omega
          have ha := hid (show wrap64 (a + 1) = a + 1 by unfold wrap64; omega)
          have hi1 := hid (show wrap64 ((i : Int) + 1) = ((i + 1 : Nat) : Int) by unfold wrap64; omega)
          have hwr : wrap64 (wrap64 (wrap64 (x + 1) + wrap64 D) + r1) = x + 1 + D + r1 := by
            have e1 : wrap64 (x + 1) = x + 1 := by unfold wrap64; omega
            have e2 : wrap64 D = D := by unfold wrap64; omega
            rw [e1, e2]
            clear e1 e2
            have e3 : wrap64 (x + 1 + D) = x + 1 + D := by unfold wrap64; omega
            rw [e3]
            clear e3
            unfold wrap64
            omega
          rw [← hwr] at hq
          refine ⟨r, hq0, hq1, hql, Ev.step (fun k => ?_) (Ev.bind (f := fun k t => wharfref08_Count.l0 k l a (wrap64 (wrap64 (wrap64 (x + 1) + wrap64 D) + t)) ((i + 1 : Nat) : Int)) hr hq)⟩
          simp only [wharfref08_Count.l0]
          rw [if_pos hc1, if_pos hlt, if_pos hc2, hrd, ha.out, hi1.out, ← hD]
        · refine ⟨x, hx0, hx1, fun h => absurd h hlt, Ev.step (f := fun _ => some x) (fun k => ?_) (Ev.now _)⟩
          simp only [wharfref08_Count.l0]
          rw [if_pos (by omega), if_neg hlt]
    obtain ⟨r, hr0, hr1, hr2, hr⟩ := loop l.length 0 0 (by omega) (by omega) (by omega) (by omega) (by omega)
    refine ⟨r, hr0, by omega, fun h => by have := hr2 h; omega, Ev.step (fun k => ?_) hr⟩
    simp only [wharfref08_Count.f]
    rw [if_neg (by omega)]
    rfl
theorem few_any (t f : Int) (A K : Option Addr) (c d : Nat) (l : List Int) (xs : List S114) (w : World) (hC : BC w A l) (hc : l.length ≤ c) (hK : Kd.C k114 w K xs.length xs) (hd : xs.length ≤ d) :
    Calls Tryz.prog 30 #[ckV t f A l.length c K xs.length d] w (fun e w' => ∃ b : Bool, e = .returned (.bool b) ∧ (b = true → l.length ≤ 70000 ∧ xs.length ≤ 200) ∧ Below w.heap.size w w') := by
  obtain ⟨r, -, -, hrl, hr⟩ := count_ev 21 0 xs (by omega) (by omega) rfl hK.2.1 (sm_row hK 21 (sm_of 21))
  obtain ⟨k, hk⟩ := hr.rounds
  by_cases hn : (l.length : Int) ≤ 70000
  · refine (wharfref12_Few.calls k t f A c l K d xs (decide (r ≤ 200)) w hC hc hK hd (by simp [wharfref12_Few.f, wharfref08_Few.f, hk, hn])).mono ?_
    rintro e w' ⟨rfl, hb⟩
    exact ⟨_, rfl, fun h => ⟨by omega, by have h1 := of_decide_eq_true h; have := hrl (by omega); omega⟩, hb⟩
  · refine (wharfref12_Few.calls k t f A c l K d xs false w hC hc hK hd (by simp [wharfref12_Few.f, hn])).mono ?_
    rintro e w' ⟨rfl, hb⟩
    exact ⟨_, rfl, fun h => by simp at h, hb⟩
end Go.Proofs.YtcjcgehhmjnlcaaGreatDoor
