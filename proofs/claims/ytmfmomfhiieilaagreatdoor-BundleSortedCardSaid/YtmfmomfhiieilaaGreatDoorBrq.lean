/- The parts of the reference implementation's checks: sizes that fit, nodes that are wanted, numbers. -/
import Derived.Test.YtmfmomfhiieilaaGreatDoorBch
import Derived.Test.YtmfmomfhiieilaaGreatDoorBqp
set_option linter.unusedVariables false
set_option linter.unusedSimpArgs false
namespace Go.Proofs.YtmfmomfhiieilaaGreatDoor
open Go.RowKit Go.Shelf Go.Proofs.YtmfmomfhiieilaaGreatDoor.It Go.Proofs.YtmfmomfhiieilaaGreatDoorW.PrintWords Go.Proofs.YtmfmomfhiieilaaGreatDoorW.PrintLast Go.Proofs.YtmfmomfhiieilaaGreatDoorW.PrintMore
namespace Bn
open PBundleSorted
theorem peek_2 {D : List Int} {i : Nat} {a b : Int} (hi : i + 2 ≤ D.length) (h0 : D.getD i 0 = a) (h1 : D.getD (i + 1) 0 = b) : peekV 2 D i = a * 256 + b := by
  unfold peekV
  rw [if_pos (by omega)]
  simp only [numAt, Nat.add_zero, h0, h1]
  omega
theorem peek_4 {D : List Int} {i : Nat} {a b c d : Int} (hi : i + 4 ≤ D.length) (h0 : D.getD i 0 = a) (h1 : D.getD (i + 1) 0 = b) (h2 : D.getD (i + 2) 0 = c) (h3 : D.getD (i + 3) 0 = d) : peekV 4 D i = a * 16777216 + b * 65536 + c * 256 + d := by
  unfold peekV
  rw [if_pos (by omega)]
  simp only [numAt, Nat.add_zero, h0, h1, h2, h3]
  omega
theorem peek_bd {l : List Int} (h : Byt l) (k i : Nat) : 0 ≤ peekV k l i ∧ (k = 2 → peekV k l i ≤ 65535) := by
  unfold peekV
  by_cases hk : k ≤ l.length - i
  · rw [if_pos hk]
    have hb : ∀ t, t < k → 0 ≤ l.getD (i + t) 0 ∧ l.getD (i + t) 0 ≤ 255 := fun t ht => by
      rw [List.getD_eq_getElem?_getD, List.getElem?_eq_getElem (show i + t < l.length by omega)]
      exact h _ (List.getElem_mem _)
    have := numAt_bd (bs := fun t => l.getD t 0) hb k (Nat.le_refl _)
    refine ⟨this.1, fun h2 => ?_⟩
    subst h2
    have h3 := this.2
    omega
  · rw [if_neg hk]
    exact ⟨by omega, fun _ => by omega⟩
theorem byt_at {D : List Int} (h : Byt D) (i : Nat) (hi : i < D.length) : 0 ≤ D.getD i 0 ∧ D.getD i 0 ≤ 255 := by
  rw [List.getD_eq_getElem?_getD, List.getElem?_eq_getElem hi]
  exact h _ (List.getElem_mem hi)
theorem rd_at (D : List Int) (i : Nat) : rd D (i : Int) = D.getD i 0 := by simp [rd]
theorem num_step (a b : Int) (ha : 0 ≤ a) (hb : a * 256 + b ≤ 4294967295) (h0 : 0 ≤ b) (h1 : b ≤ 255) : ((a * 256 % 4294967296) + b % 4294967296) % 4294967296 = a * 256 + b := by omega
theorem number4_f {D : List Int} (hB : Byt D) (i : Nat) (hi : i + 4 ≤ D.length) (hl : D.length ≤ 1000000) : Ev (fun k => wharfref01_Number.f k D (i : Int) 4) (peekV 4 D i, true) := by
  have h0 := byt_at hB i (by omega)
  have h1 := byt_at hB (i + 1) (by omega)
  have h2 := byt_at hB (i + 2) (by omega)
  have h3 := byt_at hB (i + 3) (by omega)
  have w0 : wrap64 ((i : Int) + 0) = ((i : Nat) : Int) := by unfold wrap64; omega
  have w1 : wrap64 ((i : Int) + 1) = ((i + 1 : Nat) : Int) := by unfold wrap64; omega
  have w2 : wrap64 ((i : Int) + 2) = ((i + 2 : Nat) : Int) := by unfold wrap64; omega
  have w3 : wrap64 ((i : Int) + 3) = ((i + 3 : Nat) : Int) := by unfold wrap64; omega
  have w4 : wrap64 ((i : Int) + 4) = ((i + 4 : Nat) : Int) := by unfold wrap64; omega
  have W0 := hid w0
  have W1 := hid w1
  have W2 := hid w2
  have W3 := hid w3
  have W4 := hid w4
  clear w0 w1 w2 w3 w4
  have c0 : ((i : Nat) : Int) < (D.length : Int) := by omega
  have c1 : ((i + 1 : Nat) : Int) < (D.length : Int) := by omega
  have c2 : ((i + 2 : Nat) : Int) < (D.length : Int) := by omega
  have c3 : ((i + 3 : Nat) : Int) < (D.length : Int) := by omega
  have c4 : ¬ (((i + 4 : Nat) : Int) > (D.length : Int)) := by omega
  have z0 : (0 : Int) ≤ ((i : Nat) : Int) := by omega
  have z1 : (0 : Int) ≤ ((i + 1 : Nat) : Int) := by omega
  have z2 : (0 : Int) ≤ ((i + 2 : Nat) : Int) := by omega
  have z3 : (0 : Int) ≤ ((i + 3 : Nat) : Int) := by omega
  have e1 : wrap64 ((0 : Int) + 1) = 1 := by simp [wrap64]
  have e2 : wrap64 ((1 : Int) + 1) = 2 := by simp [wrap64]
  have e3 : wrap64 ((2 : Int) + 1) = 3 := by simp [wrap64]
  have e4 : wrap64 ((3 : Int) + 1) = 4 := by simp [wrap64]
  obtain ⟨a, ha⟩ : ∃ a, a = D.getD i 0 := ⟨_, rfl⟩
  obtain ⟨b, hb⟩ : ∃ b, b = D.getD (i + 1) 0 := ⟨_, rfl⟩
  obtain ⟨c, hc⟩ : ∃ c, c = D.getD (i + 2) 0 := ⟨_, rfl⟩
  obtain ⟨d, hd⟩ : ∃ d, d = D.getD (i + 3) 0 := ⟨_, rfl⟩
  rw [peek_4 hi ha.symm hb.symm hc.symm hd.symm]
  rw [← ha] at h0
  rw [← hb] at h1
  rw [← hc] at h2
  rw [← hd] at h3
  have hr : a * 16777216 + b * 65536 + c * 256 + d = ((a * 256 + b) * 256 + c) * 256 + d := by omega
  have n0 := num_step 0 a (by omega) (by omega) h0.1 h0.2
  have n1 := num_step a b (by omega) (by omega) h1.1 h1.2
  have n2 := num_step (a * 256 + b) c (by omega) (by omega) h2.1 h2.2
  have n3 := num_step ((a * 256 + b) * 256 + c) d (by omega) (by omega) h3.1 h3.2
  simp only [Int.zero_mul, Int.zero_add] at n0
  rw [hr]
  have s4 : Ev (fun k => wharfref01_Number.l0 k D (i : Int) 4 (((a * 256 + b) * 256 + c) * 256 + d) 4) (((a * 256 + b) * 256 + c) * 256 + d, true) := Ev.step (f := fun _ => some (((a * 256 + b) * 256 + c) * 256 + d, true)) (fun k => by simp only [wharfref01_Number.l0]; rw [if_neg (by decide)]) (Ev.now _)
  have s3 : Ev (fun k => wharfref01_Number.l0 k D (i : Int) 4 ((a * 256 + b) * 256 + c) 3) (((a * 256 + b) * 256 + c) * 256 + d, true) := Ev.step (fun k => by simp only [wharfref01_Number.l0]; rw [if_pos (by decide), W3.out, if_pos z3, if_pos c3, e4, rd_at, ← hd, n3]) s4
  have s2 : Ev (fun k => wharfref01_Number.l0 k D (i : Int) 4 (a * 256 + b) 2) (((a * 256 + b) * 256 + c) * 256 + d, true) := Ev.step (fun k => by simp only [wharfref01_Number.l0]; rw [if_pos (by decide), W2.out, if_pos z2, if_pos c2, e3, rd_at, ← hc, n2]) s3
  have s1 : Ev (fun k => wharfref01_Number.l0 k D (i : Int) 4 a 1) (((a * 256 + b) * 256 + c) * 256 + d, true) := Ev.step (fun k => by simp only [wharfref01_Number.l0]; rw [if_pos (by decide), W1.out, if_pos z1, if_pos c1, e2, rd_at, ← hb, n1]) s2
  have s0 : Ev (fun k => wharfref01_Number.l0 k D (i : Int) 4 0 0) (((a * 256 + b) * 256 + c) * 256 + d, true) := Ev.step (fun k => by simp only [wharfref01_Number.l0]; rw [if_pos (by decide), W0.out, if_pos z0, if_pos c0, e1, rd_at, ← ha, Int.zero_mul, show (0 : Int) % 4294967296 = 0 from rfl, Int.zero_add, show a % 4294967296 % 4294967296 = a by omega]) s1
  have sj : Ev (fun k => wharfref01_Number.j0 k D (i : Int) 4 false) (((a * 256 + b) * 256 + c) * 256 + d, true) := Ev.step (fun k => by simp only [wharfref01_Number.j0]; rw [if_neg (by decide)]) s0
  refine Ev.congr (fun k => ?_) sj
  unfold wharfref01_Number.f wharfref01_Right.f
  rw [if_neg (by decide), if_neg (by decide), Option.bind_some, if_pos (by decide), W4.out, decide_eq_false c4]
theorem rfits_ev (ty : Int) (nm : ByteArray) (mask lo hi un kd n : Int) (h1 : 0 ≤ lo) (h2 : hi ≤ 65531) (h3 : 1 ≤ un) (h4 : un ≤ 8) : ∀ (d : Nat) (x : Int), (hi + 1 - x).toNat ≤ d → lo ≤ x → x ≤ 65539 → (x - lo) % un = 0 →
    Ev (fun k => wharfref11_Fits.l0 k n x ty nm mask lo hi un kd) (decide (n ≥ x) && decide (n ≤ hi) && ((n - lo) % un == 0)) := by
  intro d
  induction d with
  | zero =>
    intro x hd hx hb hm
    refine Ev.step (f := fun _ => some false) (fun k => ?_) (by
      have : (decide (n ≥ x) && decide (n ≤ hi) && ((n - lo) % un == 0)) = false := by
        by_cases h : n ≥ x
        · have : ¬ n ≤ hi := by omega
          simp [this]
        · simp [h]
      rw [this]
      exact Ev.now _)
    simp only [wharfref11_Fits.l0]
    rw [if_neg (by omega)]
  | succ d ih =>
    intro x hd hx hb hm
    by_cases hle : x ≤ hi
    · by_cases he : x = n
      · refine Ev.step (f := fun _ => some true) (fun k => ?_) (by
          have : (decide (n ≥ x) && decide (n ≤ hi) && ((n - lo) % un == 0)) = true := by
            rw [← he]
            simp [hle, hm]
          rw [this]
          exact Ev.now _)
        simp only [wharfref11_Fits.l0]
        rw [if_pos hle, if_pos he]
      · have hw : wrap64 (x + un) = x + un := by unfold wrap64; omega
        have hm2 : (x + un - lo) % un = 0 := by
          rw [show x + un - lo = (x - lo) + un by omega, Int.add_emod_right]
          exact hm
        have hi2 := ih (x + un) (by omega) (by omega) (by omega) hm2
        have heq : (decide (n ≥ x + un) && decide (n ≤ hi) && ((n - lo) % un == 0)) = (decide (n ≥ x) && decide (n ≤ hi) && ((n - lo) % un == 0)) := by
          by_cases hz : (n - lo) % un = 0
          · have hiff : n ≥ x + un ↔ n ≥ x := by
              constructor
              · intro h; omega
              · intro h
                have hdv : un ∣ n - x := by
                  have e1 : (n - x) % un = 0 := by
                    rw [show n - x = (n - lo) - (x - lo) by omega, Int.sub_emod, hz, hm]
                    simp
                  exact Int.dvd_of_emod_eq_zero e1
                have := Int.le_of_dvd (by omega) hdv
                omega
            simp [hz, hiff]
          · have hzf : ((n - lo) % un == 0) = false := by simpa using hz
            rw [hzf]
            simp
        rw [heq] at hi2
        refine Ev.step (fun k => ?_) hi2
        simp only [wharfref11_Fits.l0]
        rw [if_pos hle, if_neg he, hw]
    · refine Ev.step (f := fun _ => some false) (fun k => ?_) (by
        have : (decide (n ≥ x) && decide (n ≤ hi) && ((n - lo) % un == 0)) = false := by
          by_cases h : n ≥ x
          · have : ¬ n ≤ hi := by omega
            simp [this]
          · simp [h]
        rw [this]
        exact Ev.now _)
      simp only [wharfref11_Fits.l0]
      rw [if_neg hle]
theorem rfits_any (r : KR) (hr : r.ok) (n : Int) (w : World) : Calls Tryz.prog 58 #[r.val, .int .i64 n] w (IsPost (.bool (fits r.least r.most r.unit n)) w) := by
  obtain ⟨h1, h2, h3, h4⟩ : 0 ≤ r.least ∧ r.most ≤ 65531 ∧ 1 ≤ r.unit ∧ r.unit ≤ 8 := by unfold KR.ok at hr; omega
  have h5 : r.least ≤ 65539 := by unfold KR.ok at hr; omega
  obtain ⟨k, hk⟩ := (rfits_ev r.ty r.nm r.mask r.least r.most r.unit r.kids n h1 h2 h3 h4 _ r.least (Nat.le_refl _) (Int.le_refl _) h5 (by simp)).rounds
  exact (wharfref11_Fits.calls k r.ty r.nm r.mask r.least r.most r.unit r.kids n _ w hk).mono (fun e w' h => h)
theorem rodd_not (t : Int) (A : Option Addr) (c : Nat) (l : List Int) (w : World) (h1 : t ≠ 64) (h2 : t ≠ 194) (hC : BC w A l) (hc : l.length ≤ c) : Calls Tryz.prog 61 #[.int .u8 t, .slice A l.length c] w (IsPost (.int .i64 (-1)) w) :=
  (wharfref12_odd.calls 5 t A c l (-1) w hC hc (by simp [wharfref12_odd.f, wharfref12_odd.j0, wharfref12_odd.l0, wharfref12_odd.j2, h1, h2])).mono (fun e w' h => ⟨h.1, h.2.below⟩)
theorem rcounted_not (t : Int) (A : Option Addr) (c : Nat) (l : List Int) (w : World) (h1 : t ≠ 3) (hC : BC w A l) (hc : l.length ≤ c) : Calls Tryz.prog 60 #[.int .u8 t, .slice A l.length c] w (IsPost (.bool true) w) :=
  (wharfref12_counted.calls t A c l true w hC hc (by simp [wharfref12_counted.f, h1])).mono (fun e w' h => ⟨h.1, h.2.below⟩)
/-- The number of two bytes. -/
theorem number_f {l : List Int} (hB : ∀ x ∈ l, 0 ≤ x ∧ x ≤ 255) (i : Nat) (hi : i + 2 ≤ l.length) (hl : l.length ≤ 1000000) : wharfref12_number.f l (i : Int) = some (l.getD i 0 * 256 + l.getD (i + 1) 0) := by
  have hb : ∀ j, j < l.length → 0 ≤ l.getD j 0 ∧ l.getD j 0 ≤ 255 := fun j hj => by
    rw [List.getD_eq_getElem?_getD, List.getElem?_eq_getElem hj]
    exact hB _ (List.getElem_mem hj)
  have h0 := hb i (by omega)
  have h1 := hb (i + 1) (by omega)
  have hw : wrap64 ((i : Int) + 1) = ((i + 1 : Nat) : Int) := by unfold wrap64; omega
  have e0 : rd l (i : Int) = l.getD i 0 := by simp [rd]
  have e1 : rd l ((i + 1 : Nat) : Int) = l.getD (i + 1) 0 := by simp [rd]
  unfold wharfref12_number.f
  rw [hw, if_pos (by omega), if_pos (by omega), if_pos (by omega), if_pos (by omega), e0, e1]
  congr 1
  unfold wrap64
  omega
theorem rodd_ev (l : List Int) (q : Nat) (hB : ∀ x ∈ l, 0 ≤ x ∧ x ≤ 255) (hq : l.length = 4 + 8 * q) (hl : l.length ≤ 1000000) : ∀ (d j : Nat), q - j = d → j ≤ q → (∀ i, i < j → ¬ 1 < grp l i) →
    ∃ r, Ev (fun k => wharfref12_odd.l0 k 194 l ((6 + 8 * j : Nat) : Int)) r ∧ (0 ≤ r ↔ gb l q < q) := by
  intro d
  induction d with
  | zero =>
    intro j hd hj hn
    have hjq : j = q := by omega
    subst hjq
    refine ⟨-1, Ev.step (f := fun k => wharfref12_odd.j2 k 194 l ((6 + 8 * j : Nat) : Int) false) (fun k => ?_) (Ev.step (f := fun _ => some (-1)) (fun k => by simp [wharfref12_odd.j2]) (Ev.now _)), ?_⟩
    · simp only [wharfref12_odd.l0]
      rw [if_pos True.intro, decide_eq_false (by omega)]
    · constructor
      · intro h; omega
      · intro h; exact absurd (gb_at l j h) (hn _ h)
  | succ d ih =>
    intro j hd hj hn
    have hjq : j < q := by omega
    have hnum := number_f hB (6 + 8 * j) (by omega) hl
    have hgr : grp l j = l.getD (6 + 8 * j) 0 * 256 + l.getD (6 + 8 * j + 1) 0 := by
      unfold grp
      simp [numAt]
    rw [← hgr] at hnum
    by_cases hg : 1 < grp l j
    · refine ⟨((6 + 8 * j : Nat) : Int), Ev.step (f := fun k => wharfref12_odd.j2 k 194 l ((6 + 8 * j : Nat) : Int) true) (fun k => ?_) (Ev.step (f := fun _ => some ((6 + 8 * j : Nat) : Int)) (fun k => ?_) (Ev.now _)), ?_⟩
      · simp only [wharfref12_odd.l0]
        rw [if_pos True.intro, decide_eq_true (by omega)]
      · simp only [wharfref12_odd.j2]
        rw [if_pos True.intro, hnum, Option.bind_some, if_pos hg]
      · constructor
        · intro _
          apply Classical.byContradiction
          intro hge
          have hgb := gb_le l q
          exact gb_lt l q j (by omega) hg
        · intro _; omega
    · obtain ⟨r, hr, hiff⟩ := ih (j + 1) (by omega) (by omega) (fun i hi => by
        rcases Nat.lt_or_ge i j with h | h
        · exact hn i h
        · rw [show i = j by omega]; exact hg)
      have hw : wrap64 (((6 + 8 * j : Nat) : Int) + 8) = ((6 + 8 * (j + 1) : Nat) : Int) := by unfold wrap64; omega
      refine ⟨r, Ev.step (f := fun k => wharfref12_odd.j2 k 194 l ((6 + 8 * j : Nat) : Int) true) (fun k => ?_) (Ev.step (fun k => ?_) hr), hiff⟩
      · simp only [wharfref12_odd.l0]
        rw [if_pos True.intro, decide_eq_true (by omega)]
      · simp only [wharfref12_odd.j2]
        rw [if_pos True.intro, hnum, Option.bind_some, if_neg hg, hw]
theorem rodd_194 (A : Option Addr) (c : Nat) (l : List Int) (q : Nat) (hB : ∀ x ∈ l, 0 ≤ x ∧ x ≤ 255) (hq : l.length = 4 + 8 * q) (hl : l.length ≤ 1000000) (hc : l.length ≤ c) : ∃ r : Int, (0 ≤ r ↔ gb l q < q) ∧ ∀ w, BC w A l → Calls Tryz.prog 61 #[.int .u8 194, .slice A l.length c] w (IsPost (.int .i64 r) w) := by
  obtain ⟨r, hr, hiff⟩ := rodd_ev l q hB hq hl q 0 (by omega) (by omega) (fun i hi => by omega)
  obtain ⟨k, hk⟩ := hr.rounds
  refine ⟨r, hiff, fun w hC => (wharfref12_odd.calls (k + 1) 194 A c l r w hC hc ?_).mono (fun e w' h => ⟨h.1, h.2.below⟩)⟩
  simpa [wharfref12_odd.f, wharfref12_odd.j0] using hk
theorem rfits7_ev (cl ty : Int) (nm : ByteArray) (lo hi un kd n : Int) (h1 : 0 ≤ lo) (h2 : hi ≤ 65531) (h3 : 1 ≤ un) (h4 : un ≤ 8) : ∀ (d : Nat) (x : Int), (hi + 1 - x).toNat ≤ d → lo ≤ x → x ≤ 65539 → (x - lo) % un = 0 →
    Ev (fun k => wharfref07_Fits.l0 k n x cl ty nm lo hi un kd) (decide (n ≥ x) && decide (n ≤ hi) && ((n - lo) % un == 0)) := by
  intro d
  induction d with
  | zero =>
    intro x hd hx hb hm
    refine Ev.step (f := fun _ => some false) (fun k => ?_) (by
      have : (decide (n ≥ x) && decide (n ≤ hi) && ((n - lo) % un == 0)) = false := by
        by_cases h : n ≥ x
        · have : ¬ n ≤ hi := by omega
          simp [this]
        · simp [h]
      rw [this]
      exact Ev.now _)
    simp only [wharfref07_Fits.l0]
    rw [if_neg (by omega)]
  | succ d ih =>
    intro x hd hx hb hm
    by_cases hle : x ≤ hi
    · by_cases he : x = n
      · refine Ev.step (f := fun _ => some true) (fun k => ?_) (by
          have : (decide (n ≥ x) && decide (n ≤ hi) && ((n - lo) % un == 0)) = true := by
            rw [← he]
            simp [hle, hm]
          rw [this]
          exact Ev.now _)
        simp only [wharfref07_Fits.l0]
        rw [if_pos hle, if_pos he]
      · have hw : wrap64 (x + un) = x + un := by unfold wrap64; omega
        have hm2 : (x + un - lo) % un = 0 := by
          rw [show x + un - lo = (x - lo) + un by omega, Int.add_emod_right]
          exact hm
        have hi2 := ih (x + un) (by omega) (by omega) (by omega) hm2
        have heq : (decide (n ≥ x + un) && decide (n ≤ hi) && ((n - lo) % un == 0)) = (decide (n ≥ x) && decide (n ≤ hi) && ((n - lo) % un == 0)) := by
          by_cases hz : (n - lo) % un = 0
          · have hiff : n ≥ x + un ↔ n ≥ x := by
              constructor
              · intro h; omega
              · intro h
                have hdv : un ∣ n - x := by
                  have e1 : (n - x) % un = 0 := by
                    rw [show n - x = (n - lo) - (x - lo) by omega, Int.sub_emod, hz, hm]
                    simp
                  exact Int.dvd_of_emod_eq_zero e1
                have := Int.le_of_dvd (by omega) hdv
                omega
            simp [hz, hiff]
          · have hzf : ((n - lo) % un == 0) = false := by simpa using hz
            rw [hzf]
            simp
        rw [heq] at hi2
        refine Ev.step (fun k => ?_) hi2
        simp only [wharfref07_Fits.l0]
        rw [if_pos hle, if_neg he, hw]
    · refine Ev.step (f := fun _ => some false) (fun k => ?_) (by
        have : (decide (n ≥ x) && decide (n ≤ hi) && ((n - lo) % un == 0)) = false := by
          by_cases h : n ≥ x
          · have : ¬ n ≤ hi := by omega
            simp [this]
          · simp [h]
        rw [this]
        exact Ev.now _)
      simp only [wharfref07_Fits.l0]
      rw [if_neg hle]
theorem rfits7_any (cl ty : Int) (nm : ByteArray) (lo hi un kd n : Int) (w : World) (h1 : 0 ≤ lo) (h2 : hi ≤ 65531) (h3 : 1 ≤ un) (h4 : un ≤ 8) (h5 : lo ≤ 65539) : Calls Tryz.prog 112 #[.agg #[.int .i64 cl, .int .u16 ty, .string nm, .int .i64 lo, .int .i64 hi, .int .i64 un, .int .i64 kd], .int .i64 n] w (IsPost (.bool (fits lo hi un n)) w) := by
  obtain ⟨k, hk⟩ := (rfits7_ev cl ty nm lo hi un kd n h1 h2 h3 h4 _ lo (Nat.le_refl _) (Int.le_refl _) h5 (by simp)).rounds
  exact (wharfref07_Fits.calls k cl ty nm lo hi un kd n _ w hk).mono (fun e w' h => h)
theorem hd_rd (l : List Nd) (h : 0 < l.length) : (rd_T87 l 0).f0 = hd0 l := by
  unfold rd_T87 hd0
  cases l with
  | nil => simp at h
  | cons x l => rfl
theorem rwant8_any (cl ty : Int) (nm : ByteArray) (lo hi un kd : Int) (A : Option Addr) (c n : Nat) (l : List Nd) (w : World) (h0 : 0 ≤ kd) (h4 : kd ≤ 4) (hn : l.length = n) (hC : Kd.C k87 w A n l) (hc : n ≤ c) : Calls Tryz.prog 113 #[.agg #[.int .i64 cl, .int .u16 ty, .string nm, .int .i64 lo, .int .i64 hi, .int .i64 un, .int .i64 kd], .slice A n c] w (IsPost (.bool (kidsB kd l)) w) := by
  subst hn
  refine (wharfref08_wanted.calls cl ty nm lo hi un kd A c l (kidsB kd l) w hC hc ?_).mono (fun e w' h => h)
  unfold wharfref08_wanted.f kidsB
  have h5 : kd = 0 ∨ kd = 1 ∨ kd = 2 ∨ kd = 3 ∨ kd = 4 := by omega
  rcases h5 with rfl | rfl | rfl | rfl | rfl
  · have e : inside 0 = (0, 0, 0) := rfl
    rw [if_pos rfl, e]
    congr 1
    rw [Bool.eq_iff_iff]
    simp
  · have e : inside 1 = (1, 1, 1) := rfl
    rw [if_neg (by decide), if_pos rfl, e]
    congr 1
    rw [Bool.eq_iff_iff]
    simp
    omega
  · have e : inside 2 = (1, 1, 16384) := rfl
    rw [if_neg (by decide), if_neg (by decide), if_neg (by decide), e]
    by_cases h : (l.length : Int) ≥ 1
    · rw [if_pos h, decide_eq_true (show (1 : Int) ≤ (l.length : Int) from h)]
      simp
    · rw [if_neg h, decide_eq_false (show ¬ (1 : Int) ≤ (l.length : Int) from h)]
      simp
  · have e : inside 3 = (2, 1, 16384) := rfl
    rw [if_neg (by decide), if_neg (by decide), if_neg (by decide), e]
    by_cases h : (l.length : Int) ≥ 1
    · rw [if_pos h, decide_eq_true (show (1 : Int) ≤ (l.length : Int) from h)]
      simp
    · rw [if_neg h, decide_eq_false (show ¬ (1 : Int) ≤ (l.length : Int) from h)]
      simp
  · have e : inside 4 = (1, 1, 1) := rfl
    rw [if_neg (by decide), if_neg (by decide), if_pos rfl, e]
    by_cases h : (l.length : Int) = 1
    · rw [if_pos h, if_pos (by omega), hd_rd l (by omega)]
      by_cases h5 : hd0 l = 5
      · rw [if_pos h5, h5, h]; rfl
      · rw [if_neg h5, h]
        simp [h5]
    · rw [if_neg h]
      by_cases h6 : (1 : Int) ≤ (l.length : Int)
      · rw [decide_eq_false (show ¬ (l.length : Int) ≤ 1 by omega)]; simp
      · rw [decide_eq_false h6]; simp
theorem rwant12_any (ty : Int) (nm : ByteArray) (mask lo hi un kd : Int) (A : Option Addr) (c n : Nat) (l : List Nd) (w : World) (h0 : 0 ≤ kd) (h6 : kd ≤ 6) (hn : l.length = n) (hC : Kd.C k87 w A n l) (hc : n ≤ c) : Calls Tryz.prog 59 #[.agg #[.int .u8 ty, .string nm, .int .u8 mask, .int .i64 lo, .int .i64 hi, .int .i64 un, .int .i64 kd], .slice A n c] w (IsPost (.bool (wantK kd l)) w) := by
  subst hn
  refine (wharfref12_wanted.calls ty nm mask lo hi un kd A c l (wantK kd l) w hC hc ?_).mono (fun e w' h => h)
  unfold wharfref12_wanted.f wantK
  have h7 : kd = 0 ∨ kd = 1 ∨ kd = 2 ∨ kd = 3 ∨ kd = 4 ∨ kd = 5 ∨ kd = 6 := by omega
  rcases h7 with rfl | rfl | rfl | rfl | rfl | rfl | rfl
  · have e : iR 0 = (0, 0, 0) := rfl
    rw [if_pos rfl, e]
    congr 1
    rw [Bool.eq_iff_iff]
    simp
  · have e : iR 1 = (1, 1, 1) := rfl
    rw [if_neg (by decide), if_pos rfl, e]
    by_cases h : (l.length : Int) = 1
    · rw [if_pos h, if_pos (by omega), hd_rd l (by omega), h]
      simp
    · rw [if_neg h]
      by_cases h6 : (1 : Int) ≤ (l.length : Int)
      · rw [decide_eq_false (show ¬ (l.length : Int) ≤ 1 by omega)]; simp
      · rw [decide_eq_false h6]; simp
  · have e : iR 2 = (1, 0, 16384) := rfl
    rw [if_neg (by decide), if_neg (by decide), if_neg (by decide), if_neg (by decide), if_neg (by decide), e, decide_eq_true (show (0 : Int) ≤ (l.length : Int) by omega)]
    simp
  · have e : iR 3 = (2, 0, 16384) := rfl
    rw [if_neg (by decide), if_neg (by decide), if_neg (by decide), if_neg (by decide), if_neg (by decide), e, decide_eq_true (show (0 : Int) ≤ (l.length : Int) by omega)]
    simp
  · have e : iR 4 = (2, 1, 16384) := rfl
    rw [if_neg (by decide), if_neg (by decide), if_pos rfl, e]
    by_cases h : (l.length : Int) ≥ 1
    · rw [if_pos h, decide_eq_true (show (1 : Int) ≤ (l.length : Int) from h)]; simp
    · rw [if_neg h, decide_eq_false (show ¬ (1 : Int) ≤ (l.length : Int) from h)]; simp
  · have e : iR 5 = (1, 1, 2) := rfl
    rw [if_neg (by decide), if_neg (by decide), if_neg (by decide), if_pos rfl, e]
    by_cases h : (l.length : Int) = 1
    · rw [if_pos h, h]; rfl
    · rw [if_neg h]
      congr 1
      rw [Bool.eq_iff_iff]
      simp
      omega
  · have e : iR 6 = (1, 2, 16384) := rfl
    rw [if_neg (by decide), if_neg (by decide), if_neg (by decide), if_neg (by decide), if_pos rfl, e]
    by_cases h : (l.length : Int) ≥ 2
    · rw [if_pos h, decide_eq_true (show (2 : Int) ≤ (l.length : Int) from h)]
      by_cases h1 : (l.length : Int) ≤ 16384
      · rw [if_pos h1, if_pos (by omega), hd_rd l (by omega), decide_eq_true h1]
        by_cases h5 : hd0 l = 5
        · rw [if_pos h5, h5]; rfl
        · rw [if_neg h5]
          simp [h5]
      · rw [if_neg h1, decide_eq_false h1]; simp
    · rw [if_neg h, decide_eq_false (show ¬ (2 : Int) ≤ (l.length : Int) from h)]; simp
theorem rcounted8_any (A : Option Addr) (c n : Nat) (D : List Int) (w : World) (hn : D.length = n) (hC : BC w A D) (hB : Byt D) (hc : n ≤ c) (h4 : 4 ≤ n) (hl : n ≤ 1000000) : Calls Tryz.prog 114 #[.slice A n c] w (IsPost (.bool (2 * peekV 4 D 0 == (n : Int) - 4)) w) := by
  subst hn
  have hx := num4_bd hB 0
  have w1 : wrap64 (peekV 4 D 0) = peekV 4 D 0 := by unfold wrap64; omega
  have w2 : wrap64 (2 * peekV 4 D 0) = 2 * peekV 4 D 0 := by unfold wrap64; omega
  have w3 : wrap64 ((D.length : Int) - 4) = (D.length : Int) - 4 := by unfold wrap64; omega
  have hev : Ev (fun k => wharfref08_Counted.f k D) (2 * peekV 4 D 0 == (D.length : Int) - 4) := by
    unfold wharfref08_Counted.f
    refine Ev.bind (f := fun k (bt : Int × Bool) => some ((wrap64 (2 * (wrap64 (bt.1)))) == (wrap64 ((D.length : Int) - 4)))) (number4_f hB 0 (by omega) hl) ?_
    simp only [w1, w2, w3]
    exact Ev.now _
  obtain ⟨k, hk⟩ := hev.rounds
  exact (wharfref08_Counted.calls k A c D _ w hC hc hk).mono (fun e w' h => ⟨h.1, h.2.below⟩)
theorem rinside_any (kd : Int) (h0 : 0 ≤ kd) (h4 : kd ≤ 4) (w : World) : Calls Tryz.prog 115 #[.int .i64 kd] w (IsPost (.int .i64 (inside kd).1) w) := by
  refine (wharfref08_Inside.calls kd (inside kd).1 w ?_).mono (fun e w' h => ⟨h.1, h.2.below⟩)
  unfold wharfref08_Inside.f
  have h5 : kd = 0 ∨ kd = 1 ∨ kd = 2 ∨ kd = 3 ∨ kd = 4 := by omega
  rcases h5 with rfl | rfl | rfl | rfl | rfl <;> rfl
theorem rclass_any (kd : Int) (h0 : 0 ≤ kd) (h6 : kd ≤ 6) (w : World) : Calls Tryz.prog 63 #[.int .i64 kd] w (IsPost (.int .i64 (iR kd).1) w) := by
  refine (wharfref11_Class.calls 1 kd (iR kd).1 w ?_).mono (fun e w' h => ⟨h.1, h.2.below⟩)
  unfold wharfref11_Class.f
  have h7 : kd = 0 ∨ kd = 1 ∨ kd = 2 ∨ kd = 3 ∨ kd = 4 ∨ kd = 5 ∨ kd = 6 := by omega
  rcases h7 with rfl | rfl | rfl | rfl | rfl | rfl | rfl <;> rfl
end Bn
end Go.Proofs.YtmfmomfhiieilaaGreatDoor
/- 'wharfref12.counted' and 'wharfref12.odd' against the package's checks. -/
set_option linter.unusedVariables false
set_option linter.unusedSimpArgs false
namespace Go.Proofs.YtmfmomfhiieilaaGreatDoor
open Go.RowKit Go.Shelf Go.Proofs.YtmfmomfhiieilaaGreatDoor.It Go.Proofs.YtmfmomfhiieilaaGreatDoorW.PrintWords Go.Proofs.YtmfmomfhiieilaaGreatDoorW.PrintLast Go.Proofs.YtmfmomfhiieilaaGreatDoorW.PrintMore
namespace Bn
open PBundleSorted
theorem num_peek {D : List Int} (i : Nat) (h : i + 2 ≤ D.length) : numAt (fun t => D.getD t 0) i 2 = peekV 2 D i := by
  unfold peekV
  rw [if_pos (by omega)]
theorem fits_sk {n : Nat} (h : dataE (kR 3) n = none) : ∃ q, n = 12 + 4 * q ∧ n ≤ 65531 := by
  unfold dataE at h
  by_cases hf : fits (kR 3).least (kR 3).most (kR 3).unit n = true
  · have : (decide ((n : Int) ≥ 12) && decide ((n : Int) ≤ 65531) && (((n : Int) - 12) % 4 == 0)) = true := hf
    simp at this
    exact ⟨(n - 12) / 4, by omega, by omega⟩
  · rw [if_neg hf] at h; cases h
theorem rcnt_any (t : Int) (A : Option Addr) (c n : Nat) (D : List Int) (hk : kHas t = true) (hd : dataE (kOf t) D.length = none) (hn : D.length = n) (hB : Byt D) (hc : n ≤ c) (hl : n ≤ 1000000) :
    ∃ b : Bool, (b = true ↔ countE t D = none) ∧ ∀ w, BC w A D → Calls Tryz.prog 60 #[.int .u8 t, .slice A n c] w (IsPost (.bool b) w) := by
  subst hn
  by_cases h3 : t = 3
  · subst h3
    have e : kOf 3 = kR 3 := (kOf_at 3 (by decide) 3 rfl).1
    rw [e] at hd
    obtain ⟨q, hq, -⟩ := fits_sk hd
    have a8 := number_f hB 8 (by omega) hl
    have a10 := number_f hB 10 (by omega) hl
    rw [← peek_2 (by omega) rfl rfl] at a8 a10
    have p8 := peek_bd hB 2 8
    have p10 := peek_bd hB 2 10
    have p8' := p8.2 rfl
    have p10' := p10.2 rfl
    refine ⟨decide (4 * (peekV 2 D 8 + peekV 2 D 10) = (D.length : Int) - 12), ?_, fun w hC => (wharfref12_counted.calls 3 A c D _ w hC hc ?_).mono (fun e w' h => ⟨h.1, h.2.below⟩)⟩
    · rw [decide_eq_true_eq]
      unfold countE countB
      rw [if_pos rfl, num_peek 8 (by omega), num_peek 10 (by omega), show ((D.length : Int) - 12) / 4 = (q : Int) by omega]
      constructor
      · intro h
        have : peekV 2 D 8 + peekV 2 D 10 = (q : Int) := by omega
        rw [this]
        simp
      · intro h
        by_cases h2 : peekV 2 D 8 + peekV 2 D 10 = (q : Int)
        · omega
        · rw [if_pos (by simpa using h2)] at h; cases h
    · unfold wharfref12_counted.f
      rw [if_pos rfl]
      have e8 : wharfref12_number.f D 8 = some (peekV 2 D 8) := a8
      have e10 : wharfref12_number.f D 10 = some (peekV 2 D 10) := a10
      rw [e8, e10, Option.bind_some, Option.bind_some]
      have w1 : wrap64 (peekV 2 D 8 + peekV 2 D 10) = peekV 2 D 8 + peekV 2 D 10 := by unfold wrap64; omega
      rw [w1]
      clear w1
      have w2 : wrap64 (4 * (peekV 2 D 8 + peekV 2 D 10)) = 4 * (peekV 2 D 8 + peekV 2 D 10) := by unfold wrap64; omega
      have w3 : wrap64 ((D.length : Int) - 12) = (D.length : Int) - 12 := by unfold wrap64; omega
      rw [w2, w3]
      congr 1
  · refine ⟨true, ⟨fun _ => by unfold countE; rw [if_neg h3], fun _ => rfl⟩, fun w hC => rcounted_not t A c D w h3 hC hc⟩
theorem rodd_any (t : Int) (A : Option Addr) (c n : Nat) (D : List Int) (hk : kHas t = true) (hd : dataE (kOf t) D.length = none) (hn : D.length = n) (hB : Byt D) (hc : n ≤ c) (hl : n ≤ 1000000) :
    ∃ r : Int, (0 ≤ r ↔ valueE t D ≠ none) ∧ ∀ w, BC w A D → Calls Tryz.prog 61 #[.int .u8 t, .slice A n c] w (IsPost (.int .i64 r) w) := by
  subst hn
  by_cases h64 : t = 64
  · subst h64
    have e : kOf 64 = kR 16 := (kOf_at 16 (by decide) 64 rfl).1
    have hl2 := dataE_len hk hd
    rw [e] at hl2
    have h17 : (kR 16).least = 17 := rfl
    have a6 := number_f hB 6 (by omega) hl
    have b6 := byt_at hB 6 (by omega)
    have b7 := byt_at hB 7 (by omega)
    have e6 : wharfref12_number.f D 6 = some (D.getD 6 0 * 256 + D.getD 7 0) := a6
    by_cases hz : D.getD 6 0 * 256 + D.getD 7 0 = 0
    · refine ⟨-1, ⟨fun h => by omega, fun h => absurd ?_ h⟩, fun w hC => (wharfref12_odd.calls 5 64 A c D (-1) w hC hc ?_).mono (fun e w' h => ⟨h.1, h.2.below⟩)⟩
      · unfold valueE val64E
        rw [if_pos rfl, show D.getD 6 0 = 0 by omega, show D.getD 7 0 = 0 by omega]
        rfl
      · unfold wharfref12_odd.f
        rw [if_pos rfl, e6, Option.bind_some, hz]
        simp [wharfref12_odd.j0, wharfref12_odd.l0, wharfref12_odd.j2]
    · refine ⟨6, ⟨fun _ => ?_, fun _ => by decide⟩, fun w hC => (wharfref12_odd.calls 5 64 A c D 6 w hC hc ?_).mono (fun e w' h => ⟨h.1, h.2.below⟩)⟩
      · unfold valueE val64E
        rw [if_pos rfl]
        have : (D.getD 6 0 == 0 && D.getD 7 0 == 0) = false := by
          rw [Bool.eq_false_iff]
          intro h
          rw [Bool.and_eq_true, beq_iff_eq, beq_iff_eq] at h
          omega
        rw [this]
        simp
      · unfold wharfref12_odd.f
        rw [if_pos rfl, e6, Option.bind_some]
        have : ((D.getD 6 0 * 256 + D.getD 7 0) != 0) = true := by simpa using hz
        rw [this]
        simp [wharfref12_odd.j0]
  · by_cases h194 : t = 194
    · subst h194
      have e : kOf 194 = kR 22 := (kOf_at 22 (by decide) 194 rfl).1
      rw [e] at hd
      obtain ⟨q, hq, h31⟩ := fits_22 hd
      obtain ⟨r, hiff, hr⟩ := rodd_194 A c D q hB hq hl hc
      refine ⟨r, ?_, hr⟩
      rw [hiff]
      unfold valueE
      rw [if_neg (by decide), if_pos rfl]
      have hqe : (D.length - 4) / 8 = q := by omega
      unfold valE
      rw [hqe]
      split
      · rename_i h; exact ⟨fun _ => by simp, fun _ => h⟩
      · rename_i h; exact ⟨fun h2 => absurd h2 h, fun h2 => absurd rfl h2⟩
    · refine ⟨-1, ⟨fun h => by omega, fun h => absurd ?_ h⟩, fun w hC => rodd_not t A c D w h64 h194 hC hc⟩
      unfold valueE
      rw [if_neg h64, if_neg h194]
end Bn
end Go.Proofs.YtmfmomfhiieilaaGreatDoor
