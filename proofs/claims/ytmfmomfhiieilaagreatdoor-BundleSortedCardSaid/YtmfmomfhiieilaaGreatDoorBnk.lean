/- 'shape.Fits', 'shape.Inside', 'node.kids', 'node.counted'. -/
import Derived.Test.YtmfmomfhiieilaaGreatDoorBns
import Derived.Test.YtmfmomfhiieilaaGreatDoorBst
set_option linter.unusedVariables false
set_option linter.unusedSimpArgs false
namespace Go.Proofs.YtmfmomfhiieilaaGreatDoor
open Go.RowKit Go.Shelf Go.Proofs.YtmfmomfhiieilaaGreatDoor.It Go.Proofs.YtmfmomfhiieilaaGreatDoorW.PrintWords Go.Proofs.YtmfmomfhiieilaaGreatDoorW.PrintLast Go.Proofs.YtmfmomfhiieilaaGreatDoorW.PrintMore
namespace Bn
open PBundleSorted
set_option maxHeartbeats 1000000 in
theorem sfits_any (k t : Int) (nm : ByteArray) (lo hi un kd n : Int) (w : World) (h1 : 0 ≤ lo) (h2 : hi ≤ 65531) (h3 : 1 ≤ un) (h4 : un ≤ 8) :
    Calls Tryz.prog 105 #[.agg #[.int .i64 k, .int .u16 t, .string nm, .int .i64 lo, .int .i64 hi, .int .i64 un, .int .i64 kd], .int .i64 n] w (IsPost (.bool (fits lo hi un n)) w) := by
  go_enter Tryz.func105, Tryz.ntmps105
  by_cases c1 : n ≥ lo
  · by_cases c2 : n ≤ hi
    · have hr : 0 ≤ n - lo ∧ n - lo < 65532 := by omega
      have E : fits lo hi un n = ((n - lo) % un == 0) := by unfold fits; simp [c1, c2]
      go_wp2_with fail
      go_ret
      exact ⟨by first | rfl | (rw [E]; rfl), by repeat (first | with_reducible exact Below.refl _ _ | with_reducible apply below_alloc)⟩
    · have E : fits lo hi un n = false := by unfold fits; simp [c2]
      go_wp2_with fail
      go_ret
      exact ⟨by first | rfl | (rw [E]; rfl), by repeat (first | with_reducible exact Below.refl _ _ | with_reducible apply below_alloc)⟩
  · have E : fits lo hi un n = false := by unfold fits; simp [c1]
    go_wp2_with fail
    go_ret
    exact ⟨by first | rfl | (rw [E]; rfl), by repeat (first | with_reducible exact Below.refl _ _ | with_reducible apply below_alloc)⟩
/-- What a form has inside. -/
def inside (k : Int) : Int × Int × Int := if k = 1 ∨ k = 4 then (1, 1, 1) else if k = 2 then (1, 1, 16384) else if k = 3 then (2, 1, 16384) else (0, 0, 0)
set_option maxHeartbeats 1000000 in
theorem inside_any (k : Int) (w : World) : Calls Tryz.prog 108 #[.int .i64 k] w (IsPost (.tuple #[.int .i64 (inside k).1, .int .i64 (inside k).2.1, .int .i64 (inside k).2.2]) w) := by
  by_cases h : k = 1 ∨ k = 2 ∨ k = 3 ∨ k = 4
  · rcases h with rfl | rfl | rfl | rfl
    all_goals
      go_enter Tryz.func108, Tryz.ntmps108
      go_wp2_with fail
      go_ret3
      exact ⟨rfl, Below.refl _ _⟩
  · have E : inside k = (0, 0, 0) := by unfold inside; rw [if_neg (by omega), if_neg (by omega), if_neg (by omega)]
    rw [E]
    have h1 : (k == 1) = false := by simp; omega
    have h2 : (k == 2) = false := by simp; omega
    have h3 : (k == 3) = false := by simp; omega
    have h4 : (k == 4) = false := by simp; omega
    go_enter Tryz.func108, Tryz.ntmps108
    go_wp2_with fail
    go_ret3
    exact ⟨rfl, Below.refl _ _⟩
def hd0 (xs : List Nd) : Int := (xs.headD z87).f0
/-- Whether the nodes inside are as a form wants them. -/
def kidsB (kd : Int) (xs : List Nd) : Bool := decide ((inside kd).2.1 ≤ (xs.length : Int)) && decide ((xs.length : Int) ≤ (inside kd).2.2) && (kd != 4 || hd0 xs == 5 || hd0 xs == 6)
set_option maxRecDepth 100000 in
set_option maxHeartbeats 1000000 in
theorem nkids_few (k t : Int) (nm : ByteArray) (lo hi un kd C L H : Int) (K : Option Addr) (n d : Nat) (w : World) (hin : inside kd = (C, L, H)) (h : ¬ (n : Int) ≥ L) :
    Calls Tryz.prog 106 #[.agg #[.int .i64 k, .int .u16 t, .string nm, .int .i64 lo, .int .i64 hi, .int .i64 un, .int .i64 kd], .slice K n d] w (IsPost (.bool false) w) := by
  have hI := inside_any kd (w.alloc (.cells #[.int .i64 k, .int .u16 t, .string nm, .int .i64 lo, .int .i64 hi, .int .i64 un, .int .i64 kd] 172))
  rw [hin] at hI
  have HK := hid (blk_new w (.cells #[.int .i64 k, .int .u16 t, .string nm, .int .i64 lo, .int .i64 hi, .int .i64 un, .int .i64 kd] 172))
  go_enter Tryz.func106, Tryz.ntmps106
  go_wp2_with fail
  refine hI.mono ?_
  rintro e w1 ⟨rfl, hb⟩
  have K1 := hid (blk_below HK.out hb)
  have B1 := hid (cthen (below_alloc (Below.refl w.heap.size w) _) hb)
  clear hb hI HK
  obtain ⟨⟨q0, q1, q2, q3, q4, q5, q6⟩, -⟩ := seven K1.out
  go_wp2_with fail
  go_ret
  exact ⟨rfl, B1.out⟩
set_option maxRecDepth 100000 in
set_option maxHeartbeats 1000000 in
theorem nkids_many (k t : Int) (nm : ByteArray) (lo hi un kd C L H : Int) (K : Option Addr) (n d : Nat) (w : World) (hin : inside kd = (C, L, H)) (h : (n : Int) ≥ L) (h2 : ¬ (n : Int) ≤ H) :
    Calls Tryz.prog 106 #[.agg #[.int .i64 k, .int .u16 t, .string nm, .int .i64 lo, .int .i64 hi, .int .i64 un, .int .i64 kd], .slice K n d] w (IsPost (.bool false) w) := by
  have hI := inside_any kd (w.alloc (.cells #[.int .i64 k, .int .u16 t, .string nm, .int .i64 lo, .int .i64 hi, .int .i64 un, .int .i64 kd] 172))
  rw [hin] at hI
  have HK := hid (blk_new w (.cells #[.int .i64 k, .int .u16 t, .string nm, .int .i64 lo, .int .i64 hi, .int .i64 un, .int .i64 kd] 172))
  go_enter Tryz.func106, Tryz.ntmps106
  go_wp2_with fail
  refine hI.mono ?_
  rintro e w1 ⟨rfl, hb⟩
  have K1 := hid (blk_below HK.out hb)
  have B1 := hid (cthen (below_alloc (Below.refl w.heap.size w) _) hb)
  clear hb hI HK
  obtain ⟨⟨q0, q1, q2, q3, q4, q5, q6⟩, -⟩ := seven K1.out
  go_wp2_with fail
  go_ret
  exact ⟨rfl, B1.out⟩
set_option maxRecDepth 100000 in
set_option maxHeartbeats 1000000 in
theorem nkids_plain (k t : Int) (nm : ByteArray) (lo hi un kd C L H : Int) (K : Option Addr) (n d : Nat) (w : World) (hin : inside kd = (C, L, H)) (h : (n : Int) ≥ L) (h2 : (n : Int) ≤ H) (h3 : (kd != 4) = true) :
    Calls Tryz.prog 106 #[.agg #[.int .i64 k, .int .u16 t, .string nm, .int .i64 lo, .int .i64 hi, .int .i64 un, .int .i64 kd], .slice K n d] w (IsPost (.bool true) w) := by
  have hI := inside_any kd (w.alloc (.cells #[.int .i64 k, .int .u16 t, .string nm, .int .i64 lo, .int .i64 hi, .int .i64 un, .int .i64 kd] 172))
  rw [hin] at hI
  have HK := hid (blk_new w (.cells #[.int .i64 k, .int .u16 t, .string nm, .int .i64 lo, .int .i64 hi, .int .i64 un, .int .i64 kd] 172))
  go_enter Tryz.func106, Tryz.ntmps106
  go_wp2_with fail
  refine hI.mono ?_
  rintro e w1 ⟨rfl, hb⟩
  have K1 := hid (blk_below HK.out hb)
  have B1 := hid (cthen (below_alloc (Below.refl w.heap.size w) _) hb)
  clear hb hI HK
  obtain ⟨⟨q0, q1, q2, q3, q4, q5, q6⟩, -⟩ := seven K1.out
  go_wp2_with fail
  go_ret
  exact ⟨rfl, B1.out⟩
set_option maxRecDepth 100000 in
set_option maxHeartbeats 1000000 in
theorem nkids_five (k t : Int) (nm : ByteArray) (lo hi un kd C L H : Int) (K : Option Addr) (n d : Nat) (w : World) (hin : inside kd = (C, L, H)) (b off : Nat) (x : Int) (hA : K = some ⟨b, off, none⟩) (hc : w.cell? ⟨b, off, none⟩ = some (.int .u16 x)) (hn : 0 < n) (h : (n : Int) ≥ L) (h2 : (n : Int) ≤ H) (h4 : kd = 4) (h5 : (x == 5) = true) :
    Calls Tryz.prog 106 #[.agg #[.int .i64 k, .int .u16 t, .string nm, .int .i64 lo, .int .i64 hi, .int .i64 un, .int .i64 kd], .slice K n d] w (IsPost (.bool true) w) := by
  have hI := inside_any kd (w.alloc (.cells #[.int .i64 k, .int .u16 t, .string nm, .int .i64 lo, .int .i64 hi, .int .i64 un, .int .i64 kd] 172))
  rw [hin] at hI
  have HK := hid (blk_new w (.cells #[.int .i64 k, .int .u16 t, .string nm, .int .i64 lo, .int .i64 hi, .int .i64 un, .int .i64 kd] 172))
  subst hA
  have hn0 : (0 : Int) < (n : Int) := by omega
  have h3 : (kd != 4) = false := by subst h4; rfl
  have HC := hid hc
  clear hc hn h4
  go_enter Tryz.func106, Tryz.ntmps106
  go_wp2_with fail
  refine hI.mono ?_
  rintro e w1 ⟨rfl, hb⟩
  have K1 := hid (blk_below HK.out hb)
  have B1 := hid (cthen (below_alloc (Below.refl w.heap.size w) _) hb)
  have hc1 := pw_cell_below B1.out HC.out
  clear hb hI HK
  obtain ⟨⟨q0, q1, q2, q3, q4, q5, q6⟩, -⟩ := seven K1.out
  go_wp2_with fail
  go_ret
  exact ⟨rfl, B1.out⟩
set_option maxRecDepth 100000 in
set_option maxHeartbeats 1000000 in
theorem nkids_six (k t : Int) (nm : ByteArray) (lo hi un kd C L H : Int) (K : Option Addr) (n d : Nat) (w : World) (hin : inside kd = (C, L, H)) (b off : Nat) (x : Int) (hA : K = some ⟨b, off, none⟩) (hc : w.cell? ⟨b, off, none⟩ = some (.int .u16 x)) (hn : 0 < n) (h : (n : Int) ≥ L) (h2 : (n : Int) ≤ H) (h4 : kd = 4) (h5 : (x == 5) = false) :
    Calls Tryz.prog 106 #[.agg #[.int .i64 k, .int .u16 t, .string nm, .int .i64 lo, .int .i64 hi, .int .i64 un, .int .i64 kd], .slice K n d] w (IsPost (.bool (x == 6)) w) := by
  have hI := inside_any kd (w.alloc (.cells #[.int .i64 k, .int .u16 t, .string nm, .int .i64 lo, .int .i64 hi, .int .i64 un, .int .i64 kd] 172))
  rw [hin] at hI
  have HK := hid (blk_new w (.cells #[.int .i64 k, .int .u16 t, .string nm, .int .i64 lo, .int .i64 hi, .int .i64 un, .int .i64 kd] 172))
  subst hA
  have hn0 : (0 : Int) < (n : Int) := by omega
  have h3 : (kd != 4) = false := by subst h4; rfl
  have HC := hid hc
  clear hc hn h4
  go_enter Tryz.func106, Tryz.ntmps106
  go_wp2_with fail
  refine hI.mono ?_
  rintro e w1 ⟨rfl, hb⟩
  have K1 := hid (blk_below HK.out hb)
  have B1 := hid (cthen (below_alloc (Below.refl w.heap.size w) _) hb)
  have hc1 := pw_cell_below B1.out HC.out
  clear hb hI HK
  obtain ⟨⟨q0, q1, q2, q3, q4, q5, q6⟩, -⟩ := seven K1.out
  go_wp2_with fail
  go_ret
  exact ⟨rfl, B1.out⟩
theorem nkids_any (k t : Int) (nm : ByteArray) (lo hi un kd : Int) (K : Option Addr) (n d : Nat) (xs : List Nd) (w : World) (hn : xs.length = n) (hC : Kd.C k87 w K n xs) :
    Calls Tryz.prog 106 #[.agg #[.int .i64 k, .int .u16 t, .string nm, .int .i64 lo, .int .i64 hi, .int .i64 un, .int .i64 kd], .slice K n d] w (IsPost (.bool (kidsB kd xs)) w) := by
  obtain ⟨C, L, H, hin⟩ : ∃ C L H, inside kd = (C, L, H) := ⟨_, _, _, rfl⟩
  unfold kidsB
  rw [hin, hn]
  simp only
  by_cases h1 : (n : Int) ≥ L
  · by_cases h2 : (n : Int) ≤ H
    · by_cases h4 : kd = 4
      · have hL : L = 1 := by
          subst h4
          have : inside 4 = (1, 1, 1) := rfl
          rw [this] at hin
          injection hin with _ hin
          injection hin with hin _
          exact hin.symm
        have h0 : 0 < xs.length := by omega
        obtain ⟨b, off, B1, d1, B2, d2, rfl, k0, -⟩ := node_at hC 0 h0
        rw [Nat.zero_mul, Nat.add_zero] at k0
        have hx : hd0 xs = (xs[0]).f0 := by
          unfold hd0
          cases xs with
          | nil => simp at h0
          | cons y l => rfl
        rw [decide_eq_true h1, decide_eq_true h2, hx]
        obtain ⟨x, hxx⟩ : ∃ x, (xs[0]).f0 = x := ⟨_, rfl⟩
        rw [hxx] at k0 ⊢
        cases h5 : (x == 5)
        · have := nkids_six k t nm lo hi un kd C L H _ n d w hin b off x rfl k0 (by omega) h1 h2 h4 h5
          subst h4
          simpa using this
        · have := nkids_five k t nm lo hi un kd C L H _ n d w hin b off x rfl k0 (by omega) h1 h2 h4 h5
          subst h4
          simpa using this
      · have h3 : (kd != 4) = true := by simpa using h4
        rw [decide_eq_true h1, decide_eq_true h2, h3]
        exact nkids_plain k t nm lo hi un kd C L H K n d w hin h1 h2 h3
    · rw [decide_eq_false h2, Bool.and_false, Bool.false_and]
      exact nkids_many k t nm lo hi un kd C L H K n d w hin h1 h2
  · rw [decide_eq_false h1, Bool.false_and, Bool.false_and]
    exact nkids_few k t nm lo hi un kd C L H K n d w hin h1
/-- Whether the number in the data of a missing-parameter cause is wrong. -/
def cntB (c t : Int) (D : List Int) : Bool := c == 2 && t == 2 && (decide (D.length < 4) || peekV 4 D 0 != ((D.length : Int) - 4).tdiv 2)
theorem num4_bd {l : List Int} (h : Byt l) (i : Nat) : 0 ≤ peekV 4 l i ∧ peekV 4 l i ≤ 4294967295 := by
  have hb : ∀ t, 0 ≤ l.getD t 0 ∧ l.getD t 0 ≤ 255 := fun t => by
    rw [List.getD_eq_getElem?_getD]
    cases ht : l[t]? with
    | none => simp
    | some x => exact h x (List.mem_of_getElem? ht)
  unfold peekV
  split
  · have := numAt_bd (bs := fun t => l.getD t 0) (i := i) (k := 4) (fun t _ => hb _) 4 (Nat.le_refl 4)
    omega
  · omega
set_option maxRecDepth 100000 in
set_option maxHeartbeats 1000000 in
theorem counted_class (c t : Int) (A : Option Addr) (d : Nat) (D : List Int) (w : World) (hC : BC w A D) (hB : Byt D) (hc : D.length ≤ d) (hl : D.length ≤ 1099511627776) (h1 : (c == 2) = false) :
    Calls Tryz.prog 107 #[.int .i64 c, .int .u16 t, .slice A D.length d] w (IsPost (.bool false) w) := by
  have hN := wnew_any A d D w hC hc hl
  have HB := hid hB
  have HL := hid hl
  clear hC hB hc hl
  go_enter Tryz.func107, Tryz.ntmps107
  go_wp2_with fail
  refine hN.mono ?_
  rintro e w1 ⟨p, A1, d1, rfl, hp, hcur, hC1, hd1, hA1, hb⟩
  have hR := number_any 4 (Or.inr (Or.inr rfl)) p d1 0 A1 D w1 hcur hC1 HB.out hd1 HL.out (Nat.zero_le _)
  have HBW := hid hb
  have HP := hid hp
  clear hcur hC1 hd1 hA1 hb hN
  go_wp2_with fail
  refine hR.mono ?_
  rintro e w2 ⟨rfl, -, hg⟩
  have HB2 := hid (show Below w.heap.size w w2 from pw_below_grown HBW.out (some p) HBW.out.size hg (fun k hk => by cases hk; exact HP.out))
  clear hg hR
  go_wp2_with fail
  go_ret
  exact ⟨rfl, HB2.out⟩
set_option maxRecDepth 100000 in
set_option maxHeartbeats 1000000 in
theorem counted_type (c t : Int) (A : Option Addr) (d : Nat) (D : List Int) (w : World) (hC : BC w A D) (hB : Byt D) (hc : D.length ≤ d) (hl : D.length ≤ 1099511627776) (h1 : (c == 2) = true) (h2 : (t == 2) = false) :
    Calls Tryz.prog 107 #[.int .i64 c, .int .u16 t, .slice A D.length d] w (IsPost (.bool false) w) := by
  have hN := wnew_any A d D w hC hc hl
  have HB := hid hB
  have HL := hid hl
  clear hC hB hc hl
  go_enter Tryz.func107, Tryz.ntmps107
  go_wp2_with fail
  refine hN.mono ?_
  rintro e w1 ⟨p, A1, d1, rfl, hp, hcur, hC1, hd1, hA1, hb⟩
  have hR := number_any 4 (Or.inr (Or.inr rfl)) p d1 0 A1 D w1 hcur hC1 HB.out hd1 HL.out (Nat.zero_le _)
  have HBW := hid hb
  have HP := hid hp
  clear hcur hC1 hd1 hA1 hb hN
  go_wp2_with fail
  refine hR.mono ?_
  rintro e w2 ⟨rfl, -, hg⟩
  have HB2 := hid (show Below w.heap.size w w2 from pw_below_grown HBW.out (some p) HBW.out.size hg (fun k hk => by cases hk; exact HP.out))
  clear hg hR
  go_wp2_with fail
  go_ret
  exact ⟨rfl, HB2.out⟩
set_option maxRecDepth 100000 in
set_option maxHeartbeats 1000000 in
theorem counted_short (c t : Int) (A : Option Addr) (d : Nat) (D : List Int) (w : World) (hC : BC w A D) (hB : Byt D) (hc : D.length ≤ d) (hl : D.length ≤ 1099511627776) (h1 : (c == 2) = true) (h2 : (t == 2) = true) (h3 : D.length < 4) :
    Calls Tryz.prog 107 #[.int .i64 c, .int .u16 t, .slice A D.length d] w (IsPost (.bool true) w) := by
  have hN := wnew_any A d D w hC hc hl
  have HB := hid hB
  have HL := hid hl
  clear hC hB hc hl
  go_enter Tryz.func107, Tryz.ntmps107
  go_wp2_with fail
  refine hN.mono ?_
  rintro e w1 ⟨p, A1, d1, rfl, hp, hcur, hC1, hd1, hA1, hb⟩
  have hR := number_any 4 (Or.inr (Or.inr rfl)) p d1 0 A1 D w1 hcur hC1 HB.out hd1 HL.out (Nat.zero_le _)
  have HBW := hid hb
  have HP := hid hp
  clear hcur hC1 hd1 hA1 hb hN
  go_wp2_with fail
  refine hR.mono ?_
  rintro e w2 ⟨rfl, -, hg⟩
  have HB2 := hid (show Below w.heap.size w w2 from pw_below_grown HBW.out (some p) HBW.out.size hg (fun k hk => by cases hk; exact HP.out))
  clear hg hR
  rw [decide_eq_false (show ¬ 4 ≤ D.length - 0 by omega)]
  go_wp2_with fail
  go_ret
  exact ⟨rfl, HB2.out⟩
set_option maxRecDepth 100000 in
set_option maxHeartbeats 1000000 in
theorem counted_long (c t : Int) (A : Option Addr) (d : Nat) (D : List Int) (w : World) (hC : BC w A D) (hB : Byt D) (hc : D.length ≤ d) (hl : D.length ≤ 1099511627776) (h1 : (c == 2) = true) (h2 : (t == 2) = true) (h3 : 4 ≤ D.length) :
    Calls Tryz.prog 107 #[.int .i64 c, .int .u16 t, .slice A D.length d] w (IsPost (.bool (peekV 4 D 0 != ((D.length : Int) - 4).tdiv 2)) w) := by
  have hN := wnew_any A d D w hC hc hl
  have HB := hid hB
  have HL := hid hl
  clear hC hB hc hl
  go_enter Tryz.func107, Tryz.ntmps107
  go_wp2_with fail
  refine hN.mono ?_
  rintro e w1 ⟨p, A1, d1, rfl, hp, hcur, hC1, hd1, hA1, hb⟩
  have hR := number_any 4 (Or.inr (Or.inr rfl)) p d1 0 A1 D w1 hcur hC1 HB.out hd1 HL.out (Nat.zero_le _)
  have HBW := hid hb
  have HP := hid hp
  clear hcur hC1 hd1 hA1 hb hN
  go_wp2_with fail
  refine hR.mono ?_
  rintro e w2 ⟨rfl, -, hg⟩
  have HB2 := hid (show Below w.heap.size w w2 from pw_below_grown HBW.out (some p) HBW.out.size hg (fun k hk => by cases hk; exact HP.out))
  clear hg hR
  rw [decide_eq_true (show 4 ≤ D.length - 0 by omega)]
  obtain ⟨X, hX⟩ : ∃ X, peekV 4 D 0 = X := ⟨_, rfl⟩
  obtain ⟨Y, hY⟩ : ∃ Y, ((D.length : Int) - 4).tdiv 2 = Y := ⟨_, rfl⟩
  have hx0 := num4_bd HB.out 0
  rw [hX] at hx0 ⊢
  have hw : wrap64 ((D.length : Int) - 4) = (D.length : Int) - 4 := by have := HL.out; unfold wrap64; omega
  have hw2 : wrap64 (((D.length : Int) - 4).tdiv 2) = Y := by rw [hY]; have h := HL.out; rw [Int.tdiv_eq_ediv_of_nonneg (by omega)] at hY; unfold wrap64; omega
  have hx1 : wrap64 X = X := by unfold wrap64; omega
  rw [hY]
  have hwA : wrap64 ((wrap64 ((D.length : Int) - 4)).tdiv 2) = Y := by rw [hw, hw2]
  have HX := hid hX
  have HY := hid hY
  clear hX hY hx0 hw hw2
  go_wp2_with fail
  go_ret
  exact ⟨by rw [HX.out, HY.out]; first | rfl | simp [hwA, hx1], HB2.out⟩
theorem counted_any (c t : Int) (A : Option Addr) (d : Nat) (D : List Int) (w : World) (hC : BC w A D) (hB : Byt D) (hc : D.length ≤ d) (hl : D.length ≤ 1099511627776) :
    Calls Tryz.prog 107 #[.int .i64 c, .int .u16 t, .slice A D.length d] w (IsPost (.bool (cntB c t D)) w) := by
  unfold cntB
  cases h1 : (c == 2)
  · exact counted_class c t A d D w hC hB hc hl h1
  · cases h2 : (t == 2)
    · exact counted_type c t A d D w hC hB hc hl h1 h2
    · by_cases h3 : D.length < 4
      · rw [decide_eq_true h3]
        exact counted_short c t A d D w hC hB hc hl h1 h2 h3
      · rw [decide_eq_false h3]
        exact counted_long c t A d D w hC hB hc hl h1 h2 (by omega)
end Bn
end Go.Proofs.YtmfmomfhiieilaaGreatDoor
