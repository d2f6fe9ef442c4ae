/- The law 'ActionOpposite': the walk. -/
import Derived.Test.YtjgcdjfeglhalaaDoorAwake
import Derived.Laws.BitsAllLaws
namespace Go.Proofs.YtjgcdjfeglhalaaDoor
open Go.RowKit Go.Proofs.YtjgcdjfeglhalaaDoorW.PrintWords
theorem xor_half (n k : Nat) (q : Nat) (hq : n / 2 ^ k = q) (h4 : q < 4) : (n ^^^ 2 ^ (k + 1)) / 2 ^ k = if q < 2 then q + 2 else q - 2 := by
  have e : (n ^^^ 2 ^ (k + 1)) / 2 ^ k = q ^^^ 2 := by
    rw [← Nat.shiftRight_eq_div_pow, Nat.shiftRight_xor_distrib, Nat.shiftRight_eq_div_pow, Nat.shiftRight_eq_div_pow, hq]
    congr 1
    rw [Nat.pow_succ, Nat.mul_div_cancel_left _ (Nat.two_pow_pos k)]
  rw [e]
  have : q = 0 ∨ q = 1 ∨ q = 2 ∨ q = 3 := by omega
  rcases this with rfl | rfl | rfl | rfl <;> rfl
/-- One stops, the other one skips; reports for both or neither. -/
structure Opp (a b : Int) (s r : Bool) : Prop where
  sa : (a == 0 || a == 1) = s
  sb : (b == 0 || b == 1) = !s
  ra : (a == 1 || a == 3) = r
  rb : (b == 1 || b == 3) = r
theorem opp_of {a b : Int} (h : (0 ≤ a ∧ a ≤ 1 ∧ b = a + 2) ∨ (2 ≤ a ∧ a ≤ 3 ∧ b = a - 2)) : ∃ s r, Opp a b s r := by
  have h' : (a = 0 ∧ b = 2) ∨ (a = 1 ∧ b = 3) ∨ (a = 2 ∧ b = 0) ∨ (a = 3 ∧ b = 1) := by omega
  rcases h' with ⟨rfl, rfl⟩ | ⟨rfl, rfl⟩ | ⟨rfl, rfl⟩ | ⟨rfl, rfl⟩ <;> exact ⟨_, _, rfl, rfl, rfl, rfl⟩
/-- Two actions as the law compares them. -/
def Pair (a b : Int) : Prop := a = 4 ∨ (a < 4 ∧ b = 4) ∨ (a < 4 ∧ b < 4 ∧ ∃ s r, Opp a b s r)
theorem xor_u8 (t : Int) (h0 : 0 ≤ t) (h1 : t ≤ 255) : (0 ≤ bits BinOp.xor IntKind.u8 t 128 ∧ bits BinOp.xor IntKind.u8 t 128 ≤ 255) ∧ bits BinOp.xor IntKind.u8 t 128 / 64 = if t / 64 < 2 then t / 64 + 2 else t / 64 - 2 := by
  obtain ⟨n, rfl⟩ := Int.eq_ofNat_of_zero_le h0
  rw [u8_xor _ _ h0 (by omega) (by decide) (by decide)]
  have hx : n ^^^ 128 < 256 := Nat.xor_lt_two_pow (n := 8) (by omega) (by decide)
  have hq : (n ^^^ 128) / 64 = if n / 64 < 2 then n / 64 + 2 else n / 64 - 2 := xor_half n 6 (n / 64) rfl (by omega)
  simp only [Int.toNat_natCast, Int.reduceToNat] at *
  refine ⟨by omega, ?_⟩
  split at hq <;> split <;> omega
theorem xor_u16 (t : Int) (h0 : 0 ≤ t) (h1 : t ≤ 65535) : (0 ≤ bits BinOp.xor IntKind.u16 t 32768 ∧ bits BinOp.xor IntKind.u16 t 32768 ≤ 65535) ∧ bits BinOp.xor IntKind.u16 t 32768 / 16384 = if t / 16384 < 2 then t / 16384 + 2 else t / 16384 - 2 := by
  obtain ⟨n, rfl⟩ := Int.eq_ofNat_of_zero_le h0
  rw [u16_xor _ _ h0 (by omega) (by decide) (by decide)]
  have hx : n ^^^ 32768 < 65536 := Nat.xor_lt_two_pow (n := 16) (by omega) (by decide)
  have hq : (n ^^^ 32768) / 16384 = if n / 16384 < 2 then n / 16384 + 2 else n / 16384 - 2 := xor_half n 14 (n / 16384) rfl (by omega)
  simp only [Int.toNat_natCast, Int.reduceToNat] at *
  refine ⟨by omega, ?_⟩
  split at hq <;> split <;> omega
theorem pair_of {k x y : Int} {p q : Bool} (hy : x / k < 4) (h0 : 0 ≤ x / k) (hq : y / k = if x / k < 2 then x / k + 2 else x / k - 2) : Pair (if p = true then 4 else x / k) (if q = true then 4 else y / k) := by
  unfold Pair
  cases p
  · cases q
    · simp only [Bool.false_eq_true, if_false]
      right; right
      split at hq
      · exact ⟨by omega, by omega, opp_of (.inl ⟨by omega, by omega, by omega⟩)⟩
      · exact ⟨by omega, by omega, opp_of (.inr ⟨by omega, by omega, by omega⟩)⟩
    · simp only [Bool.false_eq_true, if_false, if_true]
      exact .inr (.inl ⟨by omega, trivial⟩)
  · simp only [if_true]
    exact .inl trivial
theorem chunk_pair (t : Int) (h0 : 0 ≤ t) (h1 : t ≤ 255) : Pair (chunkAct t) (chunkAct (bits BinOp.xor IntKind.u8 t 128)) := by
  unfold chunkAct
  exact pair_of (by omega) (by omega) (xor_u8 t h0 h1).2
theorem param_pair (t : Int) (h0 : 0 ≤ t) (h1 : t ≤ 65535) : Pair (pAct t) (pAct (bits BinOp.xor IntKind.u16 t 32768)) := by
  unfold pAct
  exact pair_of (by omega) (by omega) (xor_u16 t h0 h1).2
theorem stops_at (n : Int) (s : Bool) (w : World) (h : (n == 0 || n == 1) = s) : Calls Tryd.prog 14 #[.int .i64 n] w (IsPost (.bool s) w) := h ▸ stops_any n w
theorem reports_at (n : Int) (s : Bool) (w : World) (h : (n == 1 || n == 3) = s) : Calls Tryd.prog 15 #[.int .i64 n] w (IsPost (.bool s) w) := h ▸ reports_any n w
set_option maxHeartbeats 4000000 in
theorem opposite_any (t u : Int) (w : World) (h0 : 0 ≤ t) (h1 : t ≤ 255) (h2 : 0 ≤ u) (h3 : u ≤ 65535) (hg : GTab w) : Calls Tryd.prog 6 #[.int .u8 t, .int .u16 u] w (IsPost (.bool true) w) := by
  have hG := hid hg
  have P1 := chunk_pair t h0 h1
  have P2 := param_pair u h2 h3
  have X1 := (xor_u8 t h0 h1).1
  have X2 := (xor_u16 u h2 h3).1
  generalize hx : bits BinOp.xor IntKind.u8 t 128 = x at P1 X1
  generalize hy : bits BinOp.xor IntKind.u16 u 32768 = y at P2 X2
  have Q1 := hid P1
  have Q2 := hid P2
  clear hg P1 P2
  go_enter Tryd.func6, Tryd.ntmps6
  go_wp2_with fail
  refine (awake_any _ hG.out).mono ?_
  rintro e w1 ⟨rfl, hb⟩
  have B1 := hid hb
  clear hb
  go_wp2_with fail
  refine (chunk_any t _ h0 h1 (hG.out.below B1.out).1).mono ?_
  rintro e w2 ⟨rfl, hb⟩
  have B2 := hid (cthen B1.out hb)
  clear hb
  go_wp2_with fail
  refine (chunk_any x _ X1.1 X1.2 (hG.out.below B2.out).1).mono ?_
  rintro e w3 ⟨rfl, hb⟩
  have B3 := hid (cthen B2.out hb)
  clear hb
  go_wp2_with fail
  refine (param_any u _ h2 h3).mono ?_
  rintro e w4 ⟨rfl, hb⟩
  have B4 := hid (cthen B3.out hb)
  clear hb
  go_wp2_with fail
  refine (param_any y _ X2.1 X2.2).mono ?_
  rintro e w5 ⟨rfl, hb⟩
  have B5 := hid (cthen B4.out hb)
  clear hb hx hy
  generalize chunkAct t = a at *
  generalize chunkAct x = b at *
  generalize pAct u = c at *
  generalize pAct y = d at *
  rcases Q1.out with ha | ⟨ha, hb⟩ | ⟨ha, hb, s, r, hab⟩
  · have ha' : ¬ a < 4 := by omega
    clear ha Q1
    rcases Q2.out with hc | ⟨hc, hd⟩ | ⟨hc, hd, s, r, hcd⟩
    · have hc' : (c == 4) = true := by simp [hc]
      clear hc Q2
      go_wp2_with fail
      go_ret
      exact ⟨rfl, B5.out⟩
    · have hc' : (c == 4) = false := by simp; omega
      have hd' : (d == 4) = true := by simp [hd]
      clear hc hd Q2
      go_wp2_with fail
      go_ret
      exact ⟨rfl, B5.out⟩
    · have hc' : (c == 4) = false := by simp; omega
      have hd' : (d == 4) = false := by simp; omega
      have n2 : (s != !s) = true := by cases s <;> rfl
      clear hc hd Q2
      go_wp2_with fail
      refine (stops_at c s _ hcd.sa).mono ?_
      rintro e v6 ⟨rfl, hb6⟩
      have C6 := hid (cthen B5.out hb6)
      clear hb6
      go_wp2_with fail
      refine (stops_at d (!s) _ hcd.sb).mono ?_
      rintro e v7 ⟨rfl, hb7⟩
      have C7 := hid (cthen C6.out hb7)
      clear hb7
      go_wp2_with fail
      refine (reports_at c r _ hcd.ra).mono ?_
      rintro e v8 ⟨rfl, hb8⟩
      have C8 := hid (cthen C7.out hb8)
      clear hb8
      go_wp2_with fail
      refine (reports_at d r _ hcd.rb).mono ?_
      rintro e v9 ⟨rfl, hb9⟩
      have C9 := hid (cthen C8.out hb9)
      clear hb9
      go_wp2_with fail
      go_ret
      exact ⟨rfl, C9.out⟩
  · have hb' : ¬ b < 4 := by omega
    clear hb Q1
    rcases Q2.out with hc | ⟨hc, hd⟩ | ⟨hc, hd, s, r, hcd⟩
    · have hc' : (c == 4) = true := by simp [hc]
      clear hc Q2
      go_wp2_with fail
      go_ret
      exact ⟨rfl, B5.out⟩
    · have hc' : (c == 4) = false := by simp; omega
      have hd' : (d == 4) = true := by simp [hd]
      clear hc hd Q2
      go_wp2_with fail
      go_ret
      exact ⟨rfl, B5.out⟩
    · have hc' : (c == 4) = false := by simp; omega
      have hd' : (d == 4) = false := by simp; omega
      have n2 : (s != !s) = true := by cases s <;> rfl
      clear hc hd Q2
      go_wp2_with fail
      refine (stops_at c s _ hcd.sa).mono ?_
      rintro e v6 ⟨rfl, hb6⟩
      have C6 := hid (cthen B5.out hb6)
      clear hb6
      go_wp2_with fail
      refine (stops_at d (!s) _ hcd.sb).mono ?_
      rintro e v7 ⟨rfl, hb7⟩
      have C7 := hid (cthen C6.out hb7)
      clear hb7
      go_wp2_with fail
      refine (reports_at c r _ hcd.ra).mono ?_
      rintro e v8 ⟨rfl, hb8⟩
      have C8 := hid (cthen C7.out hb8)
      clear hb8
      go_wp2_with fail
      refine (reports_at d r _ hcd.rb).mono ?_
      rintro e v9 ⟨rfl, hb9⟩
      have C9 := hid (cthen C8.out hb9)
      clear hb9
      go_wp2_with fail
      go_ret
      exact ⟨rfl, C9.out⟩
  · clear Q1
    have n1 : (s == !s) = false := by cases s <;> rfl
    go_wp2_with fail
    refine (stops_at a s _ hab.sa).mono ?_
    rintro e w6 ⟨rfl, hb6⟩
    have B6 := hid (cthen B5.out hb6)
    clear hb6
    go_wp2_with fail
    refine (stops_at b (!s) _ hab.sb).mono ?_
    rintro e w7 ⟨rfl, hb7⟩
    have B7 := hid (cthen B6.out hb7)
    clear hb7
    go_wp2_with fail
    refine (reports_at a r _ hab.ra).mono ?_
    rintro e w8 ⟨rfl, hb8⟩
    have B8 := hid (cthen B7.out hb8)
    clear hb8
    go_wp2_with fail
    refine (reports_at b r _ hab.rb).mono ?_
    rintro e w9 ⟨rfl, hb9⟩
    have B9 := hid (cthen B8.out hb9)
    clear hb9 hab
    rcases Q2.out with hc | ⟨hc, hd⟩ | ⟨hc, hd, s', r', hcd⟩
    · have hc' : (c == 4) = true := by simp [hc]
      clear hc Q2
      go_wp2_with fail
      go_ret
      exact ⟨rfl, B9.out⟩
    · have hc' : (c == 4) = false := by simp; omega
      have hd' : (d == 4) = true := by simp [hd]
      clear hc hd Q2
      go_wp2_with fail
      go_ret
      exact ⟨rfl, B9.out⟩
    · have hc' : (c == 4) = false := by simp; omega
      have hd' : (d == 4) = false := by simp; omega
      have n2 : (s' != !s') = true := by cases s' <;> rfl
      clear hc hd Q2
      go_wp2_with fail
      refine (stops_at c s' _ hcd.sa).mono ?_
      rintro e v6 ⟨rfl, hb6⟩
      have C6 := hid (cthen B9.out hb6)
      clear hb6
      go_wp2_with fail
      refine (stops_at d (!s') _ hcd.sb).mono ?_
      rintro e v7 ⟨rfl, hb7⟩
      have C7 := hid (cthen C6.out hb7)
      clear hb7
      go_wp2_with fail
      refine (reports_at c r' _ hcd.ra).mono ?_
      rintro e v8 ⟨rfl, hb8⟩
      have C8 := hid (cthen C7.out hb8)
      clear hb8
      go_wp2_with fail
      refine (reports_at d r' _ hcd.rb).mono ?_
      rintro e v9 ⟨rfl, hb9⟩
      have C9 := hid (cthen C8.out hb9)
      clear hb9
      go_wp2_with fail
      go_ret
      exact ⟨rfl, C9.out⟩
end Go.Proofs.YtjgcdjfeglhalaaDoor
