/- The law 'ActionCuts': the walk. -/
import Derived.Test.YtjgcdjfeglhalaaDoorCut
namespace Go.Proofs.YtjgcdjfeglhalaaDoor
open Go.RowKit Go.Proofs.YtjgcdjfeglhalaaDoorW.PrintWords
set_option maxHeartbeats 2000000 in
theorem cuts_any (l m : List Int) (w : World) (A : Option Addr) (c : Nat) (A1 : Option Addr) (c1 : Nat) (hC : Kd.C (Kd.int .i64) w A l.length l) (hc : l.length ≤ c) (hC1 : Kd.C (Kd.int .i64) w A1 m.length m) (hc1 : m.length ≤ c1) (hg : GTab w) (h2 : l.length ≤ 200) (h3 : m.length ≤ 200) : Calls Tryd.prog 5 #[.slice A l.length c, .slice A1 m.length c1] w (IsPost (.bool true) w) := by
  have hG := hid hg
  have X := hid hC
  have Y := hid hc
  have X1 := hid hC1
  have Y1 := hid hc1
  have hm := hC.2.1
  clear hg hC hC1
  have ht0 : 0 ≤ stopS l 0 := stopS_ge l 0
  have ht1 : stopS l 0 ≤ l.length := by have := stopS_le l 0; omega
  obtain ⟨k, hk⟩ := Int.eq_ofNat_of_zero_le ht0
  rw [hk] at ht0 ht1
  have hkl : k ≤ l.length := by omega
  have Hk := hid hk
  clear hk ht0 ht1
  obtain ⟨q, hq⟩ : ∃ q, q = l.take k := ⟨_, rfl⟩
  have hql : q.length = k := by rw [hq, List.length_take]; omega
  have ct := cut_take l 0
  rw [Hk.out, show ((k : Int) - 0).toNat = k by omega, ← hq] at ct
  obtain ⟨ct1, ct2, tl, ct3⟩ := ct
  have cm := cut_more m l 0
  have cst := play_stopped l 0
  rw [Hk.out] at cst
  have Pl1 := (play_len l 0).1
  have Pl2 := (play_len l 0).2
  have Hq := hid hq
  have HL := hid hql
  clear hq hql
  obtain ⟨p, hp⟩ : ∃ p, p = (playS l 0).1 := ⟨_, rfl⟩
  obtain ⟨r, hr⟩ : ∃ r, r = (playS l 0).2.1 := ⟨_, rfl⟩
  obtain ⟨s, hs⟩ : ∃ s, s = (playS l 0).2.2 := ⟨_, rfl⟩
  obtain ⟨r0, hr0⟩ : ∃ r0, r0 = (playS q 0).2.1 := ⟨_, rfl⟩
  rw [← hr, ← hr0] at ct3
  rw [← hp] at ct1 Pl1
  rw [← hr] at Pl2
  rw [← hs] at cst
  have hrl : r0.length ≤ r.length := by rw [ct3]; simp
  have hrt : r.take r0.length = r0 := by rw [ct3]; simp
  have Hp := hid hp
  have Hr := hid hr
  have Hs := hid hs
  have Hr0 := hid hr0
  have C1 := hid ct1
  have C2 := hid ct2
  have CM := hid cm
  have CS := hid cst
  have RT := hid hrt
  have P1 := hid (show p.length ≤ 1000000 by omega)
  have P2 := hid (show r.length ≤ 1000000 by omega)
  have P3 := hid (show r0.length ≤ 1000000 by omega)
  clear hp hr hs hr0 ct1 ct2 ct3 cm cst Pl1 Pl2 hrt
  go_enter Tryd.func5, Tryd.ntmps5
  go_wp2_with fail
  refine (awake_any _ hG.out).mono ?_
  rintro e w1 ⟨rfl, hb⟩
  have B1 := hid hb
  clear hb
  go_wp2_with fail
  refine (stop_any l h2 _ _ _ (Kd.C_below X.out B1.out) Y.out).mono ?_
  rw [Hk.out]
  rintro e w2 ⟨rfl, hb⟩
  have B2 := hid (cthen B1.out hb)
  clear hb
  go_wp2_with fail
  refine (play_any l (by omega) _ _ _ (Kd.C_below X.out B2.out) Y.out).mono ?_
  rw [← Hp.out, ← Hr.out, ← Hs.out]
  rintro e w3 ⟨v0, v1, rfl, hr0, hr1, hb⟩
  obtain ⟨A2, c2, rfl, hc2, hC2⟩ := Kd.R_reads hr0
  obtain ⟨A3, c3, rfl, hc3, hC3⟩ := Kd.R_reads hr1
  have B3 := hid (cthen B2.out hb)
  have X2 := hid hC2
  have X3 := hid hC3
  have Y2 := hid hc2
  have Y3 := hid hc3
  clear hr0 hr1 hb hC2 hC3 hc2 hc3
  go_wp2_with fail
  rw [← HL.out]
  refine (play_any q (by have := HL.out; omega) _ _ _ (by rw [Hq.out]; have := Kd.C_take (Kd.C_below X.out B3.out) (m := k) hkl; exact this) (by have := HL.out; omega)).mono ?_
  rw [C1.out, C2.out, ← Hr0.out]
  rintro e w4 ⟨v2, v3, rfl, hr0, hr1, hb⟩
  obtain ⟨A4, c4, rfl, hc4, hC4⟩ := Kd.R_reads hr0
  obtain ⟨A5, c5, rfl, hc5, hC5⟩ := Kd.R_reads hr1
  have B4 := hid (cthen B3.out hb)
  have D4 := hid hb
  have X4 := hid hC4
  have X5 := hid hC5
  have Y4 := hid hc4
  have Y5 := hid hc5
  clear hr0 hr1 hb hC4 hC5 hc4 hc5
  go_wp2_with (at_builtin; refine append_cut _ rfl _ _ rfl A l rfl (Kd.C_below X.out B4.out) A1 m c1 rfl (Kd.C_below X1.out B4.out) ⟨h2, h3⟩ ?_; intro A6 c6 w5 hc6 hC6 hb6; have B5 := hid (cthen B4.out hb6); have D5 := hid (cthen D4.out hb6); have E5 := hid hb6; have X6 := hid hC6; have Y6 := hid hc6; clear hc6 hC6 hb6)
  have Lm := hid (show (l ++ m).length = l.length + m.length by simp)
  rw [← Lm.out]
  refine (play_any (l ++ m) (by have := Lm.out; omega) _ _ _ X6.out Y6.out).mono ?_
  obtain ⟨p2, hp2⟩ : ∃ p2, p2 = (playS (l ++ m) 0).1 := ⟨_, rfl⟩
  obtain ⟨r2, hr2⟩ : ∃ r2, r2 = (playS (l ++ m) 0).2.1 := ⟨_, rfl⟩
  obtain ⟨s2, hs2⟩ : ∃ s2, s2 = (playS (l ++ m) 0).2.2 := ⟨_, rfl⟩
  rw [← hp2, ← hr2, ← hs2]
  rintro e w6 ⟨v4, v5, rfl, hr0, hr1, hb⟩
  obtain ⟨A7, c7, rfl, hc7, hC7⟩ := Kd.R_reads hr0
  obtain ⟨A8, c8, rfl, hc8, hC8⟩ := Kd.R_reads hr1
  have B6 := hid (cthen B5.out hb)
  have D6 := hid (cthen D5.out hb)
  have E6 := hid (cthen E5.out hb)
  have X7 := hid hC7
  have X8 := hid hC8
  have Y7 := hid hc7
  have Y8 := hid hc8
  have HS2 := hid (show s = true → p2 = p ∧ r2 = r ∧ s2 = true from fun h => by
    have hcm := CM.out (by rw [← Hs.out]; exact h)
    rw [hp2, hr2, hs2, hcm, Hp.out, Hr.out, ← Hs.out]
    exact ⟨rfl, rfl, h⟩)
  clear hr0 hr1 hb hC7 hC8 hc7 hc8 hp2 hr2 hs2
  go_wp2_with fail
  refine (eq_any p P1.out _ _ _ _ _ (Kd.C_below X2.out D6.out) Y2.out (Kd.C_below X4.out E6.out) Y4.out).mono ?_
  rintro e w7 ⟨rfl, hb⟩
  have B7 := hid (cthen B6.out hb)
  have D7 := hid (cthen D6.out hb)
  have E7 := hid (cthen E6.out hb)
  have F7 := hid hb
  clear hb
  have hrl' : ¬ (r.length : Int) < (r0.length : Int) := by omega
  have hrc : (r0.length : Int) ≤ (c3 : Int) := by have := Y3.out; omega
  have hrc2 : r0.length ≤ c3 := by have := Y3.out; omega
  go_wp2_with fail
  refine (eq_any r0 P3.out _ _ _ _ _ (by have := Kd.C_take (Kd.C_below X3.out D7.out) (m := r0.length) hrl; rw [RT.out] at this; exact this) (Nat.le_trans hrl Y3.out) (Kd.C_below X5.out E7.out) Y5.out).mono ?_
  rintro e w8 ⟨rfl, hb⟩
  have B8 := hid (cthen B7.out hb)
  have D8 := hid (cthen D7.out hb)
  have F8 := hid (cthen F7.out hb)
  clear hb
  cases hsv : s
  · have hks := hid (show ((k : Int) == (l.length : Int)) = true by have := CS.out; rw [hsv] at this; simp at this; simp; omega)
    rw [HL.out]
    go_wp2_with fail
    go_ret
    exact ⟨by show Ending.returned (.bool ((k : Int) == (l.length : Int))) = _; rw [hks.out], B8.out⟩
  · have hs2 := HS2.out hsv
    obtain ⟨rfl, rfl, rfl⟩ := hs2
    go_wp2_with fail
    refine (eq_any p2 P1.out _ _ _ _ _ (Kd.C_below X7.out F8.out) Y7.out (Kd.C_below X2.out D8.out) Y2.out).mono ?_
    rintro e w9 ⟨rfl, hb⟩
    have B9 := hid (cthen B8.out hb)
    have D9 := hid (cthen D8.out hb)
    have F9 := hid (cthen F8.out hb)
    clear hb
    go_wp2_with fail
    refine (eq_any r2 P2.out _ _ _ _ _ (Kd.C_below X8.out F9.out) Y8.out (Kd.C_below X3.out D9.out) Y3.out).mono ?_
    rintro e w10 ⟨rfl, hb⟩
    have B10 := hid (cthen B9.out hb)
    clear hb
    go_wp2_with fail
    go_ret
    exact ⟨rfl, B10.out⟩
set_option maxHeartbeats 1000000 in
theorem cuts_long (n m : Nat) (w : World) (A : Option Addr) (c : Nat) (A1 : Option Addr) (c1 : Nat) (hn : n ≤ 9223372036854775807) (hm : m ≤ 9223372036854775807) (hg : GTab w) (h : 200 < n ∨ 200 < m) : Calls Tryd.prog 5 #[.slice A n c, .slice A1 m c1] w (IsPost (.bool true) w) := by
  have hG := hid hg
  clear hg
  by_cases h200 : 200 < n
  all_goals
    have hmm : ¬ 200 < n → 200 < m := fun g => by omega
    try have hmm2 := hmm h200
    clear hmm h
    go_enter Tryd.func5, Tryd.ntmps5
    go_wp2_with fail
    refine (awake_any _ hG.out).mono ?_
    rintro e w1 ⟨rfl, hb⟩
    have B1 := hid hb
    clear hb
    go_wp2_with fail
    refine (awake_any _ (hG.out.below B1.out)).mono ?_
    rintro e w2 ⟨rfl, hb⟩
    have B2 := hid (cthen B1.out hb)
    clear hb
    go_wp2_with fail
    go_ret
    exact ⟨rfl, B2.out⟩
end Go.Proofs.YtjgcdjfeglhalaaDoor
