/- The law 'ActionPlays': the walk. -/
import Derived.Test.YtjgcdjfeglhalaaDoorAwake
import Derived.Test.YtjgcdjfeglhalaaDoorPure
namespace Go.Proofs.YtjgcdjfeglhalaaDoor
open Go.RowKit Go.Proofs.YtjgcdjfeglhalaaDoorW.PrintWords
def OwnPost (l : List Int) (w : World) (e : Ending) (w' : World) : Prop := ∃ v : Value, e = .returned v ∧ Kd.R (Kd.int .i64) 3 w' w.heap.size (fun _ => True) v l ∧ Below w.heap.size w w'
theorem processed_any (l : List Int) (hl : l.length ≤ 200) (w : World) (A : Option Addr) (c : Nat) (hC : Kd.C (Kd.int .i64) w A l.length l) (hc : l.length ≤ c) : Calls Tryd.prog 18 #[.slice A l.length c] w (OwnPost (playS l 0).1 w) :=
  Pl.wharfref23_Processed.calls 1000 A c l _ w hC hc (proc_f l hl 1000 (by omega))
theorem reported_any (l : List Int) (hl : l.length ≤ 200) (w : World) (A : Option Addr) (c : Nat) (hC : Kd.C (Kd.int .i64) w A l.length l) (hc : l.length ≤ c) : Calls Tryd.prog 19 #[.slice A l.length c] w (OwnPost (playS l 0).2.1 w) :=
  Pl.wharfref23_Reported.calls 1000 A c l _ w hC hc (rep_f l hl 1000 (by omega))
theorem stop_any (l : List Int) (hl : l.length ≤ 200) (w : World) (A : Option Addr) (c : Nat) (hC : Kd.C (Kd.int .i64) w A l.length l) (hc : l.length ≤ c) : Calls Tryd.prog 20 #[.slice A l.length c] w (IsPost (.int .i64 (stopS l 0)) w) :=
  (Pl.wharfref23_Stop.calls 1000 A c l _ w hC hc (stop_f l hl 1000 (by omega))).mono fun _ _ ⟨he, hd⟩ => ⟨he, hd.below⟩
theorem play_any (l : List Int) (hl : l.length ≤ 999) (w : World) (A : Option Addr) (c : Nat) (hC : Kd.C (Kd.int .i64) w A l.length l) (hc : l.length ≤ c) :
    Calls Tryd.prog 16 #[.slice A l.length c] w fun e w' => ∃ v0 v1 : Value, e = .returned (.tuple #[v0, v1, .bool (playS l 0).2.2]) ∧ Kd.R (Kd.int .i64) 3 w' w.heap.size (fun _ => True) v0 (playS l 0).1 ∧ Kd.R (Kd.int .i64) 3 w' w.heap.size (fun _ => True) v1 (playS l 0).2.1 ∧ Below w.heap.size w w' :=
  play_at l (playS l 0).1 (playS l 0).2.1 (playS l 0).2.2 1000 w A c hC hc (play_f l (by omega) 1000 (by omega))
theorem eq_any (l : List Int) (hl : l.length ≤ 1000000) (w : World) (A A1 : Option Addr) (c c1 : Nat) (hC : Kd.C (Kd.int .i64) w A l.length l) (hc : l.length ≤ c) (hC1 : Kd.C (Kd.int .i64) w A1 l.length l) (hc1 : l.length ≤ c1) : Calls Tryd.prog 17 #[.slice A l.length c, .slice A1 l.length c1] w (IsPost (.bool true) w) :=
  eq_at l l true (l.length + 1) w A A1 c c1 hC hc hC1 hc1 (eq_f l hl)

set_option maxHeartbeats 1000000 in
theorem plays_any (l : List Int) (w : World) (A : Option Addr) (c : Nat) (hC : Kd.C (Kd.int .i64) w A l.length l) (hc : l.length ≤ c) (hg : GTab w) : Calls Tryd.prog 4 #[.slice A l.length c] w (IsPost (.bool true) w) := by
  have hG := hid hg
  have X := hid hC
  have Y := hid hc
  have hm := hC.2.1
  clear hg hC hc
  by_cases h200 : 200 < l.length
  · go_enter Tryd.func4, Tryd.ntmps4
    go_wp2_with fail
    refine (awake_any _ hG.out).mono ?_
    rintro e w1 ⟨rfl, hb⟩
    have B1 := hid hb
    clear hb
    go_wp2_with fail
    refine (awake_any _ (hG.out.below B1.out)).mono ?_
    rintro e w2 ⟨rfl, hb⟩
    have B2 := hid (cthen B1.out hb)
    clear hb
    go_wp2_with fail
    go_ret
    exact ⟨rfl, B2.out⟩
  · have Hl := hid (show l.length ≤ 200 by omega)
    obtain ⟨p, hp⟩ : ∃ p, p = (playS l 0).1 := ⟨_, rfl⟩
    obtain ⟨r, hr⟩ : ∃ r, r = (playS l 0).2.1 := ⟨_, rfl⟩
    obtain ⟨s, hs⟩ : ∃ s, s = (playS l 0).2.2 := ⟨_, rfl⟩
    obtain ⟨t, ht⟩ : ∃ t, t = stopS l 0 := ⟨_, rfl⟩
    have hst : (s == decide (t < (l.length : Int))) = true := by rw [hs, ht, play_stopped]; simp
    have Lp := hid (show p.length ≤ 1000000 by rw [hp]; have := (play_len l 0).1; have := Hl.out; omega)
    have Lr := hid (show r.length ≤ 1000000 by rw [hr]; have := (play_len l 0).2; have := Hl.out; omega)
    have Hp := hid hp
    have Hr := hid hr
    have Hs := hid hs
    have Ht := hid ht
    clear hp hr hs ht
    go_enter Tryd.func4, Tryd.ntmps4
    go_wp2_with fail
    refine (awake_any _ hG.out).mono ?_
    rintro e w1 ⟨rfl, hb⟩
    have B1 := hid hb
    clear hb
    go_wp2_with fail
    refine (play_any l (Nat.le_trans Hl.out (by decide)) _ _ _ (Kd.C_below X.out B1.out) Y.out).mono ?_
    rw [← Hp.out, ← Hr.out, ← Hs.out]
    rintro e w2 ⟨v0, v1, rfl, hr0, hr1, hb⟩
    obtain ⟨A0, c0, rfl, hc0, hC0⟩ := Kd.R_reads hr0
    obtain ⟨A1, c1, rfl, hc1, hC1⟩ := Kd.R_reads hr1
    have B2 := hid (cthen B1.out hb)
    have X0 := hid hC0
    have X1 := hid hC1
    have Y0 := hid hc0
    have Y1 := hid hc1
    clear hr0 hr1 hb hC0 hC1 hc0 hc1
    go_wp2_with fail
    refine (processed_any l Hl.out _ _ _ (Kd.C_below X.out B2.out) Y.out).mono ?_
    rw [← Hp.out]
    rintro e w3 ⟨v2, rfl, hr2, hb⟩
    obtain ⟨A2, c2, rfl, hc2, hC2⟩ := Kd.R_reads hr2
    have B3 := hid (cthen B2.out hb)
    have C3 := hid hb
    have X2 := hid hC2
    have Y2 := hid hc2
    clear hr2 hb hC2 hc2
    go_wp2_with fail
    refine (eq_any p Lp.out _ _ _ _ _ (Kd.C_below X0.out C3.out) Y0.out X2.out Y2.out).mono ?_
    rintro e w4 ⟨rfl, hb⟩
    have B4 := hid (cthen B3.out hb)
    have C4 := hid (cthen C3.out hb)
    clear hb
    go_wp2_with fail
    refine (reported_any l Hl.out _ _ _ (Kd.C_below X.out B4.out) Y.out).mono ?_
    rw [← Hr.out]
    rintro e w5 ⟨v3, rfl, hr3, hb⟩
    obtain ⟨A3, c3, rfl, hc3, hC3⟩ := Kd.R_reads hr3
    have B5 := hid (cthen B4.out hb)
    have C5 := hid (cthen C4.out hb)
    have X3 := hid hC3
    have Y3 := hid hc3
    clear hr3 hb hC3 hc3
    go_wp2_with fail
    refine (eq_any r Lr.out _ _ _ _ _ (Kd.C_below X1.out C5.out) Y1.out X3.out Y3.out).mono ?_
    rintro e w6 ⟨rfl, hb⟩
    have B6 := hid (cthen B5.out hb)
    clear hb
    go_wp2_with fail
    refine (stop_any l Hl.out _ _ _ (Kd.C_below X.out B6.out) Y.out).mono ?_
    rw [← Ht.out]
    rintro e w7 ⟨rfl, hb⟩
    have B7 := hid (cthen B6.out hb)
    clear hb
    go_wp2_with fail
    go_ret
    exact ⟨rfl, B7.out⟩
end Go.Proofs.YtjgcdjfeglhalaaDoor
