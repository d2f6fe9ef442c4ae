/- What is the same is told to be the same: the comparing functions of the reference. -/
import Derived.Test.YtmfmomfhiieilaaGreatDoorBqk
import Derived.Test.YtmfmomfhiieilaaGreatDoorBfw
import Derived.Test.YtmfmomfhiieilaaGreatDoorBaw
set_option linter.unusedVariables false
set_option linter.unusedSimpArgs false
namespace Go.Proofs.YtmfmomfhiieilaaGreatDoor
open Go.RowKit Go.Shelf Go.Proofs.YtmfmomfhiieilaaGreatDoor.It Go.Proofs.YtmfmomfhiieilaaGreatDoorW.PrintWords Go.Proofs.YtmfmomfhiieilaaGreatDoorW.PrintLast Go.Proofs.YtmfmomfhiieilaaGreatDoorW.PrintMore
namespace Bn
open PBundleSorted
theorem same1_loop (l : List Int) (hl : l.length ≤ 1099511627776) : ∀ (e i : Nat), l.length - i = e → i ≤ l.length → Ev (fun k => wharfref01_Same.l0 k l l (i : Int)) true := by
  intro e
  induction e with
  | zero =>
    intro i he hi
    refine Ev.step (f := fun _ => some true) (fun k => ?_) (Ev.now _)
    simp only [wharfref01_Same.l0]
    rw [if_neg (by omega)]
  | succ e ih =>
    intro i he hi
    have hwi := hid (show wrap64 ((i : Int) + 1) = ((i + 1 : Nat) : Int) by unfold wrap64; omega)
    refine Ev.step (fun k => ?_) (ih (i + 1) (by omega) (by omega))
    simp only [wharfref01_Same.l0]
    rw [if_pos (by omega), if_pos (by omega), if_pos (by omega), hwi.out, if_pos trivial]
theorem same1_ev (l : List Int) (hl : l.length ≤ 1099511627776) : Ev (fun k => wharfref01_Same.f k l l) true := by
  refine Ev.congr (fun k => ?_) (same1_loop l hl _ 0 rfl (Nat.zero_le _))
  unfold wharfref01_Same.f
  rw [if_pos rfl]
  rfl
theorem same1_any (A B : Option Addr) (n c e : Nat) (l : List Int) (w : World) (hn : l.length = n) (h1 : BC w A l) (hc : n ≤ c) (h2 : BC w B l) (he : n ≤ e) (hl : n ≤ 1000000000) : Calls Tryz.prog 67 #[.slice A n c, .slice B n e] w (IsPost (.bool true) w) := by
  subst hn
  obtain ⟨k, hk⟩ := (same1_ev l (by omega)).rounds
  exact (wharfref01_Same.calls k A c l B e l true w h1 hc h2 he hk).mono (fun e w2 h => ⟨h.1, h.2.below⟩)
theorem sm6_blw {S W W' : World} {a0 a1 a2 a3 a4 a5 : Addr} {v0 v1 v2 v3 v4 v5 : Value} (h : Below S.heap.size S W ∧ W.cell? a0 = some v0 ∧ W.cell? a1 = some v1 ∧ W.cell? a2 = some v2 ∧ W.cell? a3 = some v3 ∧ W.cell? a4 = some v4 ∧ W.cell? a5 = some v5) (hb : Below W.heap.size W W') : Below S.heap.size S W' ∧ W'.cell? a0 = some v0 ∧ W'.cell? a1 = some v1 ∧ W'.cell? a2 = some v2 ∧ W'.cell? a3 = some v3 ∧ W'.cell? a4 = some v4 ∧ W'.cell? a5 = some v5 :=
  ⟨cthen h.1 hb, pw_cell_below hb h.2.1, pw_cell_below hb h.2.2.1, pw_cell_below hb h.2.2.2.1, pw_cell_below hb h.2.2.2.2.1, pw_cell_below hb h.2.2.2.2.2.1, pw_cell_below hb h.2.2.2.2.2.2⟩
set_option maxRecDepth 100000 in
set_option maxHeartbeats 8000000 in
theorem same8_any : ∀ (m : Nat), m ≤ 1000 → ∀ (l : List Nd), cnts l ≤ m → ∀ (A B : Option Addr) (n c e : Nat) (w : World), l.length = n → Kd.C k87 w A n l → n ≤ c → Kd.C k87 w B n l → n ≤ e → Calls Tryz.prog 68 #[.slice A n c, .slice B n e] w (IsPost (.bool true) w) := by
  intro m
  induction m using Nat.strongRecOn with
  | _ m ihm =>
  intro hm l hl A B n c e w hn h1 hc h2 he
  have HIH := hid ihm
  have HMM := hid hm
  have HCL := hid hl
  have HN := hid hn
  have HC1 := hid h1
  have HC2 := hid h2
  have HL := hid (show n ≤ 1000 by have := len_cnts l; omega)
  have HI0 := hid (Below.refl w.heap.size w)
  clear ihm hm hl hn h1 h2
  go_enter Tryz.func68, Tryz.ntmps68
  go_wp2_with fail
  go_loopw [5] (fun vi W => ∃ (i : Nat), vi = .int .i64 i ∧ i ≤ n ∧ Hid (Below w.heap.size w W)) (fun vi _ => n - (intOf vi).toNat)
  case atStart => exact ⟨0, rfl, by omega, HI0⟩
  case round =>
    obtain ⟨i, rfl, hi, hI⟩ := hrel
    clear HI0
    by_cases hlt : i < n
    · have hil : i < l.length := by have := HN.out; omega
      have hii : (i : Int) < (n : Int) := by omega
      obtain ⟨b, off, A1, d1, A2, d2, rfl, k0, k1, k2, l1, g1, l2, g2⟩ := node_at (Kd.C_below HC1.out hI.out) i hil
      obtain ⟨b', off', B1, e1, B2, e2, rfl, p0, p1, p2, r1, u1, r2, u2⟩ := node_at (Kd.C_below HC2.out hI.out) i hil
      have hcx := cnts_at l l[i] (List.getElem_mem hil)
      have hce := cnt_eq l[i]
      obtain ⟨x, hx⟩ : ∃ x, l[i] = x := ⟨_, rfl⟩
      rw [hx] at k0 k1 k2 l1 g1 l2 g2 p0 p1 p2 r1 u1 r2 u2 hcx hce
      obtain ⟨m1, hm1⟩ : ∃ m, x.f1.length = m := ⟨_, rfl⟩
      obtain ⟨m2, hm2⟩ : ∃ m, x.f2.length = m := ⟨_, rfl⟩
      rw [hm1] at k1 p1 l1 r1 hce
      rw [hm2] at k2 p2 l2 g2 r2 u2
      have HWI := hid (show wrap64 ((i : Int) + 1) = ((i + 1 : Nat) : Int) by have := HL.out; unfold wrap64; omega)
      have H1 := hid (fun W (hW : Below wr.heap.size wr W) => same1_any A1 B1 m1 d1 e1 x.f1 W hm1 (g1.below hW) l1 (u1.below hW) r1 (by have := HCL.out; have := HMM.out; omega))
      have H8 := hid (fun W (hW : Below wr.heap.size wr W) => HIH.out (cnts x.f2) (by have := HCL.out; omega) (by have := HCL.out; have := HMM.out; omega) x.f2 (Nat.le_refl _) A2 B2 m2 d2 e2 W hm2 (Kd.C_below g2 hW) l2 (Kd.C_below u2 hW) r2)
      have hS0 : Below wr.heap.size wr wr.drew ∧ wr.drew.cell? ⟨b, off + i * 3, none⟩ = some (.int .u16 x.f0) ∧ wr.drew.cell? ⟨b, off + i * 3 + 1, none⟩ = some (.slice A1 m1 d1) ∧ wr.drew.cell? ⟨b, off + i * 3 + 2, none⟩ = some (.slice A2 m2 d2) ∧ wr.drew.cell? ⟨b', off' + i * 3, none⟩ = some (.int .u16 x.f0) ∧ wr.drew.cell? ⟨b', off' + i * 3 + 1, none⟩ = some (.slice B1 m1 e1) ∧ wr.drew.cell? ⟨b', off' + i * 3 + 2, none⟩ = some (.slice B2 m2 e2) := ⟨below_drew (Below.refl _ _) 1, k0, k1, k2, p0, p1, p2⟩
      clear hx hm1 hm2 g1 g2 l1 l2 u1 u2 r1 r2 hil hcx hce k0 k1 k2 p0 p1 p2
      go_upto_region 6 with fail
      refine start_ (n := 39) (S := (fun W => Below wr.heap.size wr W ∧ W.cell? ⟨b, off + i * 3, none⟩ = some (.int .u16 x.f0) ∧ W.cell? ⟨b, off + i * 3 + 1, none⟩ = some (.slice A1 m1 d1) ∧ W.cell? ⟨b, off + i * 3 + 2, none⟩ = some (.slice A2 m2 d2) ∧ W.cell? ⟨b', off' + i * 3, none⟩ = some (.int .u16 x.f0) ∧ W.cell? ⟨b', off' + i * 3 + 1, none⟩ = some (.slice B1 m1 e1) ∧ W.cell? ⟨b', off' + i * 3 + 2, none⟩ = some (.slice B2 m2 e2))) (ds := [36]) (bA 39 0) (by kernel_rfl) rfl rfl hS0 (fun hHeld => ?_)
      generalize wr.drew = w44 at hS0 hHeld ⊢
      refine pure_ (i := 0) (N := some 17) (v := ?_) (a' := ?_) (bA 39 1) rfl rfl (by kernel_rfl) (fun _ _ _ h => h) (Or.inl ⟨by rfl, ?_⟩) ?_ ?_
      rotate_left
      · intro w'
        go_simp
        with_reducible rfl
      rotate_left
      · simp only [Act.put, sA, s0, sS, i64_w, i32_w]
        rfl
      refine pure_ (i := 1) (N := some 18) (v := ?_) (a' := ?_) (bA 39 3) rfl rfl (by kernel_rfl) (fun _ _ _ h => h) (Or.inl ⟨by rfl, ?_⟩) ?_ ?_
      rotate_left
      · intro w'
        go_simp
        with_reducible rfl
      rotate_left
      · simp only [Act.put, sA, s0, sS, i64_w, i32_w]
        rfl
      refine pure_ (i := 2) (N := some 19) (v := ?_) (a' := ?_) (bA 39 7) rfl rfl (by kernel_rfl) (fun _ _ _ h => h) (Or.inl ⟨by rfl, ?_⟩) ?_ ?_
      rotate_left
      · intro w'
        go_simp
        with_reducible rfl
      rotate_left
      · simp only [Act.put, sA, s0, sS, i64_w, i32_w]
        rfl
      refine pure_ (i := 3) (N := some 20) (v := ?_) (a' := ?_) (bA 39 15) rfl rfl (by kernel_rfl) (fun _ _ _ h => h) (Or.inl ⟨by rfl, ?_⟩) ?_ ?_
      rotate_left
      · intro w'
        go_simp
        with_reducible rfl
      rotate_left
      · simp only [Act.put, sA, s0, sS, i64_w, i32_w]
        rfl
      refine pure_ (i := 5) (N := some 22) (v := ?_) (a' := ?_) (bA 39 47) rfl rfl (by kernel_rfl) (fun _ _ _ h => h) (Or.inl ⟨by rfl, ?_⟩) ?_ ?_
      rotate_left
      · intro w'
        go_simp
        with_reducible rfl
      rotate_left
      · simp only [Act.put, sA, s0, sS, i64_w, i32_w]
        rfl
      refine pure_ (i := 6) (N := some 23) (v := ?_) (a' := ?_) (bA 39 111) rfl rfl (by kernel_rfl) (fun _ _ _ h => h) (Or.inl ⟨by rfl, ?_⟩) ?_ ?_
      rotate_left
      · intro w'
        go_simp
        with_reducible rfl
      rotate_left
      · simp only [Act.put, sA, s0, sS, i64_w, i32_w]
        rfl
      refine pure_ (i := 7) (N := some 24) (v := ?_) (a' := ?_) (bA 39 239) rfl rfl (by kernel_rfl) (fun _ _ _ h => h) (Or.inl ⟨by rfl, ?_⟩) ?_ ?_
      rotate_left
      · intro w'
        go_simp
        with_reducible rfl
      rotate_left
      · simp only [Act.put, sA, s0, sS, i64_w, i32_w]
        rfl
      refine pure_ (i := 8) (N := some 25) (v := ?_) (a' := ?_) (bA 39 495) rfl rfl (by kernel_rfl) (fun _ _ _ h => h) (Or.inl ⟨by rfl, ?_⟩) ?_ ?_
      rotate_left
      · intro w'
        go_simp
        with_reducible rfl
      rotate_left
      · simp only [Act.put, sA, s0, sS, i64_w, i32_w]
        rfl
      refine take_ (i := 4) (N := some 21) (v := ?_) (a' := ?_) (bA 39 511) rfl rfl (by kernel_rfl) (fun _ _ _ h => h) (Or.inl ⟨by rfl, ?_⟩) hHeld ?_ ?_
      rotate_left
      · rintro w' ⟨q0, q1, q2, q3, q4, q5, q6⟩
        go_simp
        with_reducible rfl
      rotate_left
      · simp only [Act.put, sA, s0, sS, i64_w, i32_w]
        rfl
      refine take_ (i := 9) (N := some 26) (v := ?_) (a' := ?_) (bA 39 1023) rfl rfl (by kernel_rfl) (fun _ _ _ h => h) (Or.inl ⟨by rfl, ?_⟩) hHeld ?_ ?_
      rotate_left
      · rintro w' ⟨q0, q1, q2, q3, q4, q5, q6⟩
        go_simp
        with_reducible rfl
      rotate_left
      · simp only [Act.put, sA, s0, sS, i64_w, i32_w]
        rfl
      refine pure_ (i := 10) (N := some 27) (v := ?_) (a' := ?_) (bA 39 2047) rfl rfl (by kernel_rfl) (fun _ _ _ h => h) (Or.inl ⟨by rfl, ?_⟩) ?_ ?_
      rotate_left
      · intro w'
        go_simp
        with_reducible rfl
      rotate_left
      · simp only [Act.put, sA, s0, sS, i64_w, i32_w]
        rfl
      refine pure_ (i := 11) (N := some 28) (v := ?_) (a' := ?_) (bA 39 4095) rfl rfl (by kernel_rfl) (fun _ _ _ h => h) (Or.inl ⟨by rfl, ?_⟩) ?_ ?_
      rotate_left
      · intro w'
        go_simp
        with_reducible rfl
      rotate_left
      · simp only [Act.put, sA, s0, sS, i64_w, i32_w]
        rfl
      refine pure_ (i := 12) (N := some 29) (v := ?_) (a' := ?_) (bA 39 8191) rfl rfl (by kernel_rfl) (fun _ _ _ h => h) (Or.inl ⟨by rfl, ?_⟩) ?_ ?_
      rotate_left
      · intro w'
        go_simp
        with_reducible rfl
      rotate_left
      · simp only [Act.put, sA, s0, sS, i64_w, i32_w]
        rfl
      refine pure_ (i := 13) (N := some 30) (v := ?_) (a' := ?_) (bA 39 16383) rfl rfl (by kernel_rfl) (fun _ _ _ h => h) (Or.inl ⟨by rfl, ?_⟩) ?_ ?_
      rotate_left
      · intro w'
        go_simp
        with_reducible rfl
      rotate_left
      · simp only [Act.put, sA, s0, sS, i64_w, i32_w]
        rfl
      refine pure_ (i := 14) (N := some 31) (v := ?_) (a' := ?_) (bA 39 32767) rfl rfl (by kernel_rfl) (fun _ _ _ h => h) (Or.inl ⟨by rfl, ?_⟩) ?_ ?_
      rotate_left
      · intro w'
        go_simp
        with_reducible rfl
      rotate_left
      · simp only [Act.put, sA, s0, sS, i64_w, i32_w]
        rfl
      refine pure_ (i := 15) (N := some 32) (v := ?_) (a' := ?_) (bA 39 65535) rfl rfl (by kernel_rfl) (fun _ _ _ h => h) (Or.inl ⟨by rfl, ?_⟩) ?_ ?_
      rotate_left
      · intro w'
        go_simp
        with_reducible rfl
      rotate_left
      · simp only [Act.put, sA, s0, sS, i64_w, i32_w]
        rfl
      refine pure_ (i := 17) (N := some 34) (v := ?_) (a' := ?_) (bA 39 196607) rfl rfl (by kernel_rfl) (fun _ _ _ h => h) (Or.inl ⟨by rfl, ?_⟩) ?_ ?_
      rotate_left
      · intro w'
        go_simp
        with_reducible rfl
      rotate_left
      · simp only [Act.put, sA, s0, sS, i64_w, i32_w]
        rfl
      refine pure_ (i := 18) (N := some 35) (v := ?_) (a' := ?_) (bA 39 458751) rfl rfl (by kernel_rfl) (fun _ _ _ h => h) (Or.inl ⟨by rfl, ?_⟩) ?_ ?_
      rotate_left
      · intro w'
        go_simp
        with_reducible rfl
      rotate_left
      · simp only [Act.put, sA, s0, sS, i64_w, i32_w]
        rfl
      refine pure_ (i := 19) (N := some 36) (v := ?_) (a' := ?_) (bA 39 983039) rfl rfl (by kernel_rfl) (fun _ _ _ h => h) (Or.inl ⟨by rfl, ?_⟩) ?_ ?_
      rotate_left
      · intro w'
        go_simp
        with_reducible rfl
      rotate_left
      · simp only [Act.put, sA, s0, sS, i64_w, i32_w]
        rfl
      refine pure_ (i := 20) (N := some 37) (v := ?_) (a' := ?_) (bA 39 2031615) rfl rfl (by kernel_rfl) (fun _ _ _ h => h) (Or.inl ⟨by rfl, ?_⟩) ?_ ?_
      rotate_left
      · intro w'
        go_simp
        with_reducible rfl
      rotate_left
      · simp only [Act.put, sA, s0, sS, i64_w, i32_w]
        rfl
      refine take_ (i := 16) (N := some 33) (v := ?_) (a' := ?_) (bA 39 2097151) rfl rfl (by kernel_rfl) (fun _ _ _ h => h) (Or.inl ⟨by rfl, ?_⟩) hHeld ?_ ?_
      rotate_left
      · rintro w' ⟨q0, q1, q2, q3, q4, q5, q6⟩
        go_simp
        with_reducible rfl
      rotate_left
      · simp only [Act.put, sA, s0, sS, i64_w, i32_w]
        rfl
      refine take_ (i := 21) (N := some 38) (v := ?_) (a' := ?_) (bA 39 4194303) rfl rfl (by kernel_rfl) (fun _ _ _ h => h) (Or.inl ⟨by rfl, ?_⟩) hHeld ?_ ?_
      rotate_left
      · rintro w' ⟨q0, q1, q2, q3, q4, q5, q6⟩
        go_simp
        with_reducible rfl
      rotate_left
      · simp only [Act.put, sA, s0, sS, i64_w, i32_w]
        rfl
      refine one_ (i := 22) (N := some 39) (bA 39 8388607) rfl rfl (by kernel_rfl) (by decide) (fun KK hK => ?_)
      refine goes_ Tryz.func67 (by kernel_rfl) rfl #[.slice A1 m1 d1, .slice B1 m1 e1] (by rfl) rfl rfl (by simp only [List.map_toArray, List.map_cons, List.map_nil]; rfl) ?_
      refine Calls.mono (H1.out _ hHeld.1) ?_
      rintro e5 W5 ⟨rfl, hb5⟩
      refine ⟨_, rfl, ?_⟩
      have hS5 := sm6_blw hHeld hb5
      clear hb5
      refine hK.out _ _ hS5 (fun hHeld5 => ?_)
      clear hK KK
      refine norm_ (a' := ?_) ?_ ?_
      rotate_left
      · show Act.put _ (some 39) _ = _
        simp only [Act.put, sA, s0, sS, i64_w, i32_w]
        rfl
      refine pure_ (i := 23) (N := some 40) (v := ?_) (a' := ?_) (bA 39 16777215) rfl rfl (by kernel_rfl) (fun _ _ _ h => h) (Or.inl ⟨by rfl, ?_⟩) ?_ ?_
      rotate_left
      · intro w'
        go_simp
        with_reducible rfl
      rotate_left
      · simp only [Act.put, sA, s0, sS, i64_w, i32_w]
        rfl
      refine pure_ (i := 24) (N := some 41) (v := ?_) (a' := ?_) (bA 39 33554431) rfl rfl (by kernel_rfl) (fun _ _ _ h => h) (Or.inl ⟨by rfl, ?_⟩) ?_ ?_
      rotate_left
      · intro w'
        go_simp
        with_reducible rfl
      rotate_left
      · simp only [Act.put, sA, s0, sS, i64_w, i32_w]
        rfl
      refine pure_ (i := 25) (N := some 42) (v := ?_) (a' := ?_) (bA 39 67108863) rfl rfl (by kernel_rfl) (fun _ _ _ h => h) (Or.inl ⟨by rfl, ?_⟩) ?_ ?_
      rotate_left
      · intro w'
        go_simp
        with_reducible rfl
      rotate_left
      · simp only [Act.put, sA, s0, sS, i64_w, i32_w]
        rfl
      refine pure_ (i := 26) (N := some 43) (v := ?_) (a' := ?_) (bA 39 134217727) rfl rfl (by kernel_rfl) (fun _ _ _ h => h) (Or.inl ⟨by rfl, ?_⟩) ?_ ?_
      rotate_left
      · intro w'
        go_simp
        with_reducible rfl
      rotate_left
      · simp only [Act.put, sA, s0, sS, i64_w, i32_w]
        rfl
      refine pure_ (i := 27) (N := some 44) (v := ?_) (a' := ?_) (bA 39 268435455) rfl rfl (by kernel_rfl) (fun _ _ _ h => h) (Or.inl ⟨by rfl, ?_⟩) ?_ ?_
      rotate_left
      · intro w'
        go_simp
        with_reducible rfl
      rotate_left
      · simp only [Act.put, sA, s0, sS, i64_w, i32_w]
        rfl
      refine pure_ (i := 28) (N := some 45) (v := ?_) (a' := ?_) (bA 39 536870911) rfl rfl (by kernel_rfl) (fun _ _ _ h => h) (Or.inl ⟨by rfl, ?_⟩) ?_ ?_
      rotate_left
      · intro w'
        go_simp
        with_reducible rfl
      rotate_left
      · simp only [Act.put, sA, s0, sS, i64_w, i32_w]
        rfl
      refine pure_ (i := 29) (N := some 46) (v := ?_) (a' := ?_) (bA 39 1073741823) rfl rfl (by kernel_rfl) (fun _ _ _ h => h) (Or.inl ⟨by rfl, ?_⟩) ?_ ?_
      rotate_left
      · intro w'
        go_simp
        with_reducible rfl
      rotate_left
      · simp only [Act.put, sA, s0, sS, i64_w, i32_w]
        rfl
      refine pure_ (i := 31) (N := some 48) (v := ?_) (a' := ?_) (bA 39 3221225471) rfl rfl (by kernel_rfl) (fun _ _ _ h => h) (Or.inl ⟨by rfl, ?_⟩) ?_ ?_
      rotate_left
      · intro w'
        go_simp
        with_reducible rfl
      rotate_left
      · simp only [Act.put, sA, s0, sS, i64_w, i32_w]
        rfl
      refine pure_ (i := 32) (N := some 49) (v := ?_) (a' := ?_) (bA 39 7516192767) rfl rfl (by kernel_rfl) (fun _ _ _ h => h) (Or.inl ⟨by rfl, ?_⟩) ?_ ?_
      rotate_left
      · intro w'
        go_simp
        with_reducible rfl
      rotate_left
      · simp only [Act.put, sA, s0, sS, i64_w, i32_w]
        rfl
      refine pure_ (i := 33) (N := some 50) (v := ?_) (a' := ?_) (bA 39 16106127359) rfl rfl (by kernel_rfl) (fun _ _ _ h => h) (Or.inl ⟨by rfl, ?_⟩) ?_ ?_
      rotate_left
      · intro w'
        go_simp
        with_reducible rfl
      rotate_left
      · simp only [Act.put, sA, s0, sS, i64_w, i32_w]
        rfl
      refine pure_ (i := 34) (N := some 51) (v := ?_) (a' := ?_) (bA 39 33285996543) rfl rfl (by kernel_rfl) (fun _ _ _ h => h) (Or.inl ⟨by rfl, ?_⟩) ?_ ?_
      rotate_left
      · intro w'
        go_simp
        with_reducible rfl
      rotate_left
      · simp only [Act.put, sA, s0, sS, i64_w, i32_w]
        rfl
      refine take_ (i := 30) (N := some 47) (v := ?_) (a' := ?_) (bA 39 34359738367) rfl rfl (by kernel_rfl) (fun _ _ _ h => h) (Or.inl ⟨by rfl, ?_⟩) hHeld5 ?_ ?_
      rotate_left
      · rintro w' ⟨q0, q1, q2, q3, q4, q5, q6⟩
        go_simp
        with_reducible rfl
      rotate_left
      · simp only [Act.put, sA, s0, sS, i64_w, i32_w]
        rfl
      refine take_ (i := 35) (N := some 52) (v := ?_) (a' := ?_) (bA 39 68719476735) rfl rfl (by kernel_rfl) (fun _ _ _ h => h) (Or.inl ⟨by rfl, ?_⟩) hHeld5 ?_ ?_
      rotate_left
      · rintro w' ⟨q0, q1, q2, q3, q4, q5, q6⟩
        go_simp
        with_reducible rfl
      rotate_left
      · simp only [Act.put, sA, s0, sS, i64_w, i32_w]
        rfl
      refine last_ (i := 36) (N := some 53) (bA 39 137438953471) rfl rfl (by kernel_rfl) (by decide) (fun KK hK => ?_)
      refine goes_ Tryz.func68 (by kernel_rfl) rfl #[.slice A2 m2 d2, .slice B2 m2 e2] (by rfl) rfl rfl (by simp only [List.map_toArray, List.map_cons, List.map_nil]; rfl) ?_
      refine Calls.mono (H8.out _ hHeld5.1) ?_
      rintro e5 W6 ⟨rfl, hb5⟩
      refine ⟨_, rfl, ?_⟩
      have HB5 := hid (cthen hHeld5.1 hb5)
      clear hb5
      refine hK.out _ _ ?_
      clear hK KK
      refine norm_ (a' := ?_) ?_ ?_
      rotate_left
      · show Act.put _ (some 53) _ = _
        simp only [Act.put, sA, s0, sS, i64_w, i32_w]
        rfl
      refine pure_ (i := 37) (N := some 54) (v := ?_) (a' := ?_) (bA 39 274877906943) rfl rfl (by kernel_rfl) (fun _ _ _ h => h) (Or.inl ⟨by rfl, ?_⟩) ?_ ?_
      rotate_left
      · intro w'
        go_simp
        with_reducible rfl
      rotate_left
      · simp only [Act.put, sA, s0, sS, i64_w, i32_w]
        rfl
      refine pure_ (i := 38) (N := some 55) (v := ?_) (a' := ?_) (bA 39 549755813887) rfl rfl (by kernel_rfl) (fun _ _ _ h => h) (Or.inl ⟨by rfl, ?_⟩) ?_ ?_
      rotate_left
      · intro w'
        go_simp
        with_reducible rfl
      rotate_left
      · simp only [Act.put, sA, s0, sS, i64_w, i32_w]
        rfl
      refine done_ (by kernel_rfl) ?_
      clear hS0 hHeld hHeld5
      go_wp2_with fail
      exact ⟨⟨i + 1, by rw [HWI.out], hlt, hid (cthen hI.out HB5.out)⟩, by rw [HWI.out]; simp only [intOf, Int.toNat_natCast]; omega⟩
    · obtain rfl : n = i := by omega
      go_wp2_with fail
      go_ret
      exact ⟨rfl, hI.out⟩
/-- A chunk that is not too much, for comparing. -/
def SmC (x : Ck) : Prop := x.f2.length ≤ 1000000 ∧ cnts x.f3 ≤ 900
set_option maxRecDepth 100000 in
set_option maxHeartbeats 4000000 in
theorem same12_any (x : Ck) (A1 A2 B1 B2 : Option Addr) (m1 m2 d1 d2 e1 e2 : Nat) (w : World) (h : SmC x) (hm1 : x.f2.length = m1) (hm2 : x.f3.length = m2) (g1 : BC w A1 x.f2) (l1 : m1 ≤ d1) (g2 : Kd.C k87 w A2 m2 x.f3) (l2 : m2 ≤ d2) (u1 : BC w B1 x.f2) (r1 : m1 ≤ e1) (u2 : Kd.C k87 w B2 m2 x.f3) (r2 : m2 ≤ e2) :
    Calls Tryz.prog 38 #[.agg #[.int .u8 x.f0, .int .u8 x.f1, .slice A1 m1 d1, .slice A2 m2 d2], .agg #[.int .u8 x.f0, .int .u8 x.f1, .slice B1 m1 e1, .slice B2 m2 e2]] w (IsPost (.bool true) w) := by
  have hb1 : Below w.heap.size w ((w.alloc (.cells #[.int .u8 x.f0, .int .u8 x.f1, .slice A1 m1 d1, .slice A2 m2 d2] 42)).alloc (.cells #[.int .u8 x.f0, .int .u8 x.f1, .slice B1 m1 e1, .slice B2 m2 e2] 42)) := below_alloc (below_alloc (Below.refl _ _) _) _
  have H1 := same1_any A1 B1 m1 d1 e1 x.f2 _ hm1 (g1.below hb1) l1 (u1.below hb1) r1 (by have := h.1; omega)
  have H8 := hid (fun W (hW : Below w.heap.size w W) => same8_any 900 (by decide) x.f3 h.2 A2 B2 m2 d2 e2 W hm2 (Kd.C_below g2 hW) l2 (Kd.C_below u2 hW) r2)
  have HB1 := hid hb1
  have HX := hid (show _ = some (.cells #[.int .u8 x.f0, .int .u8 x.f1, .slice A1 m1 d1, .slice A2 m2 d2] 42 (0, 0)) from blk_below (blk_new w (.cells #[.int .u8 x.f0, .int .u8 x.f1, .slice A1 m1 d1, .slice A2 m2 d2] 42)) (below_alloc (Below.refl _ _) (.cells #[.int .u8 x.f0, .int .u8 x.f1, .slice B1 m1 e1, .slice B2 m2 e2] 42)))
  have hy := blk_new (w.alloc (.cells #[.int .u8 x.f0, .int .u8 x.f1, .slice A1 m1 d1, .slice A2 m2 d2] 42)) (.cells #[.int .u8 x.f0, .int .u8 x.f1, .slice B1 m1 e1, .slice B2 m2 e2] 42)
  rw [World.size_alloc] at hy
  have HY := hid hy
  clear h hm1 hm2 g1 g2 l1 l2 u1 u2 r1 r2 hb1 hy
  go_enter Tryz.func38, Tryz.ntmps38
  go_wp2_with fail
  refine H1.mono ?_
  rintro e W2 ⟨rfl, hb2⟩
  have HB2 := hid (cthen HB1.out hb2)
  obtain ⟨⟨x0, x1, x2, x3⟩, -⟩ := four (blk_below HX.out hb2)
  obtain ⟨⟨y0, y1, y2, y3⟩, -⟩ := four (blk_below HY.out hb2)
  clear H1 hb2 x0 x1 x2 y0 y1 y2
  go_wp2_with fail
  refine (H8.out W2 HB2.out).mono ?_
  rintro e W3 ⟨rfl, hb3⟩
  have HB3 := hid (cthen HB2.out hb3)
  clear hb3 x3 y3
  go_wp2_with fail
  go_ret
  exact ⟨rfl, HB3.out⟩
set_option maxRecDepth 100000 in
set_option maxHeartbeats 4000000 in
/-- 'SameChunks' of the same chunks. -/
theorem same24_any (A B : Option Addr) (n c e : Nat) (l : List Ck) (w : World) (hn : l.length = n) (h1 : CsC w A n l) (hc : n ≤ c) (h2 : CsC w B n l) (he : n ≤ e) (hl : n ≤ 1000) (h : ∀ x ∈ l, SmC x) : Calls Tryz.prog 18 #[.slice A n c, .slice B n e] w (IsPost (.bool true) w) := by
  have HN := hid hn
  have HC1 := hid h1
  have HC2 := hid h2
  have HSM := hid h
  have HL := hid hl
  have HI0 := hid (Below.refl w.heap.size w)
  clear hn h1 h2 h hl
  go_enter Tryz.func18, Tryz.ntmps18
  go_wp2_with fail
  go_loopw [5] (fun vi W => ∃ (i : Nat), vi = .int .i64 i ∧ i ≤ n ∧ Hid (Below w.heap.size w W)) (fun vi _ => n - (intOf vi).toNat)
  case atStart => exact ⟨0, rfl, by omega, HI0⟩
  case round =>
    obtain ⟨i, rfl, hi, hI⟩ := hrel
    clear HI0
    by_cases hlt : i < n
    · have hil : i < l.length := by have := HN.out; omega
      have hii : (i : Int) < (n : Int) := by omega
      obtain ⟨b, off, A1, d1, A2, d2, rfl, k0, k1, k2, k3, l1, g1, l2, g2⟩ := chunk_at (Kd.C_below HC1.out hI.out) i hil
      obtain ⟨b', off', B1, e1, B2, e2, rfl, p0, p1, p2, p3, r1, u1, r2, u2⟩ := chunk_at (Kd.C_below HC2.out hI.out) i hil
      have hsx := HSM.out _ (List.getElem_mem hil)
      obtain ⟨x, hx⟩ : ∃ x, l[i] = x := ⟨_, rfl⟩
      rw [hx] at k0 k1 k2 k3 l1 g1 l2 g2 p0 p1 p2 p3 r1 u1 r2 u2 hsx
      obtain ⟨m1, hm1⟩ : ∃ m, x.f2.length = m := ⟨_, rfl⟩
      obtain ⟨m2, hm2⟩ : ∃ m, x.f3.length = m := ⟨_, rfl⟩
      rw [hm1] at k2 p2 l1 r1
      rw [hm2] at k3 p3 l2 g2 r2 u2
      have HWI := hid (show wrap64 ((i : Int) + 1) = ((i + 1 : Nat) : Int) by have := HL.out; unfold wrap64; omega)
      have HX := hid (fun W (hW : Below wr.heap.size wr W) => same12_any x A1 A2 B1 B2 m1 m2 d1 d2 e1 e2 W hsx hm1 hm2 (g1.below hW) l1 (Kd.C_below g2 hW) l2 (u1.below hW) r1 (Kd.C_below u2 hW) r2)
      have hS0 : Below wr.heap.size wr wr.drew ∧ wr.drew.cell? ⟨b, off + i * 4, none⟩ = some (.int .u8 x.f0) ∧ wr.drew.cell? ⟨b, off + i * 4 + 1, none⟩ = some (.int .u8 x.f1) ∧ wr.drew.cell? ⟨b, off + i * 4 + 2, none⟩ = some (.slice A1 m1 d1) ∧ wr.drew.cell? ⟨b, off + i * 4 + 3, none⟩ = some (.slice A2 m2 d2) ∧ wr.drew.cell? ⟨b', off' + i * 4, none⟩ = some (.int .u8 x.f0) ∧ wr.drew.cell? ⟨b', off' + i * 4 + 1, none⟩ = some (.int .u8 x.f1) ∧ wr.drew.cell? ⟨b', off' + i * 4 + 2, none⟩ = some (.slice B1 m1 e1) ∧ wr.drew.cell? ⟨b', off' + i * 4 + 3, none⟩ = some (.slice B2 m2 e2) := ⟨below_drew (Below.refl _ _) 1, k0, k1, k2, k3, p0, p1, p2, p3⟩
      clear hx hm1 hm2 g1 g2 l1 l2 u1 u2 r1 r2 hil hsx k0 k1 k2 k3 p0 p1 p2 p3
      go_upto_region 6 with fail
      refine start_ (n := 10) (S := (fun W => Below wr.heap.size wr W ∧ W.cell? ⟨b, off + i * 4, none⟩ = some (.int .u8 x.f0) ∧ W.cell? ⟨b, off + i * 4 + 1, none⟩ = some (.int .u8 x.f1) ∧ W.cell? ⟨b, off + i * 4 + 2, none⟩ = some (.slice A1 m1 d1) ∧ W.cell? ⟨b, off + i * 4 + 3, none⟩ = some (.slice A2 m2 d2) ∧ W.cell? ⟨b', off' + i * 4, none⟩ = some (.int .u8 x.f0) ∧ W.cell? ⟨b', off' + i * 4 + 1, none⟩ = some (.int .u8 x.f1) ∧ W.cell? ⟨b', off' + i * 4 + 2, none⟩ = some (.slice B1 m1 e1) ∧ W.cell? ⟨b', off' + i * 4 + 3, none⟩ = some (.slice B2 m2 e2))) (ds := [8]) (bA 10 0) (by kernel_rfl) rfl rfl hS0 (fun hHeld => ?_)
      generalize wr.drew = w44 at hS0 hHeld ⊢
      refine pure_ (i := 0) (N := some 17) (v := ?_) (a' := ?_) (bA 10 1) rfl rfl (by kernel_rfl) (fun _ _ _ h => h) (Or.inl ⟨by rfl, ?_⟩) ?_ ?_
      rotate_left
      · intro w'
        go_simp
        with_reducible rfl
      rotate_left
      · simp only [Act.put, sA, s0, sS, i64_w, i32_w]
        rfl
      refine pure_ (i := 1) (N := some 18) (v := ?_) (a' := ?_) (bA 10 3) rfl rfl (by kernel_rfl) (fun _ _ _ h => h) (Or.inl ⟨by rfl, ?_⟩) ?_ ?_
      rotate_left
      · intro w'
        go_simp
        with_reducible rfl
      rotate_left
      · simp only [Act.put, sA, s0, sS, i64_w, i32_w]
        rfl
      refine pure_ (i := 2) (N := some 19) (v := ?_) (a' := ?_) (bA 10 7) rfl rfl (by kernel_rfl) (fun _ _ _ h => h) (Or.inl ⟨by rfl, ?_⟩) ?_ ?_
      rotate_left
      · intro w'
        go_simp
        with_reducible rfl
      rotate_left
      · simp only [Act.put, sA, s0, sS, i64_w, i32_w]
        rfl
      refine pure_ (i := 4) (N := some 21) (v := ?_) (a' := ?_) (bA 10 23) rfl rfl (by kernel_rfl) (fun _ _ _ h => h) (Or.inl ⟨by rfl, ?_⟩) ?_ ?_
      rotate_left
      · intro w'
        go_simp
        with_reducible rfl
      rotate_left
      · simp only [Act.put, sA, s0, sS, i64_w, i32_w]
        rfl
      refine pure_ (i := 5) (N := some 22) (v := ?_) (a' := ?_) (bA 10 55) rfl rfl (by kernel_rfl) (fun _ _ _ h => h) (Or.inl ⟨by rfl, ?_⟩) ?_ ?_
      rotate_left
      · intro w'
        go_simp
        with_reducible rfl
      rotate_left
      · simp only [Act.put, sA, s0, sS, i64_w, i32_w]
        rfl
      refine pure_ (i := 6) (N := some 23) (v := ?_) (a' := ?_) (bA 10 119) rfl rfl (by kernel_rfl) (fun _ _ _ h => h) (Or.inl ⟨by rfl, ?_⟩) ?_ ?_
      rotate_left
      · intro w'
        go_simp
        with_reducible rfl
      rotate_left
      · simp only [Act.put, sA, s0, sS, i64_w, i32_w]
        rfl
      refine take_ (i := 3) (N := some 20) (v := ?_) (a' := ?_) (bA 10 127) rfl rfl (by kernel_rfl) (fun _ _ _ h => h) (Or.inl ⟨by rfl, ?_⟩) hHeld ?_ ?_
      rotate_left
      · rintro w' ⟨q0, q1, q2, q3, q4, q5, q6, q7, q8⟩
        go_simp
        with_reducible rfl
      rotate_left
      · simp only [Act.put, sA, s0, sS, i64_w, i32_w]
        rfl
      refine take_ (i := 7) (N := some 24) (v := ?_) (a' := ?_) (bA 10 255) rfl rfl (by kernel_rfl) (fun _ _ _ h => h) (Or.inl ⟨by rfl, ?_⟩) hHeld ?_ ?_
      rotate_left
      · rintro w' ⟨q0, q1, q2, q3, q4, q5, q6, q7, q8⟩
        go_simp
        with_reducible rfl
      rotate_left
      · simp only [Act.put, sA, s0, sS, i64_w, i32_w]
        rfl
      refine last_ (i := 8) (N := some 25) (bA 10 511) rfl rfl (by kernel_rfl) (by decide) (fun KK hK => ?_)
      refine goes_ Tryz.func38 (by kernel_rfl) rfl #[.agg #[.int .u8 x.f0, .int .u8 x.f1, .slice A1 m1 d1, .slice A2 m2 d2], .agg #[.int .u8 x.f0, .int .u8 x.f1, .slice B1 m1 e1, .slice B2 m2 e2]] (by rfl) rfl rfl (by simp only [List.map_toArray, List.map_cons, List.map_nil]; rfl) ?_
      refine Calls.mono (HX.out _ hHeld.1) ?_
      rintro e5 W6 ⟨rfl, hb5⟩
      refine ⟨_, rfl, ?_⟩
      have HB5 := hid (cthen hHeld.1 hb5)
      clear hb5
      refine hK.out _ _ ?_
      clear hK KK
      refine norm_ (a' := ?_) ?_ ?_
      rotate_left
      · show Act.put _ (some 25) _ = _
        simp only [Act.put, sA, s0, sS, i64_w, i32_w]
        rfl
      refine pure_ (i := 9) (N := some 26) (v := ?_) (a' := ?_) (bA 10 1023) rfl rfl (by kernel_rfl) (fun _ _ _ h => h) (Or.inl ⟨by rfl, ?_⟩) ?_ ?_
      rotate_left
      · intro w'
        go_simp
        with_reducible rfl
      rotate_left
      · simp only [Act.put, sA, s0, sS, i64_w, i32_w]
        rfl
      refine done_ (by kernel_rfl) ?_
      clear hS0 hHeld
      go_wp2_with fail
      exact ⟨⟨i + 1, by rw [HWI.out], hlt, hid (cthen hI.out HB5.out)⟩, by rw [HWI.out]; simp only [intOf, Int.toNat_natCast]; omega⟩
    · obtain rfl : n = i := by omega
      go_wp2_with fail
      go_ret
      exact ⟨rfl, hI.out⟩
set_option maxRecDepth 100000 in
set_option maxHeartbeats 8000000 in
/-- 'wharfref22.Same' of the same packets. -/
theorem same22_any (p : Pk) (A3 B3 : Option Addr) (n c e : Nat) (w : World) (hn : p.f1.length = n) (h1 : CsC w A3 n p.f1) (hc : n ≤ c) (h2 : CsC w B3 n p.f1) (he : n ≤ e) (hl : n ≤ 1000) (h : ∀ x ∈ p.f1, SmC x) :
    Calls Tryz.prog 37 #[.agg #[.int .u16 p.f0.f0, .int .u16 p.f0.f1, .int .u32 p.f0.f2, .slice A3 n c], .agg #[.int .u16 p.f0.f0, .int .u16 p.f0.f1, .int .u32 p.f0.f2, .slice B3 n e]] w (IsPost (.bool true) w) := by
  obtain ⟨S, hS⟩ : ∃ S, (w.alloc (.cells #[.int .u16 p.f0.f0, .int .u16 p.f0.f1, .int .u32 p.f0.f2, .slice A3 n c] 38)).alloc (.cells #[.int .u16 p.f0.f0, .int .u16 p.f0.f1, .int .u32 p.f0.f2, .slice B3 n e] 38) = S := ⟨_, rfl⟩
  have hbS : Below w.heap.size w S := by rw [← hS]; exact below_alloc (below_alloc (Below.refl _ _) _) _
  have XS := hid (show S.heap[w.heap.size]? = some (.cells #[.int .u16 p.f0.f0, .int .u16 p.f0.f1, .int .u32 p.f0.f2, .slice A3 n c] 38 (0, 0)) by rw [← hS]; exact blk_alloc (blk_new w _))
  have YS := hid (show S.heap[w.heap.size + 1]? = some (.cells #[.int .u16 p.f0.f0, .int .u16 p.f0.f1, .int .u32 p.f0.f2, .slice B3 n e] 38 (0, 0)) by rw [← hS]; have h := blk_new (w.alloc (.cells #[.int .u16 p.f0.f0, .int .u16 p.f0.f1, .int .u32 p.f0.f2, .slice A3 n c] 38)) (.cells #[.int .u16 p.f0.f0, .int .u16 p.f0.f1, .int .u32 p.f0.f2, .slice B3 n e] 38); rw [World.size_alloc] at h; exact h)
  obtain ⟨⟨x0, x1, x2, x3⟩, -⟩ := four XS.out
  obtain ⟨⟨y0, y1, y2, y3⟩, -⟩ := four YS.out
  rw [← hS] at x0 x1 x2 x3 y0 y1 y2 y3
  have HS := hid hS
  have BS := hid hbS
  obtain ⟨l, hl1⟩ : ∃ l, p.f1 = l := ⟨_, rfl⟩
  rw [hl1] at hn h1 h2 h
  have HN := hid hn
  have HC1 := hid (Kd.C_below h1 hbS)
  have HC2 := hid (Kd.C_below h2 hbS)
  have HSM := hid h
  have HL := hid hl
  have HI0 := hid (Below.refl S.heap.size S)
  have heq := eqA25
  clear hn h1 h2 h hl hS hbS hl1
  go_enter Tryz.func37, Tryz.ntmps37
  go_wp2_with fail
  clear heq x0 x1 x2 x3 y0 y1 y2 y3
  rw [HS.out]
  go_loopw [5] (fun vi W => ∃ (i : Nat), vi = .int .i64 i ∧ i ≤ n ∧ Hid (Below S.heap.size S W)) (fun vi _ => n - (intOf vi).toNat)
  case atStart => exact ⟨0, rfl, by omega, HI0⟩
  case round =>
    obtain ⟨i, rfl, hi, hI⟩ := hrel
    clear HI0
    by_cases hlt : i < n
    · have hil : i < l.length := by have := HN.out; omega
      have hii : (i : Int) < (n : Int) := by omega
      obtain ⟨b, off, A1, d1, A2, d2, rfl, k0, k1, k2, k3, l1, g1, l2, g2⟩ := chunk_at (Kd.C_below HC1.out hI.out) i hil
      obtain ⟨b', off', B1, e1, B2, e2, rfl, p0, p1, p2, p3, r1, u1, r2, u2⟩ := chunk_at (Kd.C_below HC2.out hI.out) i hil
      have hsx := HSM.out _ (List.getElem_mem hil)
      obtain ⟨x, hx⟩ : ∃ x, l[i] = x := ⟨_, rfl⟩
      rw [hx] at k0 k1 k2 k3 l1 g1 l2 g2 p0 p1 p2 p3 r1 u1 r2 u2 hsx
      obtain ⟨m1, hm1⟩ : ∃ m, x.f2.length = m := ⟨_, rfl⟩
      obtain ⟨m2, hm2⟩ : ∃ m, x.f3.length = m := ⟨_, rfl⟩
      rw [hm1] at k2 p2 l1 r1
      rw [hm2] at k3 p3 l2 g2 r2 u2
      have HWI := hid (show wrap64 ((i : Int) + 1) = ((i + 1 : Nat) : Int) by have := HL.out; unfold wrap64; omega)
      have HX := hid (fun W (hW : Below wr.heap.size wr W) => same12_any x A1 A2 B1 B2 m1 m2 d1 d2 e1 e2 W hsx hm1 hm2 (g1.below hW) l1 (Kd.C_below g2 hW) l2 (u1.below hW) r1 (Kd.C_below u2 hW) r2)
      obtain ⟨⟨x0, x1, x2, x3⟩, -⟩ := four (blk_below XS.out hI.out)
      obtain ⟨⟨y0, y1, y2, y3⟩, -⟩ := four (blk_below YS.out hI.out)
      have hS0 : Below wr.heap.size wr wr.drew ∧ wr.drew.cell? ⟨b, off + i * 4, none⟩ = some (.int .u8 x.f0) ∧ wr.drew.cell? ⟨b, off + i * 4 + 1, none⟩ = some (.int .u8 x.f1) ∧ wr.drew.cell? ⟨b, off + i * 4 + 2, none⟩ = some (.slice A1 m1 d1) ∧ wr.drew.cell? ⟨b, off + i * 4 + 3, none⟩ = some (.slice A2 m2 d2) ∧ wr.drew.cell? ⟨b', off' + i * 4, none⟩ = some (.int .u8 x.f0) ∧ wr.drew.cell? ⟨b', off' + i * 4 + 1, none⟩ = some (.int .u8 x.f1) ∧ wr.drew.cell? ⟨b', off' + i * 4 + 2, none⟩ = some (.slice B1 m1 e1) ∧ wr.drew.cell? ⟨b', off' + i * 4 + 3, none⟩ = some (.slice B2 m2 e2) ∧ wr.drew.cell? ⟨w.heap.size, 3, none⟩ = some (.slice (some ⟨b, off, none⟩) n c) ∧ wr.drew.cell? ⟨w.heap.size + 1, 3, none⟩ = some (.slice (some ⟨b', off', none⟩) n e) := ⟨below_drew (Below.refl _ _) 1, k0, k1, k2, k3, p0, p1, p2, p3, x3, y3⟩
      clear hx hm1 hm2 g1 g2 l1 l2 u1 u2 r1 r2 hil hsx k0 k1 k2 k3 p0 p1 p2 p3 x0 x1 x2 y0 y1 y2
      go_upto_region 6 with fail
      refine start_ (n := 12) (S := (fun W => Below wr.heap.size wr W ∧ W.cell? ⟨b, off + i * 4, none⟩ = some (.int .u8 x.f0) ∧ W.cell? ⟨b, off + i * 4 + 1, none⟩ = some (.int .u8 x.f1) ∧ W.cell? ⟨b, off + i * 4 + 2, none⟩ = some (.slice A1 m1 d1) ∧ W.cell? ⟨b, off + i * 4 + 3, none⟩ = some (.slice A2 m2 d2) ∧ W.cell? ⟨b', off' + i * 4, none⟩ = some (.int .u8 x.f0) ∧ W.cell? ⟨b', off' + i * 4 + 1, none⟩ = some (.int .u8 x.f1) ∧ W.cell? ⟨b', off' + i * 4 + 2, none⟩ = some (.slice B1 m1 e1) ∧ W.cell? ⟨b', off' + i * 4 + 3, none⟩ = some (.slice B2 m2 e2) ∧ W.cell? ⟨w.heap.size, 3, none⟩ = some (.slice (some ⟨b, off, none⟩) n c) ∧ W.cell? ⟨w.heap.size + 1, 3, none⟩ = some (.slice (some ⟨b', off', none⟩) n e))) (ds := [10]) (bA 12 0) (by kernel_rfl) rfl rfl hS0 (fun hHeld => ?_)
      generalize wr.drew = w44 at hS0 hHeld ⊢
      refine pure_ (i := 0) (N := some 27) (v := ?_) (a' := ?_) (bA 12 1) rfl rfl (by kernel_rfl) (fun _ _ _ h => h) (Or.inl ⟨by rfl, ?_⟩) ?_ ?_
      rotate_left
      · intro w'
        go_simp
        with_reducible rfl
      rotate_left
      · simp only [Act.put, sA, s0, sS, i64_w, i32_w]
        rfl
      refine pure_ (i := 2) (N := some 29) (v := ?_) (a' := ?_) (bA 12 5) rfl rfl (by kernel_rfl) (fun _ _ _ h => h) (Or.inl ⟨by rfl, ?_⟩) ?_ ?_
      rotate_left
      · intro w'
        go_simp
        with_reducible rfl
      rotate_left
      · simp only [Act.put, sA, s0, sS, i64_w, i32_w]
        rfl
      refine pure_ (i := 5) (N := some 32) (v := ?_) (a' := ?_) (bA 12 37) rfl rfl (by kernel_rfl) (fun _ _ _ h => h) (Or.inl ⟨by rfl, ?_⟩) ?_ ?_
      rotate_left
      · intro w'
        go_simp
        with_reducible rfl
      rotate_left
      · simp only [Act.put, sA, s0, sS, i64_w, i32_w]
        rfl
      refine pure_ (i := 7) (N := some 34) (v := ?_) (a' := ?_) (bA 12 165) rfl rfl (by kernel_rfl) (fun _ _ _ h => h) (Or.inl ⟨by rfl, ?_⟩) ?_ ?_
      rotate_left
      · intro w'
        go_simp
        with_reducible rfl
      rotate_left
      · simp only [Act.put, sA, s0, sS, i64_w, i32_w]
        rfl
      refine take_ (i := 1) (N := some 28) (v := ?_) (a' := ?_) (bA 12 167) rfl rfl (by kernel_rfl) (fun _ _ _ h => h) (Or.inl ⟨by rfl, ?_⟩) hHeld ?_ ?_
      rotate_left
      · rintro w' ⟨q0, q1, q2, q3, q4, q5, q6, q7, q8, q9, q10⟩
        go_simp
        with_reducible rfl
      rotate_left
      · simp only [Act.put, sA, s0, sS, i64_w, i32_w]
        rfl
      refine pure_ (i := 3) (N := some 30) (v := ?_) (a' := ?_) (bA 12 175) rfl rfl (by kernel_rfl) (fun _ _ _ h => h) (Or.inl ⟨by rfl, ?_⟩) ?_ ?_
      rotate_left
      · intro w'
        go_simp
        with_reducible rfl
      rotate_left
      · simp only [Act.put, sA, s0, sS, i64_w, i32_w]
        rfl
      refine take_ (i := 4) (N := some 31) (v := ?_) (a' := ?_) (bA 12 191) rfl rfl (by kernel_rfl) (fun _ _ _ h => h) (Or.inl ⟨by rfl, ?_⟩) hHeld ?_ ?_
      rotate_left
      · rintro w' ⟨q0, q1, q2, q3, q4, q5, q6, q7, q8, q9, q10⟩
        go_simp
        with_reducible rfl
      rotate_left
      · simp only [Act.put, sA, s0, sS, i64_w, i32_w]
        rfl
      refine take_ (i := 6) (N := some 33) (v := ?_) (a' := ?_) (bA 12 255) rfl rfl (by kernel_rfl) (fun _ _ _ h => h) (Or.inl ⟨by rfl, ?_⟩) hHeld ?_ ?_
      rotate_left
      · rintro w' ⟨q0, q1, q2, q3, q4, q5, q6, q7, q8, q9, q10⟩
        go_simp
        with_reducible rfl
      rotate_left
      · simp only [Act.put, sA, s0, sS, i64_w, i32_w]
        rfl
      refine pure_ (i := 8) (N := some 35) (v := ?_) (a' := ?_) (bA 12 511) rfl rfl (by kernel_rfl) (fun _ _ _ h => h) (Or.inl ⟨by rfl, ?_⟩) ?_ ?_
      rotate_left
      · intro w'
        go_simp
        with_reducible rfl
      rotate_left
      · simp only [Act.put, sA, s0, sS, i64_w, i32_w]
        rfl
      refine take_ (i := 9) (N := some 36) (v := ?_) (a' := ?_) (bA 12 1023) rfl rfl (by kernel_rfl) (fun _ _ _ h => h) (Or.inl ⟨by rfl, ?_⟩) hHeld ?_ ?_
      rotate_left
      · rintro w' ⟨q0, q1, q2, q3, q4, q5, q6, q7, q8, q9, q10⟩
        go_simp
        with_reducible rfl
      rotate_left
      · simp only [Act.put, sA, s0, sS, i64_w, i32_w]
        rfl
      refine last_ (i := 10) (N := some 37) (bA 12 2047) rfl rfl (by kernel_rfl) (by decide) (fun KK hK => ?_)
      refine goes_ Tryz.func38 (by kernel_rfl) rfl #[.agg #[.int .u8 x.f0, .int .u8 x.f1, .slice A1 m1 d1, .slice A2 m2 d2], .agg #[.int .u8 x.f0, .int .u8 x.f1, .slice B1 m1 e1, .slice B2 m2 e2]] (by rfl) rfl rfl (by simp only [List.map_toArray, List.map_cons, List.map_nil]; rfl) ?_
      refine Calls.mono (HX.out _ hHeld.1) ?_
      rintro e5 W6 ⟨rfl, hb5⟩
      refine ⟨_, rfl, ?_⟩
      have HB5 := hid (cthen hHeld.1 hb5)
      clear hb5
      refine hK.out _ _ ?_
      clear hK KK
      refine norm_ (a' := ?_) ?_ ?_
      rotate_left
      · show Act.put _ (some 37) _ = _
        simp only [Act.put, sA, s0, sS, i64_w, i32_w]
        rfl
      refine pure_ (i := 11) (N := some 38) (v := ?_) (a' := ?_) (bA 12 4095) rfl rfl (by kernel_rfl) (fun _ _ _ h => h) (Or.inl ⟨by rfl, ?_⟩) ?_ ?_
      rotate_left
      · intro w'
        go_simp
        with_reducible rfl
      rotate_left
      · simp only [Act.put, sA, s0, sS, i64_w, i32_w]
        rfl
      refine done_ (by kernel_rfl) ?_
      clear hS0 hHeld
      go_wp2_with fail
      exact ⟨⟨i + 1, by rw [HWI.out], hlt, hid (cthen hI.out HB5.out)⟩, by rw [HWI.out]; simp only [intOf, Int.toNat_natCast]; omega⟩
    · obtain rfl : n = i := by omega
      obtain ⟨⟨x0, x1, x2, x3⟩, -⟩ := four (blk_below XS.out hI.out)
      go_wp2_with fail
      go_ret
      exact ⟨rfl, cthen BS.out hI.out⟩
set_option maxRecDepth 100000 in
set_option maxHeartbeats 4000000 in
/-- 'same' of the same packets. -/
theorem same26_any (A B : Option Addr) (n c e : Nat) (l : List Pk) (w : World) (hn : l.length = n) (h1 : kP.C w A n l) (hc : n ≤ c) (h2 : kP.C w B n l) (he : n ≤ e) (hl : n ≤ 1000) (h : ∀ p ∈ l, p.f1.length ≤ 1000 ∧ ∀ x ∈ p.f1, SmC x) : Calls Tryz.prog 17 #[.slice A n c, .slice B n e] w (IsPost (.bool true) w) := by
  have HN := hid hn
  have HC1 := hid h1
  have HC2 := hid h2
  have HSM := hid h
  have HL := hid hl
  have HI0 := hid (Below.refl w.heap.size w)
  clear hn h1 h2 h hl
  go_enter Tryz.func17, Tryz.ntmps17
  go_wp2_with fail
  go_loopw [5] (fun vi W => ∃ (i : Nat), vi = .int .i64 i ∧ i ≤ n ∧ Hid (Below w.heap.size w W)) (fun vi _ => n - (intOf vi).toNat)
  case atStart => exact ⟨0, rfl, by omega, HI0⟩
  case round =>
    obtain ⟨i, rfl, hi, hI⟩ := hrel
    clear HI0
    by_cases hlt : i < n
    · have hil : i < l.length := by have := HN.out; omega
      have hii : (i : Int) < (n : Int) := by omega
      obtain ⟨b, off, A1, d1, rfl, k0, k1, k2, k3, l1, g1⟩ := pk_at (Kd.C_below HC1.out hI.out) i hil
      obtain ⟨b', off', B1, e1, rfl, p0, p1, p2, p3, r1, u1⟩ := pk_at (Kd.C_below HC2.out hI.out) i hil
      have hsx := HSM.out _ (List.getElem_mem hil)
      obtain ⟨x, hx⟩ : ∃ x, l[i] = x := ⟨_, rfl⟩
      rw [hx] at k0 k1 k2 k3 l1 g1 p0 p1 p2 p3 r1 u1 hsx
      obtain ⟨m1, hm1⟩ : ∃ m, x.f1.length = m := ⟨_, rfl⟩
      rw [hm1] at k3 p3 l1 r1 g1 u1
      have HWI := hid (show wrap64 ((i : Int) + 1) = ((i + 1 : Nat) : Int) by have := HL.out; unfold wrap64; omega)
      have HX := hid (fun W (hW : Below wr.heap.size wr W) => same22_any x A1 B1 m1 d1 e1 W hm1 (Kd.C_below g1 hW) l1 (Kd.C_below u1 hW) r1 (by have := hsx.1; omega) hsx.2)
      have hS0 : Below wr.heap.size wr wr.drew ∧ wr.drew.cell? ⟨b, off + i * 4, none⟩ = some (.int .u16 x.f0.f0) ∧ wr.drew.cell? ⟨b, off + i * 4 + 1, none⟩ = some (.int .u16 x.f0.f1) ∧ wr.drew.cell? ⟨b, off + i * 4 + 2, none⟩ = some (.int .u32 x.f0.f2) ∧ wr.drew.cell? ⟨b, off + i * 4 + 3, none⟩ = some (.slice A1 m1 d1) ∧ wr.drew.cell? ⟨b', off' + i * 4, none⟩ = some (.int .u16 x.f0.f0) ∧ wr.drew.cell? ⟨b', off' + i * 4 + 1, none⟩ = some (.int .u16 x.f0.f1) ∧ wr.drew.cell? ⟨b', off' + i * 4 + 2, none⟩ = some (.int .u32 x.f0.f2) ∧ wr.drew.cell? ⟨b', off' + i * 4 + 3, none⟩ = some (.slice B1 m1 e1) := ⟨below_drew (Below.refl _ _) 1, k0, k1, k2, k3, p0, p1, p2, p3⟩
      clear hx hm1 g1 l1 u1 r1 hil hsx k0 k1 k2 k3 p0 p1 p2 p3
      go_upto_region 6 with fail
      refine start_ (n := 10) (S := (fun W => Below wr.heap.size wr W ∧ W.cell? ⟨b, off + i * 4, none⟩ = some (.int .u16 x.f0.f0) ∧ W.cell? ⟨b, off + i * 4 + 1, none⟩ = some (.int .u16 x.f0.f1) ∧ W.cell? ⟨b, off + i * 4 + 2, none⟩ = some (.int .u32 x.f0.f2) ∧ W.cell? ⟨b, off + i * 4 + 3, none⟩ = some (.slice A1 m1 d1) ∧ W.cell? ⟨b', off' + i * 4, none⟩ = some (.int .u16 x.f0.f0) ∧ W.cell? ⟨b', off' + i * 4 + 1, none⟩ = some (.int .u16 x.f0.f1) ∧ W.cell? ⟨b', off' + i * 4 + 2, none⟩ = some (.int .u32 x.f0.f2) ∧ W.cell? ⟨b', off' + i * 4 + 3, none⟩ = some (.slice B1 m1 e1))) (ds := [8]) (bA 10 0) (by kernel_rfl) rfl rfl hS0 (fun hHeld => ?_)
      generalize wr.drew = w44 at hS0 hHeld ⊢
      refine pure_ (i := 0) (N := some 17) (v := ?_) (a' := ?_) (bA 10 1) rfl rfl (by kernel_rfl) (fun _ _ _ h => h) (Or.inl ⟨by rfl, ?_⟩) ?_ ?_
      rotate_left
      · intro w'
        go_simp
        with_reducible rfl
      rotate_left
      · simp only [Act.put, sA, s0, sS, i64_w, i32_w]
        rfl
      refine pure_ (i := 1) (N := some 18) (v := ?_) (a' := ?_) (bA 10 3) rfl rfl (by kernel_rfl) (fun _ _ _ h => h) (Or.inl ⟨by rfl, ?_⟩) ?_ ?_
      rotate_left
      · intro w'
        go_simp
        with_reducible rfl
      rotate_left
      · simp only [Act.put, sA, s0, sS, i64_w, i32_w]
        rfl
      refine pure_ (i := 2) (N := some 19) (v := ?_) (a' := ?_) (bA 10 7) rfl rfl (by kernel_rfl) (fun _ _ _ h => h) (Or.inl ⟨by rfl, ?_⟩) ?_ ?_
      rotate_left
      · intro w'
        go_simp
        with_reducible rfl
      rotate_left
      · simp only [Act.put, sA, s0, sS, i64_w, i32_w]
        rfl
      refine pure_ (i := 4) (N := some 21) (v := ?_) (a' := ?_) (bA 10 23) rfl rfl (by kernel_rfl) (fun _ _ _ h => h) (Or.inl ⟨by rfl, ?_⟩) ?_ ?_
      rotate_left
      · intro w'
        go_simp
        with_reducible rfl
      rotate_left
      · simp only [Act.put, sA, s0, sS, i64_w, i32_w]
        rfl
      refine pure_ (i := 5) (N := some 22) (v := ?_) (a' := ?_) (bA 10 55) rfl rfl (by kernel_rfl) (fun _ _ _ h => h) (Or.inl ⟨by rfl, ?_⟩) ?_ ?_
      rotate_left
      · intro w'
        go_simp
        with_reducible rfl
      rotate_left
      · simp only [Act.put, sA, s0, sS, i64_w, i32_w]
        rfl
      refine pure_ (i := 6) (N := some 23) (v := ?_) (a' := ?_) (bA 10 119) rfl rfl (by kernel_rfl) (fun _ _ _ h => h) (Or.inl ⟨by rfl, ?_⟩) ?_ ?_
      rotate_left
      · intro w'
        go_simp
        with_reducible rfl
      rotate_left
      · simp only [Act.put, sA, s0, sS, i64_w, i32_w]
        rfl
      refine take_ (i := 3) (N := some 20) (v := ?_) (a' := ?_) (bA 10 127) rfl rfl (by kernel_rfl) (fun _ _ _ h => h) (Or.inl ⟨by rfl, ?_⟩) hHeld ?_ ?_
      rotate_left
      · rintro w' ⟨q0, q1, q2, q3, q4, q5, q6, q7, q8⟩
        go_simp
        with_reducible rfl
      rotate_left
      · simp only [Act.put, sA, s0, sS, i64_w, i32_w]
        rfl
      refine take_ (i := 7) (N := some 24) (v := ?_) (a' := ?_) (bA 10 255) rfl rfl (by kernel_rfl) (fun _ _ _ h => h) (Or.inl ⟨by rfl, ?_⟩) hHeld ?_ ?_
      rotate_left
      · rintro w' ⟨q0, q1, q2, q3, q4, q5, q6, q7, q8⟩
        go_simp
        with_reducible rfl
      rotate_left
      · simp only [Act.put, sA, s0, sS, i64_w, i32_w]
        rfl
      refine last_ (i := 8) (N := some 25) (bA 10 511) rfl rfl (by kernel_rfl) (by decide) (fun KK hK => ?_)
      refine goes_ Tryz.func37 (by kernel_rfl) rfl #[.agg #[.int .u16 x.f0.f0, .int .u16 x.f0.f1, .int .u32 x.f0.f2, .slice A1 m1 d1], .agg #[.int .u16 x.f0.f0, .int .u16 x.f0.f1, .int .u32 x.f0.f2, .slice B1 m1 e1]] (by rfl) rfl rfl (by simp only [List.map_toArray, List.map_cons, List.map_nil]; rfl) ?_
      refine Calls.mono (HX.out _ hHeld.1) ?_
      rintro e5 W6 ⟨rfl, hb5⟩
      refine ⟨_, rfl, ?_⟩
      have HB5 := hid (cthen hHeld.1 hb5)
      clear hb5
      refine hK.out _ _ ?_
      clear hK KK
      refine norm_ (a' := ?_) ?_ ?_
      rotate_left
      · show Act.put _ (some 25) _ = _
        simp only [Act.put, sA, s0, sS, i64_w, i32_w]
        rfl
      refine pure_ (i := 9) (N := some 26) (v := ?_) (a' := ?_) (bA 10 1023) rfl rfl (by kernel_rfl) (fun _ _ _ h => h) (Or.inl ⟨by rfl, ?_⟩) ?_ ?_
      rotate_left
      · intro w'
        go_simp
        with_reducible rfl
      rotate_left
      · simp only [Act.put, sA, s0, sS, i64_w, i32_w]
        rfl
      refine done_ (by kernel_rfl) ?_
      clear hS0 hHeld
      go_wp2_with fail
      exact ⟨⟨i + 1, by rw [HWI.out], hlt, hid (cthen hI.out HB5.out)⟩, by rw [HWI.out]; simp only [intOf, Int.toNat_natCast]; omega⟩
    · obtain rfl : n = i := by omega
      go_wp2_with fail
      go_ret
      exact ⟨rfl, hI.out⟩
end Bn
end Go.Proofs.YtmfmomfhiieilaaGreatDoor
/- 'errors.As' with a fault as its target; 'fault.At'. -/
set_option linter.unusedVariables false
set_option linter.unusedSimpArgs false
namespace Go.Proofs.YtmfmomfhiieilaaGreatDoor
open Go.RowKit Go.Shelf Go.Proofs.YtmfmomfhiieilaaGreatDoor.It Go.Proofs.YtmfmomfhiieilaaGreatDoorW.PrintWords Go.Extern.Stop Go.Stop Go.Extern
namespace Bn
theorem valueOfP (t : Addr) (w : World) : (ReflectliteValue.unpack (.iface 104 (.pointer (some t)))).run Tryz.prog w
    = .ok (.agg #[.pointer (some ⟨4, 104, none⟩), .pointer (some ⟨w.heap.size, 0, none⟩), .int .u64 150]) (w.alloc (.cells #[.pointer (some t)] 104)) := by kernel_rfl
theorem typeP (a : Addr) (w : World) : (ReflectliteValue.methodAny (ReflectliteValue.valueError "reflectlite.Value.Type" 0) (fun t _ _ _ => ReflectliteType.toType t) #[.agg #[.pointer (some ⟨4, 104, none⟩), .pointer (some a), .int .u64 150]]).run Tryz.prog w
    = .ok (.iface 152 (.agg #[.pointer (some ⟨4, 104, none⟩)])) w := by kernel_rfl
theorem kindP (w : World) : ((ReflectliteType.abiMethod fun t => (fun a : Nat => Value.int IntKind.u8 (a : Int)) <$> Rtype.kind t) #[.pointer (some ⟨4, 104, none⟩)]).run Tryz.prog w = .ok (.int .u8 22) w := by kernel_rfl
theorem kindF (w : World) : ((ReflectliteType.abiMethod fun t => (fun a : Nat => Value.int IntKind.u8 (a : Int)) <$> Rtype.kind t) #[.pointer (some ⟨4, 90, none⟩)]).run Tryz.prog w = .ok (.int .u8 25) w := by kernel_rfl
theorem elemP (w : World) : (ReflectliteType.method ReflectliteType.elem #[.agg #[.pointer (some ⟨4, 104, none⟩)]]).run Tryz.prog w = .ok (.iface 152 (.agg #[.pointer (some ⟨4, 90, none⟩)])) w := by kernel_rfl
theorem implementsF (w : World) : (ReflectliteType.relation "Implements" ReflectliteType.implements_ #[.agg #[.pointer (some ⟨4, 90, none⟩)], .iface 152 (.agg #[.pointer (some ⟨4, 31, none⟩)])]).run Tryz.prog w = .ok (.bool true) w := by kernel_rfl
theorem assignableFF (w : World) : (ReflectliteType.relation "AssignableTo" ReflectliteType.assignableTo #[.agg #[.pointer (some ⟨4, 90, none⟩)], .iface 152 (.agg #[.pointer (some ⟨4, 90, none⟩)])]).run Tryz.prog w = .ok (.bool true) w := by kernel_rfl
theorem assignableCF (w : World) : (ReflectliteType.relation "AssignableTo" ReflectliteType.assignableTo #[.agg #[.pointer (some ⟨4, 54, none⟩)], .iface 152 (.agg #[.pointer (some ⟨4, 90, none⟩)])]).run Tryz.prog w = .ok (.bool false) w := by kernel_rfl
theorem valueOfF (c n : Int) (w : World) : (ReflectliteValue.unpack (.iface 90 (.agg #[.int .i64 c, .int .i64 n]))).run Tryz.prog w
    = .ok (.agg #[.pointer (some ⟨4, 90, none⟩), .pointer (some ⟨w.heap.size, 0, none⟩), .int .u64 153]) (w.alloc (.cells #[.int .i64 c, .int .i64 n] 90)) := by kernel_rfl
theorem noAsC (v : Value) (xT : TypeId) (w : World) : (Instr.typeAssert (.iface 54 v) xT 157 true).run Tryz.prog w = .ok (.tuple #[.nilIface, .bool false]) w := run_typeAssert_lacksB Tryz.underlying157 (by kernel_rfl) (by kernel_rfl) v xT w
theorem noUnC (v : Value) (xT : TypeId) (w : World) : (Instr.typeAssert (.iface 54 v) xT 160 true).run Tryz.prog w = .ok (.tuple #[.nilIface, .bool false]) w := run_typeAssert_lacksB Tryz.underlying160 (by kernel_rfl) (by kernel_rfl) v xT w
theorem noUsC (v : Value) (xT : TypeId) (w : World) : (Instr.typeAssert (.iface 54 v) xT 162 true).run Tryz.prog w = .ok (.tuple #[.nilIface, .bool false]) w := run_typeAssert_lacksB Tryz.underlying162 (by kernel_rfl) (by kernel_rfl) v xT w
theorem partsP (a : Addr) (w : World) : (ReflectliteValue.parts (.agg #[.pointer (some ⟨4, 104, none⟩), .pointer (some a), .int .u64 150])).run Tryz.prog w = .ok (some (104, a, 150)) w := by kernel_rfl
theorem isNilP (a p : Addr) (W : World) (ha : W.cell? a = some (.pointer (some p))) :
    (ReflectliteValue.method (ReflectliteValue.valueError "reflectlite.Value.IsNil" 0) ReflectliteValue.isNil #[.agg #[.pointer (some ⟨4, 104, none⟩), .pointer (some a), .int .u64 150]]).run Tryz.prog W = .ok (.bool false) W := by
  rw [rlm]
  simp only [Sem.run_bind, partsP, Result.andThen]
  simp [ReflectliteValue.isNil, loadVar, isAgg, underlying, Tryz.underlying104, ha, Result.andThen]
theorem elemOfP (w : World) : (Rtype.elem? 104).run Tryz.prog w = .ok (some 90) w := by kernel_rfl
theorem mkF (p : Addr) (w : World) : (ReflectliteValue.mk 90 p ReflectliteValue.flagAddr).run Tryz.prog w = .ok (.agg #[.pointer (some ⟨4, 90, none⟩), .pointer (some p), .int .u64 409]) w := by kernel_rfl
theorem elemVP (a p : Addr) (W : World) (ha : W.cell? a = some (.pointer (some p))) :
    (ReflectliteValue.method (ReflectliteValue.valueError "reflectlite.Value.Elem" 0) ReflectliteValue.elem #[.agg #[.pointer (some ⟨4, 104, none⟩), .pointer (some a), .int .u64 150]]).run Tryz.prog W
      = .ok (.agg #[.pointer (some ⟨4, 90, none⟩), .pointer (some p), .int .u64 409]) W := by
  rw [rlm]
  simp only [Sem.run_bind, partsP, Result.andThen]
  simp [ReflectliteValue.elem, loadVar, isAgg, underlying, Tryz.underlying104, ha, Result.andThen, elemOfP, mkF]
theorem partsFa (a : Addr) (w : World) : (ReflectliteValue.parts (.agg #[.pointer (some ⟨4, 90, none⟩), .pointer (some a), .int .u64 409])).run Tryz.prog w = .ok (some (90, a, 409)) w := by kernel_rfl
theorem partsF (a : Addr) (w : World) : (ReflectliteValue.parts (.agg #[.pointer (some ⟨4, 90, none⟩), .pointer (some a), .int .u64 153])).run Tryz.prog w = .ok (some (90, a, 153)) w := by kernel_rfl
theorem directF (w : World) : (Rtype.directlyAssignable 90 90).run Tryz.prog w = .ok true w := by kernel_rfl
theorem setF (tb b : Nat) (c n : Int) (o0 o1 : Value) (W : World) (hb0 : W.cell? ⟨b, 0, none⟩ = some (.int .i64 c)) (hb1 : W.cell? ⟨b, 1, none⟩ = some (.int .i64 n)) (ht0 : W.cell? ⟨tb, 0, none⟩ = some o0) (ht1 : W.cell? ⟨tb, 1, none⟩ = some o1) (hf0 : W.frozen? ⟨tb, 0, none⟩ = false) (hf1 : W.frozen? ⟨tb, 1, none⟩ = false) :
    (ReflectliteValue.set #[.agg #[.pointer (some ⟨4, 90, none⟩), .pointer (some ⟨tb, 0, none⟩), .int .u64 409], .agg #[.pointer (some ⟨4, 90, none⟩), .pointer (some ⟨b, 0, none⟩), .int .u64 153]]).run Tryz.prog W
      = .ok (.tuple #[]) ((W.setCell ⟨tb, 0, none⟩ (.int .i64 c)).setCell ⟨tb, 1, none⟩ (.int .i64 n)) := by
  rw [rls]
  simp only [Sem.run_bind, partsFa, partsF, Result.andThen]
  have hcl : ∀ W' : World, W'.cell? ⟨b, 0, none⟩ = some (.int .i64 c) → W'.cell? ⟨b, 1, none⟩ = some (.int .i64 n) → (loadVar 90 ⟨b, 0, none⟩).run Tryz.prog W' = .ok (.agg #[.int .i64 c, .int .i64 n]) W' := by
    intro W' h0 h1
    go_simp
  have hst : (storeVar 90 ⟨tb, 0, none⟩ (.agg #[.int .i64 c, .int .i64 n])).run Tryz.prog W = .ok () ((W.setCell ⟨tb, 0, none⟩ (.int .i64 c)).setCell ⟨tb, 1, none⟩ (.int .i64 n)) := by
    go_simp
  simp [ReflectliteValue.flagAddr, hcl W hb0 hb1, directF, hst, Result.andThen]
set_option maxHeartbeats 4000000 in
theorem as_codeF (c : Int) (tb : Nat) (w : World) (hg : GTab w) :
    Calls Tryz.prog 43 #[.iface 54 (.int .i64 c), .iface 104 (.pointer (some ⟨tb, 0, none⟩))] w (IsPost (.bool false) w) := by
  have h6 := @run_callFunc_extern Tryz.prog 75 _ (fun args => ReflectliteValue.unpack (args.getD 0 (.tuple #[]))) Tryz.func75 (by kernel_rfl) (by kernel_rfl) (by kernel_rfl) (by kernel_rfl)
  have h7 := @run_callFunc_extern Tryz.prog 76 _ (ReflectliteValue.methodAny (ReflectliteValue.valueError "reflectlite.Value.Type" 0) (fun t _ _ _ => ReflectliteType.toType t)) Tryz.func76 (by kernel_rfl) (by kernel_rfl) (by kernel_rfl) (by kernel_rfl)
  have h8 := @run_callFunc_extern Tryz.prog 77 _ (ReflectliteValue.method (ReflectliteValue.valueError "reflectlite.Value.IsNil" 0) ReflectliteValue.isNil) Tryz.func77 (by kernel_rfl) (by kernel_rfl) (by kernel_rfl) (by kernel_rfl)
  have h27 := @run_callFunc_extern Tryz.prog 149 _ (ReflectliteType.abiMethod fun t => do pure (.int .u8 (← Rtype.kind t))) Tryz.func149 (by kernel_rfl) (by kernel_rfl) (by kernel_rfl) (by kernel_rfl)
  have h37 := @run_callFunc_extern Tryz.prog 161 _ (ReflectliteType.method ReflectliteType.elem) Tryz.func161 (by kernel_rfl) (by kernel_rfl) (by kernel_rfl) (by kernel_rfl)
  have h38 := @run_callFunc_extern Tryz.prog 162 _ (ReflectliteType.relation "Implements" ReflectliteType.implements_) Tryz.func162 (by kernel_rfl) (by kernel_rfl) (by kernel_rfl) (by kernel_rfl)
  have h10 := @run_callFunc_extern Tryz.prog 97 _ (ReflectliteType.typeOf) Tryz.func97 (by kernel_rfl) (by kernel_rfl) (by kernel_rfl) (by kernel_rfl)
  have h35 := @run_callFunc_extern Tryz.prog 159 _ (ReflectliteType.relation "AssignableTo" ReflectliteType.assignableTo) Tryz.func159 (by kernel_rfl) (by kernel_rfl) (by kernel_rfl) (by kernel_rfl)
  have h11 := @run_callFunc_extern Tryz.prog 98 _ (ReflectliteValue.method (ReflectliteValue.valueError "reflectlite.Value.Elem" 0) ReflectliteValue.elem) Tryz.func98 (by kernel_rfl) (by kernel_rfl) (by kernel_rfl) (by kernel_rfl)
  have h12 := @run_callFunc_extern Tryz.prog 99 _ (ReflectliteValue.set) Tryz.func99 (by kernel_rfl) (by kernel_rfl) (by kernel_rfl) (by kernel_rfl)
  have f6 := valueOfP
  have f7 := typeP
  have k27 := kindP
  have k25 := kindF
  have e27 := elemP
  have i25 := implementsF
  have tO := typeOfC
  have tF := typeOfF
  have aC := assignableCF
  have aF := assignableFF
  have vF := valueOfF
  have nA := noAsC
  have nU := noUnC
  have nS := noUsC
  have n8 := isNilP ⟨w.heap.size, 0, none⟩ ⟨tb, 0, none⟩ ((w.alloc (.cells #[.pointer (some ⟨tb, 0, none⟩)] 104)).alloc (.cells #[.pointer (some ⟨4, 104, none⟩), .pointer (some ⟨w.heap.size, 0, none⟩), .int .u64 150] 114)) (by simp)
  have mK := methodKind
  have mE := methodElem
  have mI := methodImplements
  have mA := methodAssignableTo
  have hlt : 3 ≤ w.heap.size := hg.sz
  have hg2 := (hg.below (((Below.refl w.heap.size w).alloc (Nat.le_refl _) (.cells #[.pointer (some ⟨tb, 0, none⟩)] 104)).alloc (by simp) (.cells #[.pointer (some ⟨4, 104, none⟩), .pointer (some ⟨w.heap.size, 0, none⟩), .int .u64 150] 114))).e
  clear hg
  go_enter Tryz.func43, Tryz.ntmps43
  go_wp2
  refine wp_loop_rounds 1 ?_
  rw [rounds_succ]
  go_wp2
  go_ret
  exact ⟨rfl, below_alloc (below_alloc (below_alloc (Below.refl _ _) _) _) _⟩
set_option maxHeartbeats 4000000 in
theorem as_faultF (c n : Int) (tb : Nat) (o0 o1 : Value) (w : World) (hg : GTab w) (ht0 : w.cell? ⟨tb, 0, none⟩ = some o0) (ht1 : w.cell? ⟨tb, 1, none⟩ = some o1) (hf0 : w.frozen? ⟨tb, 0, none⟩ = false) (hf1 : w.frozen? ⟨tb, 1, none⟩ = false) :
    Calls Tryz.prog 43 #[.iface 90 (.agg #[.int .i64 c, .int .i64 n]), .iface 104 (.pointer (some ⟨tb, 0, none⟩))] w fun ev w' => ev = .returned (.bool true) ∧ w' = (((((w.alloc (.cells #[.pointer (some ⟨tb, 0, none⟩)] 104)).alloc (.cells #[.pointer (some ⟨4, 104, none⟩), .pointer (some ⟨w.heap.size, 0, none⟩), .int .u64 150] 114)).alloc (.cells #[.pointer (some ⟨4, 104, none⟩), .pointer (some ⟨w.heap.size, 0, none⟩), .int .u64 150] 114)).alloc (.cells #[.int .i64 c, .int .i64 n] 90)).setCell ⟨tb, 0, none⟩ (.int .i64 c)).setCell ⟨tb, 1, none⟩ (.int .i64 n) := by
  have h6 := @run_callFunc_extern Tryz.prog 75 _ (fun args => ReflectliteValue.unpack (args.getD 0 (.tuple #[]))) Tryz.func75 (by kernel_rfl) (by kernel_rfl) (by kernel_rfl) (by kernel_rfl)
  have h7 := @run_callFunc_extern Tryz.prog 76 _ (ReflectliteValue.methodAny (ReflectliteValue.valueError "reflectlite.Value.Type" 0) (fun t _ _ _ => ReflectliteType.toType t)) Tryz.func76 (by kernel_rfl) (by kernel_rfl) (by kernel_rfl) (by kernel_rfl)
  have h8 := @run_callFunc_extern Tryz.prog 77 _ (ReflectliteValue.method (ReflectliteValue.valueError "reflectlite.Value.IsNil" 0) ReflectliteValue.isNil) Tryz.func77 (by kernel_rfl) (by kernel_rfl) (by kernel_rfl) (by kernel_rfl)
  have h27 := @run_callFunc_extern Tryz.prog 149 _ (ReflectliteType.abiMethod fun t => do pure (.int .u8 (← Rtype.kind t))) Tryz.func149 (by kernel_rfl) (by kernel_rfl) (by kernel_rfl) (by kernel_rfl)
  have h37 := @run_callFunc_extern Tryz.prog 161 _ (ReflectliteType.method ReflectliteType.elem) Tryz.func161 (by kernel_rfl) (by kernel_rfl) (by kernel_rfl) (by kernel_rfl)
  have h38 := @run_callFunc_extern Tryz.prog 162 _ (ReflectliteType.relation "Implements" ReflectliteType.implements_) Tryz.func162 (by kernel_rfl) (by kernel_rfl) (by kernel_rfl) (by kernel_rfl)
  have h10 := @run_callFunc_extern Tryz.prog 97 _ (ReflectliteType.typeOf) Tryz.func97 (by kernel_rfl) (by kernel_rfl) (by kernel_rfl) (by kernel_rfl)
  have h35 := @run_callFunc_extern Tryz.prog 159 _ (ReflectliteType.relation "AssignableTo" ReflectliteType.assignableTo) Tryz.func159 (by kernel_rfl) (by kernel_rfl) (by kernel_rfl) (by kernel_rfl)
  have h11 := @run_callFunc_extern Tryz.prog 98 _ (ReflectliteValue.method (ReflectliteValue.valueError "reflectlite.Value.Elem" 0) ReflectliteValue.elem) Tryz.func98 (by kernel_rfl) (by kernel_rfl) (by kernel_rfl) (by kernel_rfl)
  have h12 := @run_callFunc_extern Tryz.prog 99 _ (ReflectliteValue.set) Tryz.func99 (by kernel_rfl) (by kernel_rfl) (by kernel_rfl) (by kernel_rfl)
  have f6 := valueOfP
  have f7 := typeP
  have k27 := kindP
  have k25 := kindF
  have e27 := elemP
  have i25 := implementsF
  have tO := typeOfC
  have tF := typeOfF
  have aC := assignableCF
  have aF := assignableFF
  have vF := valueOfF
  have nA := noAsC
  have nU := noUnC
  have nS := noUsC
  have n8 := isNilP ⟨w.heap.size, 0, none⟩ ⟨tb, 0, none⟩ ((w.alloc (.cells #[.pointer (some ⟨tb, 0, none⟩)] 104)).alloc (.cells #[.pointer (some ⟨4, 104, none⟩), .pointer (some ⟨w.heap.size, 0, none⟩), .int .u64 150] 114)) (by simp)
  have mK := methodKind
  have mE := methodElem
  have mI := methodImplements
  have mA := methodAssignableTo
  have hlt : 3 ≤ w.heap.size := hg.sz
  have hg2 := (hg.below (((Below.refl w.heap.size w).alloc (Nat.le_refl _) (.cells #[.pointer (some ⟨tb, 0, none⟩)] 104)).alloc (by simp) (.cells #[.pointer (some ⟨4, 104, none⟩), .pointer (some ⟨w.heap.size, 0, none⟩), .int .u64 150] 114))).e
  have htl : tb < w.heap.size := World.block_lt_of_cell? w _ ht0
  have el := elemVP ⟨w.heap.size, 0, none⟩ ⟨tb, 0, none⟩ (((w.alloc (.cells #[.pointer (some ⟨tb, 0, none⟩)] 104)).alloc (.cells #[.pointer (some ⟨4, 104, none⟩), .pointer (some ⟨w.heap.size, 0, none⟩), .int .u64 150] 114)).alloc (.cells #[.pointer (some ⟨4, 104, none⟩), .pointer (some ⟨w.heap.size, 0, none⟩), .int .u64 150] 114)) (by rw [World.cell?_alloc_lt _ _ ⟨w.heap.size, 0, none⟩ (by simp; omega)]; simp)
  have hbw : Below w.heap.size w ((((w.alloc (.cells #[.pointer (some ⟨tb, 0, none⟩)] 104)).alloc (.cells #[.pointer (some ⟨4, 104, none⟩), .pointer (some ⟨w.heap.size, 0, none⟩), .int .u64 150] 114)).alloc (.cells #[.pointer (some ⟨4, 104, none⟩), .pointer (some ⟨w.heap.size, 0, none⟩), .int .u64 150] 114)).alloc (.cells #[.int .i64 c, .int .i64 n] 90)) := below_alloc (below_alloc (below_alloc (below_alloc (Below.refl _ _) _) _) _) _
  have hfz : ∀ j, w.frozen? ⟨tb, j, none⟩ = false → ((((w.alloc (.cells #[.pointer (some ⟨tb, 0, none⟩)] 104)).alloc (.cells #[.pointer (some ⟨4, 104, none⟩), .pointer (some ⟨w.heap.size, 0, none⟩), .int .u64 150] 114)).alloc (.cells #[.pointer (some ⟨4, 104, none⟩), .pointer (some ⟨w.heap.size, 0, none⟩), .int .u64 150] 114)).alloc (.cells #[.int .i64 c, .int .i64 n] 90)).frozen? ⟨tb, j, none⟩ = false := fun j h => (World.frozen?_of_block (a := ⟨tb, j, none⟩) (hbw.block tb htl)).trans h
  have hsz : ((((w.alloc (.cells #[.pointer (some ⟨tb, 0, none⟩)] 104)).alloc (.cells #[.pointer (some ⟨4, 104, none⟩), .pointer (some ⟨w.heap.size, 0, none⟩), .int .u64 150] 114)).alloc (.cells #[.pointer (some ⟨4, 104, none⟩), .pointer (some ⟨w.heap.size, 0, none⟩), .int .u64 150] 114))).heap.size = w.heap.size + 1 + 1 + 1 := by simp
  have hnb := blk_new (((w.alloc (.cells #[.pointer (some ⟨tb, 0, none⟩)] 104)).alloc (.cells #[.pointer (some ⟨4, 104, none⟩), .pointer (some ⟨w.heap.size, 0, none⟩), .int .u64 150] 114)).alloc (.cells #[.pointer (some ⟨4, 104, none⟩), .pointer (some ⟨w.heap.size, 0, none⟩), .int .u64 150] 114)) (.cells #[.int .i64 c, .int .i64 n] 90)
  rw [hsz] at hnb
  have st := setF tb (w.heap.size + 1 + 1 + 1) c n o0 o1 ((((w.alloc (.cells #[.pointer (some ⟨tb, 0, none⟩)] 104)).alloc (.cells #[.pointer (some ⟨4, 104, none⟩), .pointer (some ⟨w.heap.size, 0, none⟩), .int .u64 150] 114)).alloc (.cells #[.pointer (some ⟨4, 104, none⟩), .pointer (some ⟨w.heap.size, 0, none⟩), .int .u64 150] 114)).alloc (.cells #[.int .i64 c, .int .i64 n] 90)) ((blk_cell hnb 0).trans rfl) ((blk_cell hnb 1).trans rfl) (pw_cell_below hbw ht0) (pw_cell_below hbw ht1) (hfz 0 hf0) (hfz 1 hf1)
  clear hg hbw hfz hsz hnb
  go_enter Tryz.func43, Tryz.ntmps43
  go_wp2
  refine wp_loop_rounds 1 ?_
  rw [rounds_succ]
  go_wp2
  go_ret
  exact ⟨rfl, rfl⟩
set_option maxHeartbeats 1000000 in
/-- 'fault.At'. -/
theorem at_any (c : Int) (n : Option Int) (w : World) (hg : GTab w) : Calls Tryz.prog 36 #[eV (some (c, n))] w (IsPost (.tuple #[.int .i64 (n.getD 0), .bool n.isSome]) w) := by
  have B1 : Below w.heap.size w (w.alloc (.cells #[.int .i64 0, .int .i64 0] 90)) := below_alloc (Below.refl _ _) _
  have HB1 := hid B1
  have HG := hid (hg.below B1)
  have HX := hid (blk_new w (.cells #[.int .i64 0, .int .i64 0] 90))
  clear hg B1
  rcases n with _ | n
  · unfold eV
    obtain ⟨⟨x0, x1⟩, -⟩ := (show ((w.alloc (.cells #[.int .i64 0, .int .i64 0] 90)).cell? ⟨w.heap.size, 0, none⟩ = some (.int .i64 0) ∧ (w.alloc (.cells #[.int .i64 0, .int .i64 0] 90)).cell? ⟨w.heap.size, 1, none⟩ = some (.int .i64 0)) ∧ True from ⟨⟨(blk_cell HX.out 0).trans rfl, (blk_cell HX.out 1).trans rfl⟩, trivial⟩)
    go_enter Tryz.func36, Tryz.ntmps36
    go_wp2_with fail
    refine (as_codeF c w.heap.size _ HG.out).mono ?_
    rintro e w1 ⟨rfl, hb⟩
    have HB := hid (cthen HB1.out hb)
    have y1 := pw_cell_below hb x1
    clear hb x0 x1
    go_wp2_with fail
    go_ret2
    exact ⟨rfl, HB.out⟩
  · unfold eV
    go_enter Tryz.func36, Tryz.ntmps36
    go_wp2_with fail
    refine (as_faultF c n w.heap.size (.int .i64 0) (.int .i64 0) _ HG.out ((blk_cell HX.out 0).trans rfl) ((blk_cell HX.out 1).trans rfl) (blk_frozen HX.out 0) (blk_frozen HX.out 1)).mono ?_
    rintro e w1 ⟨rfl, hw⟩
    have hblk : w1.heap[w.heap.size]? = some (.cells #[.int .i64 c, .int .i64 n] 90 (0, 0)) := by
      rw [hw]
      exact set_blk3 (set_blk3 (blk_below HX.out (below_alloc (below_alloc (below_alloc (below_alloc (Below.refl _ _) _) _) _) _)) 0 _) 1 _
    have y1 : w1.cell? ⟨w.heap.size, 1, none⟩ = some (.int .i64 n) := (blk_cell hblk 1).trans rfl
    have hB : Hid (Below w.heap.size w w1) := by
      rw [hw]
      exact hid (below_set (below_set (below_alloc (below_alloc (below_alloc (below_alloc HB1.out _) _) _) _) (Nat.le_refl _) _) (Nat.le_refl _) _)
    clear hw hblk
    go_wp2_with fail
    go_ret2
    exact ⟨rfl, hB.out⟩
end Bn
end Go.Proofs.YtmfmomfhiieilaaGreatDoor
/- The walk of the law 'BundleGreedy'. -/
set_option linter.unusedVariables false
set_option linter.unusedSimpArgs false
namespace Go.Proofs.YtmfmomfhiieilaaGreatDoor
open Go.RowKit Go.Shelf Go.Proofs.YtmfmomfhiieilaaGreatDoor.It Go.Proofs.YtmfmomfhiieilaaGreatDoorW.PrintWords Go.Proofs.YtmfmomfhiieilaaGreatDoorW.PrintLast Go.Proofs.YtmfmomfhiieilaaGreatDoorW.PrintMore
namespace Bn
open PBundleSorted
/-- The numbers of a chunk are those of their types. -/
structure CkR (x : Ck) : Prop where
  t0 : 0 ≤ x.f0
  t1 : x.f0 ≤ 255
  g0 : 0 ≤ x.f1
  g1 : x.f1 ≤ 255
  byt : Byt x.f2
  nds : okL x.f3
theorem ckOk_of {x : Ck} (h : CkR x) (hf : fewC x) : CkOk x := ⟨h.t0, h.t1, h.g0, h.g1, h.byt, h.nds, by have := hf.1; omega, by have := hf.2; omega⟩
theorem fstBad_ne : ∀ (l : List Ck) (i : Nat) (er : Int × Option Int), fstBad i l = some er → er.1 ≠ 0
  | [], i, er, h => by rw [fstBad] at h; cases h
  | x :: l, i, er, h => by
    rw [fstBad] at h
    split at h
    · exact fstBad_ne l (i + 1) er h
    · next h0 => injection h with h; subst h; exact h0
theorem ofErr_ne {M : Int} {l : List Ck} {er : Int × Option Int} (h : ofErr M l = some er) : er.1 ≠ 0 := by
  unfold ofErr at h
  split at h
  · injection h with h; subst h; decide
  · split at h
    · injection h with h; subst h; decide
    · exact fstBad_ne _ _ _ h
end Bn
end Go.Proofs.YtmfmomfhiieilaaGreatDoor
/- The walk of the law 'BundleMatchesReference'. -/
set_option linter.unusedVariables false
set_option linter.unusedSimpArgs false
namespace Go.Proofs.YtmfmomfhiieilaaGreatDoor
open Go.RowKit Go.Shelf Go.Proofs.YtmfmomfhiieilaaGreatDoor.It Go.Proofs.YtmfmomfhiieilaaGreatDoorW.PrintWords Go.Proofs.YtmfmomfhiieilaaGreatDoorW.PrintLast Go.Proofs.YtmfmomfhiieilaaGreatDoorW.PrintMore
namespace Bn
open PBundleSorted
theorem fstBad_at : ∀ (l : List Ck) (i : Nat) (er : Int × Option Int), fstBad i l = some er → ∃ j : Nat, er.2 = some (j : Int)
  | [], i, er, h => by rw [fstBad] at h; cases h
  | x :: l, i, er, h => by
    rw [fstBad] at h
    split at h
    · exact fstBad_at l (i + 1) er h
    · injection h with h; subst h; exact ⟨i, rfl⟩
theorem ofErr_at {M : Int} {l : List Ck} {er : Int × Option Int} (h : ofErr M l = some er) : er.2 = none ∨ ∃ j : Nat, er.2 = some (j : Int) := by
  unfold ofErr at h
  split at h
  · injection h with h; subst h; exact .inl rfl
  · split at h
    · injection h with h; subst h; exact .inl rfl
    · exact .inr (fstBad_at _ _ _ h)
set_option maxRecDepth 100000 in
set_option maxHeartbeats 2000000 in
theorem told_none (A B : Option Addr) (n c m e : Nat) (w : World) : Calls Tryz.prog 16 #[.nilIface, .agg #[.slice A n c, .slice B m e, .int .i64 0, .int .i64 0]] w (IsPost (.bool true) w) := by
  have HB1 := hid (show Below w.heap.size w (w.alloc (.cells #[.slice A n c, .slice B m e, .int .i64 0, .int .i64 0] 35)) from below_alloc (Below.refl _ _) _)
  go_enter Tryz.func16, Tryz.ntmps16
  go_wp2_with fail
  go_ret
  exact ⟨rfl, HB1.out⟩
set_option maxRecDepth 100000 in
set_option maxHeartbeats 2000000 in
theorem told_some (c : Int) (n : Option Int) (w : World) (hg : GTab w) (hc : c ≠ 0) (hn : n = none ∨ ∃ j : Nat, n = some (j : Int)) : Calls Tryz.prog 16 #[eV (some (c, n)), .agg #[.slice none 0 0, .slice none 0 0, .int .i64 c, .int .i64 (n.getD (-1))]] w (IsPost (.bool true) w) := by
  have HB1 := hid (show Below w.heap.size w (w.alloc (.cells #[.slice none 0 0, .slice none 0 0, .int .i64 c, .int .i64 (n.getD (-1))] 35)) from below_alloc (Below.refl _ _) _)
  have hcd := code_any (some (c, n)) (w.alloc (.cells #[.slice none 0 0, .slice none 0 0, .int .i64 c, .int .i64 (n.getD (-1))] 35)) (hg.below HB1.out)
  rw [show eCode (some (c, n)) = c from rfl, show (some (c, n)).isSome = true from rfl] at hcd
  have HAT := hid (fun W (h : Below w.heap.size w W) => at_any c n W (hg.below h))
  obtain ⟨ev, hev⟩ : ∃ ev, eV (some (c, n)) = ev := ⟨_, rfl⟩
  rw [hev] at hcd ⊢
  simp only [hev] at HAT
  have HX := hid (blk_new w (.cells #[.slice none 0 0, .slice none 0 0, .int .i64 c, .int .i64 (n.getD (-1))] 35))
  have hc0 : ¬ c = 0 := hc
  clear hev hg hc
  rcases hn with rfl | ⟨j, rfl⟩
  · go_enter Tryz.func16, Tryz.ntmps16
    go_wp2_with fail
    refine hcd.mono ?_
    rintro e W2 ⟨rfl, hb2⟩
    have HB2 := hid (cthen HB1.out hb2)
    have HX2 := hid (blk_below HX.out hb2)
    have hat := HAT.out W2 HB2.out
    rw [show (none : Option Int).getD 0 = 0 from rfl, show (none : Option Int).isSome = false from rfl] at hat
    clear hcd hb2
    go_wp2_with fail
    refine hat.mono ?_
    rintro e W3 ⟨rfl, hb3⟩
    have HB3 := hid (cthen HB2.out hb3)
    obtain ⟨⟨x0, x1, x2, x3⟩, -⟩ := four (blk_below HX2.out hb3)
    rw [show (none : Option Int).getD (-1) = -1 from rfl] at x3
    clear hat hb3
    go_wp2_with fail
    go_ret
    exact ⟨rfl, HB3.out⟩
  · have hj : (0 : Int) ≤ (j : Int) := by omega
    go_enter Tryz.func16, Tryz.ntmps16
    go_wp2_with fail
    refine hcd.mono ?_
    rintro e W2 ⟨rfl, hb2⟩
    have HB2 := hid (cthen HB1.out hb2)
    have HX2 := hid (blk_below HX.out hb2)
    have hat := HAT.out W2 HB2.out
    rw [show (some (j : Int)).getD 0 = (j : Int) from rfl, show (some (j : Int)).isSome = true from rfl] at hat
    clear hcd hb2
    go_wp2_with fail
    refine hat.mono ?_
    rintro e W3 ⟨rfl, hb3⟩
    have HB3 := hid (cthen HB2.out hb3)
    obtain ⟨⟨x0, x1, x2, x3⟩, -⟩ := four (blk_below HX2.out hb3)
    rw [show (some (j : Int)).getD (-1) = (j : Int) from rfl] at x3
    clear hat hb3
    go_wp2_with fail
    go_ret
    exact ⟨rfl, HB3.out⟩
theorem cp_nil (w : World) : kP.C w none 0 [] := ⟨rfl, by decide, fun h => absurd h (by decide)⟩
set_option maxRecDepth 100000 in
set_option maxHeartbeats 4000000 in
theorem matches_any (s d g M : Int) (l : List Ck) (A : Option Addr) (n c : Nat) (w : World) (hg : GTab w) (hgl : GLg w) (hn : l.length = n) (hC : CsC w A n l) (hc : n ≤ c) (hR : ∀ x ∈ l, CkR x) :
    Calls Tryz.prog 5 #[.agg #[.int .u16 s, .int .u16 d, .int .u32 g], .int .i64 M, .slice A n c] w (IsPost (.bool true) w) := by
  obtain ⟨w1, hw1⟩ : ∃ w1, w.alloc (.cells #[.int .u16 s, .int .u16 d, .int .u32 g] 25) = w1 := ⟨_, rfl⟩
  have hb1 : Below w.heap.size w w1 := by rw [← hw1]; exact below_alloc (Below.refl _ _) _
  have HX1 := hid (show w1.heap[w.heap.size]? = some (.cells #[.int .u16 s, .int .u16 d, .int .u32 g] 25 (0, 0)) by rw [← hw1]; exact blk_new w _)
  have HW := hid hw1
  have HG := hid (hg.below hb1)
  have HGL := hid (hgl.below hb1)
  have HC := hid (Kd.C_below hC hb1)
  have HN := hid hn
  have HCC := hid hc
  have HR := hid hR
  have HFIN := hid (fun W (h : Below w1.heap.size w1 W) => show IsPost (.bool true) w (.returned (.bool true)) W from ⟨rfl, hb1.trans (h.mono hb1.size)⟩)
  have HAW := hid (fun W (hW : Below w1.heap.size w1 W) => bawake_any W (HG.out.below hW) (HGL.out.below hW))
  clear hg hgl hn hC hR hw1 hb1
  have haw := HAW.out w1 (Below.refl _ _)
  go_enter Tryz.func5, Tryz.ntmps5
  go_wp2_with fail
  rw [HW.out]
  refine haw.mono ?_
  rintro e W2 ⟨rfl, hb2⟩
  have HB2 := hid hb2
  obtain ⟨fb, hfb, hft⟩ := few_any A n c l W2 HN.out (Kd.C_below HC.out hb2) HCC.out
  have HFT := hid hft
  clear haw hb2 hft
  cases fb with
  | false =>
    go_wp2_with fail
    refine hfb.mono ?_
    rintro e W3 ⟨rfl, hb3⟩
    have HB3 := hid (cthen HB2.out hb3)
    have haw := HAW.out W3 HB3.out
    clear hb3 hfb
    go_wp2_with fail
    refine haw.mono ?_
    rintro e W4 ⟨rfl, hb4⟩
    have HB4 := hid (cthen HB3.out hb4)
    clear hb4 haw
    go_wp2_with fail
    go_ret
    exact HFIN.out _ HB4.out
  | true =>
    have HOK := hid (show ∀ x ∈ l, CkOk x from fun x hx => ckOk_of (HR.out x hx) ((HFT.out rfl).2 x hx))
    have hl20 := (HFT.out rfl).1
    have HL := hid (show n ≤ 20 by have := HN.out; omega)
    clear hl20
    go_wp2_with fail
    refine hfb.mono ?_
    rintro e W3 ⟨rfl, hb3⟩
    have HB3 := hid (cthen HB2.out hb3)
    clear hb3 hfb
    have hof := of_any s d g M l A n c W3 (HG.out.below HB3.out) (HGL.out.below HB3.out) HN.out (Kd.C_below HC.out HB3.out) HCC.out (by have := HL.out; omega) HOK.out
    obtain ⟨⟨x0, x1, x2⟩, -⟩ := three (blk_below HX1.out HB3.out)
    go_wp2_with fail
    refine hof.mono ?_
    rintro e W4 ⟨hye, hno, hb4⟩
    have HB4 := hid (cthen HB3.out hb4)
    clear hb4 hof x0 x1 x2
    have hro := rof_any s d g M l A n c W4 HN.out (Kd.C_below HC.out HB4.out) HCC.out (by have := HL.out; omega) HOK.out
    obtain ⟨⟨x0, x1, x2⟩, -⟩ := three (blk_below HX1.out HB4.out)
    obtain ⟨oe, hoe⟩ : ∃ oe, ofErr M l = oe := ⟨_, rfl⟩
    rcases oe with _ | er
    · obtain ⟨A1, c1, A2, c2, rfl, l1, r1, l2, r2⟩ := hno hoe
      have HOE := hid hoe
      have hps : ∀ p ∈ (outsC M l).map (mkP s d g), p.f1.length ≤ 1000 ∧ ∀ x ∈ p.f1, SmC x := fun p hp => by
        obtain ⟨q, hq, rfl⟩ := List.mem_map.1 hp
        have h := outs_ok M l HOK.out (by have := HL.out; have := HN.out; omega) l.length q (by rw [List.take_length]; exact hq)
        exact ⟨by have := h.1; show q.length ≤ 1000; omega, fun x hx => ⟨(h.2 x hx).len, (h.2 x hx).cnt⟩⟩
      have hrs : ∀ x ∈ rejC M l, SmC x := fun x hx => by
        have h := HOK.out x (List.mem_filter.1 hx).1
        exact ⟨h.len, h.cnt⟩
      have hol := (Pkg.packs_len (fitC M) (roomC M) l).1
      change (outsC M l).length ≤ _ at hol
      have hrl : (rejC M l).length ≤ l.length := List.length_filter_le _ _
      obtain ⟨no, hnoe⟩ : ∃ no, (outsC M l).length = no := ⟨_, rfl⟩
      obtain ⟨nr, hnre⟩ : ∃ nr, (rejC M l).length = nr := ⟨_, rfl⟩
      rw [hnoe] at l1 r1 hol
      rw [hnre] at l2 r2 hrl
      rw [hnoe, hnre]
      have HNO := hid hnoe
      have HNR := hid hnre
      have HR1 := hid r1
      have HR2 := hid r2
      have HPS := hid hps
      have HRS := hid hrs
      have HOL := hid (show no ≤ 1000 by have := HL.out; have := HN.out; omega)
      have HRL := hid (show nr ≤ 1000 by have := HL.out; have := HN.out; omega)
      clear hye hno hoe hnoe hnre r1 r2 hps hrs hol hrl
      go_wp2_with fail
      refine hro.mono ?_
      rintro e W5 ⟨-, hno5, hb5⟩
      obtain ⟨A3, c3, A4, c4, rfl, l3, r3, l4, r4⟩ := hno5 HOE.out
      have HB5 := hid (cthen HB4.out hb5)
      have HB45 := hid hb5
      rw [HNO.out] at l3 r3
      rw [HNR.out] at l4 r4
      rw [HNO.out, HNR.out]
      have HR3 := hid r3
      have HR4 := hid r4
      have HXR := hid (blk_new W5 (.cells #[.slice A3 no c3, .slice A4 nr c4, .int .i64 0, .int .i64 0] 35))
      have HB6 := hid (show Below W5.heap.size W5 (W5.alloc (.cells #[.slice A3 no c3, .slice A4 nr c4, .int .i64 0, .int .i64 0] 35)) from below_alloc (Below.refl _ _) _)
      have htl := told_none A3 A4 no c3 nr c4 (W5.alloc (.cells #[.slice A3 no c3, .slice A4 nr c4, .int .i64 0, .int .i64 0] 35))
      clear hro hno5 hb5 r3 r4 x0 x1 x2
      go_wp2_with fail
      refine htl.mono ?_
      rintro e W7 ⟨rfl, hb7⟩
      have HB57 := hid (cthen HB6.out hb7)
      have hsm := same26_any A1 A3 no c1 c3 ((outsC M l).map (mkP s d g)) W7 (by rw [List.length_map]; exact HNO.out) (Kd.C_below HR1.out (cthen HB45.out HB57.out)) l1 (Kd.C_below HR3.out HB57.out) l3 HOL.out HPS.out
      obtain ⟨⟨y0, y1, y2, y3⟩, -⟩ := four (blk_below HXR.out hb7)
      have HXR7 := hid (blk_below HXR.out hb7)
      clear htl hb7
      go_wp2_with fail
      refine hsm.mono ?_
      rintro e W8 ⟨rfl, hb8⟩
      have HB58 := hid (cthen HB57.out hb8)
      have hsc := same24_any A2 A4 nr c2 c4 (rejC M l) W8 HNR.out (Kd.C_below HR2.out (cthen HB45.out HB58.out)) l2 (Kd.C_below HR4.out HB58.out) l4 HRL.out HRS.out
      clear y0 y1 y2 y3
      obtain ⟨⟨y0, y1, y2, y3⟩, -⟩ := four (blk_below HXR7.out hb8)
      clear hsm hb8
      go_wp2_with fail
      refine hsc.mono ?_
      rintro e W9 ⟨rfl, hb9⟩
      have HB9 := hid (cthen HB5.out (cthen HB58.out hb9))
      clear hsc hb9 y0 y1 y2 y3
      go_wp2_with fail
      go_ret
      exact HFIN.out _ HB9.out
    · obtain rfl := hye er hoe
      have HEN := hid (ofErr_ne hoe)
      have HEA := hid (ofErr_at hoe)
      have HOE := hid hoe
      obtain ⟨ev, hev⟩ : ∃ ev, eV (some er) = ev := ⟨_, rfl⟩
      rw [hev]
      have HEV := hid hev
      clear hye hno hoe hev
      go_wp2_with fail
      refine hro.mono ?_
      rintro e W5 ⟨hy5, -, hb5⟩
      obtain rfl := hy5 er HOE.out
      have HB5 := hid (cthen HB4.out hb5)
      have htl := told_some er.1 er.2 (W5.alloc (.cells #[.slice none 0 0, .slice none 0 0, .int .i64 er.1, .int .i64 (er.2.getD (-1))] 35)) (HG.out.below (cthen HB5.out (below_alloc (Below.refl _ _) _))) HEN.out HEA.out
      rw [show eV (some (er.1, er.2)) = eV (some er) from rfl, HEV.out] at htl
      obtain ⟨c0, hc0⟩ : ∃ c0, er.1 = c0 := ⟨_, rfl⟩
      obtain ⟨a0, ha0⟩ : ∃ a0, er.2.getD (-1) = a0 := ⟨_, rfl⟩
      rw [hc0, ha0] at htl ⊢
      have HXR := hid (blk_new W5 (.cells #[.slice none 0 0, .slice none 0 0, .int .i64 c0, .int .i64 a0] 35))
      have HB6 := hid (show Below W5.heap.size W5 (W5.alloc (.cells #[.slice none 0 0, .slice none 0 0, .int .i64 c0, .int .i64 a0] 35)) from below_alloc (Below.refl _ _) _)
      clear hro hy5 hb5 x0 x1 x2 hc0 ha0
      go_wp2_with fail
      refine htl.mono ?_
      rintro e W7 ⟨rfl, hb7⟩
      have HB57 := hid (cthen HB6.out hb7)
      have hsm := same26_any none none 0 0 0 [] W7 rfl (cp_nil W7) (Nat.le_refl _) (cp_nil W7) (Nat.le_refl _) (by decide) (fun p hp => by cases hp)
      obtain ⟨⟨y0, y1, y2, y3⟩, -⟩ := four (blk_below HXR.out hb7)
      have HXR7 := hid (blk_below HXR.out hb7)
      clear htl hb7
      go_wp2_with fail
      refine hsm.mono ?_
      rintro e W8 ⟨rfl, hb8⟩
      have HB58 := hid (cthen HB57.out hb8)
      have hsc := same24_any none none 0 0 0 [] W8 rfl (cs_nil W8) (Nat.le_refl _) (cs_nil W8) (Nat.le_refl _) (by decide) (fun p hp => by cases hp)
      clear y0 y1 y2 y3
      obtain ⟨⟨y0, y1, y2, y3⟩, -⟩ := four (blk_below HXR7.out hb8)
      clear hsm hb8
      go_wp2_with fail
      refine hsc.mono ?_
      rintro e W9 ⟨rfl, hb9⟩
      have HB9 := hid (cthen HB5.out (cthen HB58.out hb9))
      clear hsc hb9 y0 y1 y2 y3
      go_wp2_with fail
      go_ret
      exact HFIN.out _ HB9.out
end Bn
end Go.Proofs.YtmfmomfhiieilaaGreatDoor
