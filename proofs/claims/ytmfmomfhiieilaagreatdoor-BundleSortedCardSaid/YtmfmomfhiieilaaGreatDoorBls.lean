/- What is the same is told to be the same: the comparing functions of the reference. -/
import Derived.Test.YtmfmomfhiieilaaGreatDoorBqk
import Derived.Test.YtmfmomfhiieilaaGreatDoorBfw
import Derived.Test.YtmfmomfhiieilaaGreatDoorBaw
set_option linter.unusedVariables false
set_option linter.unusedSimpArgs false
namespace Go.Proofs.YtmfmomfhiieilaaGreatDoor
open Go.RowKit Go.Shelf Go.Proofs.YtmfmomfhiieilaaGreatDoor.It Go.Proofs.YtmfmomfhiieilaaGreatDoorW.PrintWords Go.Proofs.YtmfmomfhiieilaaGreatDoorW.PrintLast Go.Proofs.YtmfmomfhiieilaaGreatDoorW.PrintMore
namespace Bn
open PBundleSorted
theorem same1_loop (l : List Int) (hl : l.length ≤ 1099511627776) : ∀ (e i : Nat), l.length - i = e → i ≤ l.length → Ev (fun k => wharfref01_Same.l0 k l l (i : Int)) true := by
  intro e
  induction e with
  | zero =>
    intro i he hi
    refine Ev.step (f := fun _ => some true) (fun k => ?_) (Ev.now _)
    simp only [wharfref01_Same.l0]
    rw [if_neg (by omega)]
  | succ e ih =>
    intro i he hi
    have hwi := hid (show wrap64 ((i : Int) + 1) = ((i + 1 : Nat) : Int) by unfold wrap64; omega)
    refine Ev.step (fun k => ?_) (ih (i + 1) (by omega) (by omega))
    simp only [wharfref01_Same.l0]
    rw [if_pos (by omega), if_pos (by omega), if_pos (by omega), hwi.out, if_pos trivial]
theorem same1_ev (l : List Int) (hl : l.length ≤ 1099511627776) : Ev (fun k => wharfref01_Same.f k l l) true := by
  refine Ev.congr (fun k => ?_) (same1_loop l hl _ 0 rfl (Nat.zero_le _))
  unfold wharfref01_Same.f
  rw [if_pos rfl]
  rfl
theorem same1_any (A B : Option Addr) (n c e : Nat) (l : List Int) (w : World) (hn : l.length = n) (h1 : BC w A l) (hc : n ≤ c) (h2 : BC w B l) (he : n ≤ e) (hl : n ≤ 1000000000) : Calls Tryz.prog 67 #[.slice A n c, .slice B n e] w (IsPost (.bool true) w) := by
  subst hn
  obtain ⟨k, hk⟩ := (same1_ev l (by omega)).rounds
  exact (wharfref01_Same.calls k A c l B e l true w h1 hc h2 he hk).mono (fun e w2 h => ⟨h.1, h.2.below⟩)
theorem sm6_blw {S W W' : World} {a0 a1 a2 a3 a4 a5 : Addr} {v0 v1 v2 v3 v4 v5 : Value} (h : Below S.heap.size S W ∧ W.cell? a0 = some v0 ∧ W.cell? a1 = some v1 ∧ W.cell? a2 = some v2 ∧ W.cell? a3 = some v3 ∧ W.cell? a4 = some v4 ∧ W.cell? a5 = some v5) (hb : Below W.heap.size W W') : Below S.heap.size S W' ∧ W'.cell? a0 = some v0 ∧ W'.cell? a1 = some v1 ∧ W'.cell? a2 = some v2 ∧ W'.cell? a3 = some v3 ∧ W'.cell? a4 = some v4 ∧ W'.cell? a5 = some v5 :=
  ⟨cthen h.1 hb, pw_cell_below hb h.2.1, pw_cell_below hb h.2.2.1, pw_cell_below hb h.2.2.2.1, pw_cell_below hb h.2.2.2.2.1, pw_cell_below hb h.2.2.2.2.2.1, pw_cell_below hb h.2.2.2.2.2.2⟩
set_option maxRecDepth 100000 in
set_option maxHeartbeats 8000000 in
theorem same8_any : ∀ (m : Nat), m ≤ 1000 → ∀ (l : List Nd), cnts l ≤ m → ∀ (A B : Option Addr) (n c e : Nat) (w : World), l.length = n → Kd.C k87 w A n l → n ≤ c → Kd.C k87 w B n l → n ≤ e → Calls Tryz.prog 68 #[.slice A n c, .slice B n e] w (IsPost (.bool true) w) := by
  intro m
  induction m using Nat.strongRecOn with
  | _ m ihm =>
  intro hm l hl A B n c e w hn h1 hc h2 he
  have HIH := hid ihm
  have HMM := hid hm
  have HCL := hid hl
  have HN := hid hn
  have HC1 := hid h1
  have HC2 := hid h2
  have HL := hid (show n ≤ 1000 by have := len_cnts l; omega)
  have HI0 := hid (Below.refl w.heap.size w)
  clear ihm hm hl hn h1 h2
  go_enter Tryz.func68, Tryz.ntmps68
  go_wp2_with fail
  go_loopw [5] (fun vi W => ∃ (i : Nat), vi = .int .i64 i ∧ i ≤ n ∧ Hid (Below w.heap.size w W)) (fun vi _ => n - (intOf vi).toNat)
  case atStart => exact ⟨0, rfl, by omega, HI0⟩
  case round =>
    obtain ⟨i, rfl, hi, hI⟩ := hrel
    clear HI0
    by_cases hlt : i < n
    · have hil : i < l.length := by have := HN.out; omega
      have hii : (i : Int) < (n : Int) := by omega
      obtain ⟨b, off, A1, d1, A2, d2, rfl, k0, k1, k2, l1, g1, l2, g2⟩ := node_at (Kd.C_below HC1.out hI.out) i hil
      obtain ⟨b', off', B1, e1, B2, e2, rfl, p0, p1, p2, r1, u1, r2, u2⟩ := node_at (Kd.C_below HC2.out hI.out) i hil
      have hcx := cnts_at l l[i] (List.getElem_mem hil)
      have hce := cnt_eq l[i]
      obtain ⟨x, hx⟩ : ∃ x, l[i] = x := ⟨_, rfl⟩
      rw [hx] at k0 k1 k2 l1 g1 l2 g2 p0 p1 p2 r1 u1 r2 u2 hcx hce
      obtain ⟨m1, hm1⟩ : ∃ m, x.f1.length = m := ⟨_, rfl⟩
      obtain ⟨m2, hm2⟩ : ∃ m, x.f2.length = m := ⟨_, rfl⟩
      rw [hm1] at k1 p1 l1 r1 hce
      rw [hm2] at k2 p2 l2 g2 r2 u2
      have HWI := hid (show wrap64 ((i : Int) + 1) = ((i + 1 : Nat) : Int) by have := HL.out; unfold wrap64; omega)
      have H1 := hid (fun W (hW : Below wr.heap.size wr W) => same1_any A1 B1 m1 d1 e1 x.f1 W hm1 (g1.below hW) l1 (u1.below hW) r1 (by have := HCL.out; have := HMM.out; omega))
      have H8 := hid (fun W (hW : Below wr.heap.size wr W) => HIH.out (cnts x.f2) (by have := HCL.out; omega) (by have := HCL.out; have := HMM.out; omega) x.f2 (Nat.le_refl _) A2 B2 m2 d2 e2 W hm2 (Kd.C_below g2 hW) l2 (Kd.C_below u2 hW) r2)
      have hS0 : Below wr.heap.size wr wr.drew ∧ wr.drew.cell? ⟨b, off + i * 3, none⟩ = some (.int .u16 x.f0) ∧ wr.drew.cell? ⟨b, off + i * 3 + 1, none⟩ = some (.slice A1 m1 d1) ∧ wr.drew.cell? ⟨b, off + i * 3 + 2, none⟩ = some (.slice A2 m2 d2) ∧ wr.drew.cell? ⟨b', off' + i * 3, none⟩ = some (.int .u16 x.f0) ∧ wr.drew.cell? ⟨b', off' + i * 3 + 1, none⟩ = some (.slice B1 m1 e1) ∧ wr.drew.cell? ⟨b', off' + i * 3 + 2, none⟩ = some (.slice B2 m2 e2) := ⟨below_drew (Below.refl _ _) 1, k0, k1, k2, p0, p1, p2⟩
      clear hx hm1 hm2 g1 g2 l1 l2 u1 u2 r1 r2 hil hcx hce k0 k1 k2 p0 p1 p2
      go_upto_region 6 with fail
      refine start_ (n := 39) (S := (fun W => Below wr.heap.size wr W ∧ W.cell? ⟨b, off + i * 3, none⟩ = some (.int .u16 x.f0) ∧ W.cell? ⟨b, off + i * 3 + 1, none⟩ = some (.slice A1 m1 d1) ∧ W.cell? ⟨b, off + i * 3 + 2, none⟩ = some (.slice A2 m2 d2) ∧ W.cell? ⟨b', off' + i * 3, none⟩ = some (.int .u16 x.f0) ∧ W.cell? ⟨b', off' + i * 3 + 1, none⟩ = some (.slice B1 m1 e1) ∧ W.cell? ⟨b', off' + i * 3 + 2, none⟩ = some (.slice B2 m2 e2))) (ds := [36]) (bA 39 0) (by kernel_rfl) rfl rfl hS0 (fun hHeld => ?_)
      generalize wr.drew = w44 at hS0 hHeld ⊢
      refine pU 0 (some 17) (bA 39 1) rfl rfl ?_
      refine pU 1 (some 18) (bA 39 3) rfl rfl ?_
      refine pU 2 (some 19) (bA 39 7) rfl rfl ?_
      refine pU 3 (some 20) (bA 39 15) rfl rfl ?_
      refine pU 5 (some 22) (bA 39 47) rfl rfl ?_
      refine pU 6 (some 23) (bA 39 111) rfl rfl ?_
      refine pU 7 (some 24) (bA 39 239) rfl rfl ?_
      refine pU 8 (some 25) (bA 39 495) rfl rfl ?_
      refine tU 4 (some 21) (bA 39 511) rfl rfl hHeld (by rintro w' ⟨q0, q1, q2, q3, q4, q5, q6⟩; go_simp; with_reducible rfl) ?_
      refine tU 9 (some 26) (bA 39 1023) rfl rfl hHeld (by rintro w' ⟨q0, q1, q2, q3, q4, q5, q6⟩; go_simp; with_reducible rfl) ?_
      refine pU 10 (some 27) (bA 39 2047) rfl rfl ?_
      refine pU 11 (some 28) (bA 39 4095) rfl rfl ?_
      refine pU 12 (some 29) (bA 39 8191) rfl rfl ?_
      refine pU 13 (some 30) (bA 39 16383) rfl rfl ?_
      refine pU 14 (some 31) (bA 39 32767) rfl rfl ?_
      refine pU 15 (some 32) (bA 39 65535) rfl rfl ?_
      refine pU 17 (some 34) (bA 39 196607) rfl rfl ?_
      refine pU 18 (some 35) (bA 39 458751) rfl rfl ?_
      refine pU 19 (some 36) (bA 39 983039) rfl rfl ?_
      refine pU 20 (some 37) (bA 39 2031615) rfl rfl ?_
      refine tU 16 (some 33) (bA 39 2097151) rfl rfl hHeld (by rintro w' ⟨q0, q1, q2, q3, q4, q5, q6⟩; go_simp; with_reducible rfl) ?_
      refine tU 21 (some 38) (bA 39 4194303) rfl rfl hHeld (by rintro w' ⟨q0, q1, q2, q3, q4, q5, q6⟩; go_simp; with_reducible rfl) ?_
      refine one_ (i := 22) (N := some 39) (bA 39 8388607) rfl rfl (by kernel_rfl) (by decide) (fun KK hK => ?_)
      refine goes_ Tryz.func67 (by kernel_rfl) rfl #[.slice A1 m1 d1, .slice B1 m1 e1] (by rfl) rfl rfl (by simp only [List.map_toArray, List.map_cons, List.map_nil]; rfl) ?_
      refine Calls.mono (H1.out _ hHeld.1) ?_
      rintro e5 W5 ⟨rfl, hb5⟩
      refine ⟨_, rfl, ?_⟩
      have hS5 := sm6_blw hHeld hb5
      clear hb5
      refine hK.out _ _ hS5 (fun hHeld5 => ?_)
      clear hK KK
      refine nU ?_
      refine pU 23 (some 40) (bA 39 16777215) rfl rfl ?_
      refine pU 24 (some 41) (bA 39 33554431) rfl rfl ?_
      refine pU 25 (some 42) (bA 39 67108863) rfl rfl ?_
      refine pU 26 (some 43) (bA 39 134217727) rfl rfl ?_
      refine pU 27 (some 44) (bA 39 268435455) rfl rfl ?_
      refine pU 28 (some 45) (bA 39 536870911) rfl rfl ?_
      refine pU 29 (some 46) (bA 39 1073741823) rfl rfl ?_
      refine pU 31 (some 48) (bA 39 3221225471) rfl rfl ?_
      refine pU 32 (some 49) (bA 39 7516192767) rfl rfl ?_
      refine pU 33 (some 50) (bA 39 16106127359) rfl rfl ?_
      refine pU 34 (some 51) (bA 39 33285996543) rfl rfl ?_
      refine tU 30 (some 47) (bA 39 34359738367) rfl rfl hHeld5 (by rintro w' ⟨q0, q1, q2, q3, q4, q5, q6⟩; go_simp; with_reducible rfl) ?_
      refine tU 35 (some 52) (bA 39 68719476735) rfl rfl hHeld5 (by rintro w' ⟨q0, q1, q2, q3, q4, q5, q6⟩; go_simp; with_reducible rfl) ?_
      refine last_ (i := 36) (N := some 53) (bA 39 137438953471) rfl rfl (by kernel_rfl) (by decide) (fun KK hK => ?_)
      refine goes_ Tryz.func68 (by kernel_rfl) rfl #[.slice A2 m2 d2, .slice B2 m2 e2] (by rfl) rfl rfl (by simp only [List.map_toArray, List.map_cons, List.map_nil]; rfl) ?_
      refine Calls.mono (H8.out _ hHeld5.1) ?_
      rintro e5 W6 ⟨rfl, hb5⟩
      refine ⟨_, rfl, ?_⟩
      have HB5 := hid (cthen hHeld5.1 hb5)
      clear hb5
      refine hK.out _ _ ?_
      clear hK KK
      refine nU ?_
      refine pU 37 (some 54) (bA 39 274877906943) rfl rfl ?_
      refine pU 38 (some 55) (bA 39 549755813887) rfl rfl ?_
      refine done_ (by kernel_rfl) ?_
      clear hS0 hHeld hHeld5
      go_wp2_with fail
      exact ⟨⟨i + 1, by rw [HWI.out], hlt, hid (cthen hI.out HB5.out)⟩, by rw [HWI.out]; simp only [intOf, Int.toNat_natCast]; omega⟩
    · obtain rfl : n = i := by omega
      go_wp2_with fail
      go_ret
      exact ⟨rfl, hI.out⟩
/-- A chunk that is not too much, for comparing. -/
def SmC (x : Ck) : Prop := x.f2.length ≤ 1000000 ∧ cnts x.f3 ≤ 900
set_option maxRecDepth 100000 in
set_option maxHeartbeats 4000000 in
theorem same12_any (x : Ck) (A1 A2 B1 B2 : Option Addr) (m1 m2 d1 d2 e1 e2 : Nat) (w : World) (h : SmC x) (hm1 : x.f2.length = m1) (hm2 : x.f3.length = m2) (g1 : BC w A1 x.f2) (l1 : m1 ≤ d1) (g2 : Kd.C k87 w A2 m2 x.f3) (l2 : m2 ≤ d2) (u1 : BC w B1 x.f2) (r1 : m1 ≤ e1) (u2 : Kd.C k87 w B2 m2 x.f3) (r2 : m2 ≤ e2) :
    Calls Tryz.prog 38 #[.agg #[.int .u8 x.f0, .int .u8 x.f1, .slice A1 m1 d1, .slice A2 m2 d2], .agg #[.int .u8 x.f0, .int .u8 x.f1, .slice B1 m1 e1, .slice B2 m2 e2]] w (IsPost (.bool true) w) := by
  have hb1 : Below w.heap.size w ((w.alloc (.cells #[.int .u8 x.f0, .int .u8 x.f1, .slice A1 m1 d1, .slice A2 m2 d2] 42)).alloc (.cells #[.int .u8 x.f0, .int .u8 x.f1, .slice B1 m1 e1, .slice B2 m2 e2] 42)) := below_alloc (below_alloc (Below.refl _ _) _) _
  have H1 := same1_any A1 B1 m1 d1 e1 x.f2 _ hm1 (g1.below hb1) l1 (u1.below hb1) r1 (by have := h.1; omega)
  have H8 := hid (fun W (hW : Below w.heap.size w W) => same8_any 900 (by decide) x.f3 h.2 A2 B2 m2 d2 e2 W hm2 (Kd.C_below g2 hW) l2 (Kd.C_below u2 hW) r2)
  have HB1 := hid hb1
  have HX := hid (show _ = some (.cells #[.int .u8 x.f0, .int .u8 x.f1, .slice A1 m1 d1, .slice A2 m2 d2] 42 (0, 0)) from blk_below (blk_new w (.cells #[.int .u8 x.f0, .int .u8 x.f1, .slice A1 m1 d1, .slice A2 m2 d2] 42)) (below_alloc (Below.refl _ _) (.cells #[.int .u8 x.f0, .int .u8 x.f1, .slice B1 m1 e1, .slice B2 m2 e2] 42)))
  have hy := blk_new (w.alloc (.cells #[.int .u8 x.f0, .int .u8 x.f1, .slice A1 m1 d1, .slice A2 m2 d2] 42)) (.cells #[.int .u8 x.f0, .int .u8 x.f1, .slice B1 m1 e1, .slice B2 m2 e2] 42)
  rw [World.size_alloc] at hy
  have HY := hid hy
  clear h hm1 hm2 g1 g2 l1 l2 u1 u2 r1 r2 hb1 hy
  go_enter Tryz.func38, Tryz.ntmps38
  go_wp2_with fail
  refine H1.mono ?_
  rintro e W2 ⟨rfl, hb2⟩
  have HB2 := hid (cthen HB1.out hb2)
  obtain ⟨⟨x0, x1, x2, x3⟩, -⟩ := four (blk_below HX.out hb2)
  obtain ⟨⟨y0, y1, y2, y3⟩, -⟩ := four (blk_below HY.out hb2)
  clear H1 hb2 x0 x1 x2 y0 y1 y2
  go_wp2_with fail
  refine (H8.out W2 HB2.out).mono ?_
  rintro e W3 ⟨rfl, hb3⟩
  have HB3 := hid (cthen HB2.out hb3)
  clear hb3 x3 y3
  go_wp2_with fail
  go_ret
  exact ⟨rfl, HB3.out⟩
set_option maxRecDepth 100000 in
set_option maxHeartbeats 4000000 in
/-- 'SameChunks' of the same chunks. -/
theorem same24_any (A B : Option Addr) (n c e : Nat) (l : List Ck) (w : World) (hn : l.length = n) (h1 : CsC w A n l) (hc : n ≤ c) (h2 : CsC w B n l) (he : n ≤ e) (hl : n ≤ 1000) (h : ∀ x ∈ l, SmC x) : Calls Tryz.prog 18 #[.slice A n c, .slice B n e] w (IsPost (.bool true) w) := by
  have HN := hid hn
  have HC1 := hid h1
  have HC2 := hid h2
  have HSM := hid h
  have HL := hid hl
  have HI0 := hid (Below.refl w.heap.size w)
  clear hn h1 h2 h hl
  go_enter Tryz.func18, Tryz.ntmps18
  go_wp2_with fail
  go_loopw [5] (fun vi W => ∃ (i : Nat), vi = .int .i64 i ∧ i ≤ n ∧ Hid (Below w.heap.size w W)) (fun vi _ => n - (intOf vi).toNat)
  case atStart => exact ⟨0, rfl, by omega, HI0⟩
  case round =>
    obtain ⟨i, rfl, hi, hI⟩ := hrel
    clear HI0
    by_cases hlt : i < n
    · have hil : i < l.length := by have := HN.out; omega
      have hii : (i : Int) < (n : Int) := by omega
      obtain ⟨b, off, A1, d1, A2, d2, rfl, k0, k1, k2, k3, l1, g1, l2, g2⟩ := chunk_at (Kd.C_below HC1.out hI.out) i hil
      obtain ⟨b', off', B1, e1, B2, e2, rfl, p0, p1, p2, p3, r1, u1, r2, u2⟩ := chunk_at (Kd.C_below HC2.out hI.out) i hil
      have hsx := HSM.out _ (List.getElem_mem hil)
      obtain ⟨x, hx⟩ : ∃ x, l[i] = x := ⟨_, rfl⟩
      rw [hx] at k0 k1 k2 k3 l1 g1 l2 g2 p0 p1 p2 p3 r1 u1 r2 u2 hsx
      obtain ⟨m1, hm1⟩ : ∃ m, x.f2.length = m := ⟨_, rfl⟩
      obtain ⟨m2, hm2⟩ : ∃ m, x.f3.length = m := ⟨_, rfl⟩
      rw [hm1] at k2 p2 l1 r1
      rw [hm2] at k3 p3 l2 g2 r2 u2
      have HWI := hid (show wrap64 ((i : Int) + 1) = ((i + 1 : Nat) : Int) by have := HL.out; unfold wrap64; omega)
      have HX := hid (fun W (hW : Below wr.heap.size wr W) => same12_any x A1 A2 B1 B2 m1 m2 d1 d2 e1 e2 W hsx hm1 hm2 (g1.below hW) l1 (Kd.C_below g2 hW) l2 (u1.below hW) r1 (Kd.C_below u2 hW) r2)
      have hS0 : Below wr.heap.size wr wr.drew ∧ wr.drew.cell? ⟨b, off + i * 4, none⟩ = some (.int .u8 x.f0) ∧ wr.drew.cell? ⟨b, off + i * 4 + 1, none⟩ = some (.int .u8 x.f1) ∧ wr.drew.cell? ⟨b, off + i * 4 + 2, none⟩ = some (.slice A1 m1 d1) ∧ wr.drew.cell? ⟨b, off + i * 4 + 3, none⟩ = some (.slice A2 m2 d2) ∧ wr.drew.cell? ⟨b', off' + i * 4, none⟩ = some (.int .u8 x.f0) ∧ wr.drew.cell? ⟨b', off' + i * 4 + 1, none⟩ = some (.int .u8 x.f1) ∧ wr.drew.cell? ⟨b', off' + i * 4 + 2, none⟩ = some (.slice B1 m1 e1) ∧ wr.drew.cell? ⟨b', off' + i * 4 + 3, none⟩ = some (.slice B2 m2 e2) := ⟨below_drew (Below.refl _ _) 1, k0, k1, k2, k3, p0, p1, p2, p3⟩
      clear hx hm1 hm2 g1 g2 l1 l2 u1 u2 r1 r2 hil hsx k0 k1 k2 k3 p0 p1 p2 p3
      go_upto_region 6 with fail
      refine start_ (n := 10) (S := (fun W => Below wr.heap.size wr W ∧ W.cell? ⟨b, off + i * 4, none⟩ = some (.int .u8 x.f0) ∧ W.cell? ⟨b, off + i * 4 + 1, none⟩ = some (.int .u8 x.f1) ∧ W.cell? ⟨b, off + i * 4 + 2, none⟩ = some (.slice A1 m1 d1) ∧ W.cell? ⟨b, off + i * 4 + 3, none⟩ = some (.slice A2 m2 d2) ∧ W.cell? ⟨b', off' + i * 4, none⟩ = some (.int .u8 x.f0) ∧ W.cell? ⟨b', off' + i * 4 + 1, none⟩ = some (.int .u8 x.f1) ∧ W.cell? ⟨b', off' + i * 4 + 2, none⟩ = some (.slice B1 m1 e1) ∧ W.cell? ⟨b', off' + i * 4 + 3, none⟩ = some (.slice B2 m2 e2))) (ds := [8]) (bA 10 0) (by kernel_rfl) rfl rfl hS0 (fun hHeld => ?_)
      generalize wr.drew = w44 at hS0 hHeld ⊢
      refine pU 0 (some 17) (bA 10 1) rfl rfl ?_
      refine pU 1 (some 18) (bA 10 3) rfl rfl ?_
      refine pU 2 (some 19) (bA 10 7) rfl rfl ?_
      refine pU 4 (some 21) (bA 10 23) rfl rfl ?_
      refine pU 5 (some 22) (bA 10 55) rfl rfl ?_
      refine pU 6 (some 23) (bA 10 119) rfl rfl ?_
      refine tU 3 (some 20) (bA 10 127) rfl rfl hHeld (by rintro w' ⟨q0, q1, q2, q3, q4, q5, q6, q7, q8⟩; go_simp; with_reducible rfl) ?_
      refine tU 7 (some 24) (bA 10 255) rfl rfl hHeld (by rintro w' ⟨q0, q1, q2, q3, q4, q5, q6, q7, q8⟩; go_simp; with_reducible rfl) ?_
      refine last_ (i := 8) (N := some 25) (bA 10 511) rfl rfl (by kernel_rfl) (by decide) (fun KK hK => ?_)
      refine goes_ Tryz.func38 (by kernel_rfl) rfl #[.agg #[.int .u8 x.f0, .int .u8 x.f1, .slice A1 m1 d1, .slice A2 m2 d2], .agg #[.int .u8 x.f0, .int .u8 x.f1, .slice B1 m1 e1, .slice B2 m2 e2]] (by rfl) rfl rfl (by simp only [List.map_toArray, List.map_cons, List.map_nil]; rfl) ?_
      refine Calls.mono (HX.out _ hHeld.1) ?_
      rintro e5 W6 ⟨rfl, hb5⟩
      refine ⟨_, rfl, ?_⟩
      have HB5 := hid (cthen hHeld.1 hb5)
      clear hb5
      refine hK.out _ _ ?_
      clear hK KK
      refine nU ?_
      refine pU 9 (some 26) (bA 10 1023) rfl rfl ?_
      refine done_ (by kernel_rfl) ?_
      clear hS0 hHeld
      go_wp2_with fail
      exact ⟨⟨i + 1, by rw [HWI.out], hlt, hid (cthen hI.out HB5.out)⟩, by rw [HWI.out]; simp only [intOf, Int.toNat_natCast]; omega⟩
    · obtain rfl : n = i := by omega
      go_wp2_with fail
      go_ret
      exact ⟨rfl, hI.out⟩
set_option maxRecDepth 100000 in
set_option maxHeartbeats 8000000 in
/-- 'wharfref22.Same' of the same packets. -/
theorem same22_any (p : Pk) (A3 B3 : Option Addr) (n c e : Nat) (w : World) (hn : p.f1.length = n) (h1 : CsC w A3 n p.f1) (hc : n ≤ c) (h2 : CsC w B3 n p.f1) (he : n ≤ e) (hl : n ≤ 1000) (h : ∀ x ∈ p.f1, SmC x) :
    Calls Tryz.prog 37 #[.agg #[.int .u16 p.f0.f0, .int .u16 p.f0.f1, .int .u32 p.f0.f2, .slice A3 n c], .agg #[.int .u16 p.f0.f0, .int .u16 p.f0.f1, .int .u32 p.f0.f2, .slice B3 n e]] w (IsPost (.bool true) w) := by
  obtain ⟨S, hS⟩ : ∃ S, (w.alloc (.cells #[.int .u16 p.f0.f0, .int .u16 p.f0.f1, .int .u32 p.f0.f2, .slice A3 n c] 38)).alloc (.cells #[.int .u16 p.f0.f0, .int .u16 p.f0.f1, .int .u32 p.f0.f2, .slice B3 n e] 38) = S := ⟨_, rfl⟩
  have hbS : Below w.heap.size w S := by rw [← hS]; exact below_alloc (below_alloc (Below.refl _ _) _) _
  have XS := hid (show S.heap[w.heap.size]? = some (.cells #[.int .u16 p.f0.f0, .int .u16 p.f0.f1, .int .u32 p.f0.f2, .slice A3 n c] 38 (0, 0)) by rw [← hS]; exact blk_alloc (blk_new w _))
  have YS := hid (show S.heap[w.heap.size + 1]? = some (.cells #[.int .u16 p.f0.f0, .int .u16 p.f0.f1, .int .u32 p.f0.f2, .slice B3 n e] 38 (0, 0)) by rw [← hS]; have h := blk_new (w.alloc (.cells #[.int .u16 p.f0.f0, .int .u16 p.f0.f1, .int .u32 p.f0.f2, .slice A3 n c] 38)) (.cells #[.int .u16 p.f0.f0, .int .u16 p.f0.f1, .int .u32 p.f0.f2, .slice B3 n e] 38); rw [World.size_alloc] at h; exact h)
  obtain ⟨⟨x0, x1, x2, x3⟩, -⟩ := four XS.out
  obtain ⟨⟨y0, y1, y2, y3⟩, -⟩ := four YS.out
  rw [← hS] at x0 x1 x2 x3 y0 y1 y2 y3
  have HS := hid hS
  have BS := hid hbS
  obtain ⟨l, hl1⟩ : ∃ l, p.f1 = l := ⟨_, rfl⟩
  rw [hl1] at hn h1 h2 h
  have HN := hid hn
  have HC1 := hid (Kd.C_below h1 hbS)
  have HC2 := hid (Kd.C_below h2 hbS)
  have HSM := hid h
  have HL := hid hl
  have HI0 := hid (Below.refl S.heap.size S)
  have heq := eqA25
  clear hn h1 h2 h hl hS hbS hl1
  go_enter Tryz.func37, Tryz.ntmps37
  go_wp2_with fail
  clear heq x0 x1 x2 x3 y0 y1 y2 y3
  rw [HS.out]
  go_loopw [5] (fun vi W => ∃ (i : Nat), vi = .int .i64 i ∧ i ≤ n ∧ Hid (Below S.heap.size S W)) (fun vi _ => n - (intOf vi).toNat)
  case atStart => exact ⟨0, rfl, by omega, HI0⟩
  case round =>
    obtain ⟨i, rfl, hi, hI⟩ := hrel
    clear HI0
    by_cases hlt : i < n
    · have hil : i < l.length := by have := HN.out; omega
      have hii : (i : Int) < (n : Int) := by omega
      obtain ⟨b, off, A1, d1, A2, d2, rfl, k0, k1, k2, k3, l1, g1, l2, g2⟩ := chunk_at (Kd.C_below HC1.out hI.out) i hil
      obtain ⟨b', off', B1, e1, B2, e2, rfl, p0, p1, p2, p3, r1, u1, r2, u2⟩ := chunk_at (Kd.C_below HC2.out hI.out) i hil
      have hsx := HSM.out _ (List.getElem_mem hil)
      obtain ⟨x, hx⟩ : ∃ x, l[i] = x := ⟨_, rfl⟩
      rw [hx] at k0 k1 k2 k3 l1 g1 l2 g2 p0 p1 p2 p3 r1 u1 r2 u2 hsx
      obtain ⟨m1, hm1⟩ : ∃ m, x.f2.length = m := ⟨_, rfl⟩
      obtain ⟨m2, hm2⟩ : ∃ m, x.f3.length = m := ⟨_, rfl⟩
      rw [hm1] at k2 p2 l1 r1
      rw [hm2] at k3 p3 l2 g2 r2 u2
      have HWI := hid (show wrap64 ((i : Int) + 1) = ((i + 1 : Nat) : Int) by have := HL.out; unfold wrap64; omega)
      have HX := hid (fun W (hW : Below wr.heap.size wr W) => same12_any x A1 A2 B1 B2 m1 m2 d1 d2 e1 e2 W hsx hm1 hm2 (g1.below hW) l1 (Kd.C_below g2 hW) l2 (u1.below hW) r1 (Kd.C_below u2 hW) r2)
      obtain ⟨⟨x0, x1, x2, x3⟩, -⟩ := four (blk_below XS.out hI.out)
      obtain ⟨⟨y0, y1, y2, y3⟩, -⟩ := four (blk_below YS.out hI.out)
      have hS0 : Below wr.heap.size wr wr.drew ∧ wr.drew.cell? ⟨b, off + i * 4, none⟩ = some (.int .u8 x.f0) ∧ wr.drew.cell? ⟨b, off + i * 4 + 1, none⟩ = some (.int .u8 x.f1) ∧ wr.drew.cell? ⟨b, off + i * 4 + 2, none⟩ = some (.slice A1 m1 d1) ∧ wr.drew.cell? ⟨b, off + i * 4 + 3, none⟩ = some (.slice A2 m2 d2) ∧ wr.drew.cell? ⟨b', off' + i * 4, none⟩ = some (.int .u8 x.f0) ∧ wr.drew.cell? ⟨b', off' + i * 4 + 1, none⟩ = some (.int .u8 x.f1) ∧ wr.drew.cell? ⟨b', off' + i * 4 + 2, none⟩ = some (.slice B1 m1 e1) ∧ wr.drew.cell? ⟨b', off' + i * 4 + 3, none⟩ = some (.slice B2 m2 e2) ∧ wr.drew.cell? ⟨w.heap.size, 3, none⟩ = some (.slice (some ⟨b, off, none⟩) n c) ∧ wr.drew.cell? ⟨w.heap.size + 1, 3, none⟩ = some (.slice (some ⟨b', off', none⟩) n e) := ⟨below_drew (Below.refl _ _) 1, k0, k1, k2, k3, p0, p1, p2, p3, x3, y3⟩
      clear hx hm1 hm2 g1 g2 l1 l2 u1 u2 r1 r2 hil hsx k0 k1 k2 k3 p0 p1 p2 p3 x0 x1 x2 y0 y1 y2
      go_upto_region 6 with fail
      refine start_ (n := 12) (S := (fun W => Below wr.heap.size wr W ∧ W.cell? ⟨b, off + i * 4, none⟩ = some (.int .u8 x.f0) ∧ W.cell? ⟨b, off + i * 4 + 1, none⟩ = some (.int .u8 x.f1) ∧ W.cell? ⟨b, off + i * 4 + 2, none⟩ = some (.slice A1 m1 d1) ∧ W.cell? ⟨b, off + i * 4 + 3, none⟩ = some (.slice A2 m2 d2) ∧ W.cell? ⟨b', off' + i * 4, none⟩ = some (.int .u8 x.f0) ∧ W.cell? ⟨b', off' + i * 4 + 1, none⟩ = some (.int .u8 x.f1) ∧ W.cell? ⟨b', off' + i * 4 + 2, none⟩ = some (.slice B1 m1 e1) ∧ W.cell? ⟨b', off' + i * 4 + 3, none⟩ = some (.slice B2 m2 e2) ∧ W.cell? ⟨w.heap.size, 3, none⟩ = some (.slice (some ⟨b, off, none⟩) n c) ∧ W.cell? ⟨w.heap.size + 1, 3, none⟩ = some (.slice (some ⟨b', off', none⟩) n e))) (ds := [10]) (bA 12 0) (by kernel_rfl) rfl rfl hS0 (fun hHeld => ?_)
      generalize wr.drew = w44 at hS0 hHeld ⊢
      refine pU 0 (some 27) (bA 12 1) rfl rfl ?_
      refine pU 2 (some 29) (bA 12 5) rfl rfl ?_
      refine pU 5 (some 32) (bA 12 37) rfl rfl ?_
      refine pU 7 (some 34) (bA 12 165) rfl rfl ?_
      refine tU 1 (some 28) (bA 12 167) rfl rfl hHeld (by rintro w' ⟨q0, q1, q2, q3, q4, q5, q6, q7, q8, q9, q10⟩; go_simp; with_reducible rfl) ?_
      refine pU 3 (some 30) (bA 12 175) rfl rfl ?_
      refine tU 4 (some 31) (bA 12 191) rfl rfl hHeld (by rintro w' ⟨q0, q1, q2, q3, q4, q5, q6, q7, q8, q9, q10⟩; go_simp; with_reducible rfl) ?_
      refine tU 6 (some 33) (bA 12 255) rfl rfl hHeld (by rintro w' ⟨q0, q1, q2, q3, q4, q5, q6, q7, q8, q9, q10⟩; go_simp; with_reducible rfl) ?_
      refine pU 8 (some 35) (bA 12 511) rfl rfl ?_
      refine tU 9 (some 36) (bA 12 1023) rfl rfl hHeld (by rintro w' ⟨q0, q1, q2, q3, q4, q5, q6, q7, q8, q9, q10⟩; go_simp; with_reducible rfl) ?_
      refine last_ (i := 10) (N := some 37) (bA 12 2047) rfl rfl (by kernel_rfl) (by decide) (fun KK hK => ?_)
      refine goes_ Tryz.func38 (by kernel_rfl) rfl #[.agg #[.int .u8 x.f0, .int .u8 x.f1, .slice A1 m1 d1, .slice A2 m2 d2], .agg #[.int .u8 x.f0, .int .u8 x.f1, .slice B1 m1 e1, .slice B2 m2 e2]] (by rfl) rfl rfl (by simp only [List.map_toArray, List.map_cons, List.map_nil]; rfl) ?_
      refine Calls.mono (HX.out _ hHeld.1) ?_
      rintro e5 W6 ⟨rfl, hb5⟩
      refine ⟨_, rfl, ?_⟩
      have HB5 := hid (cthen hHeld.1 hb5)
      clear hb5
      refine hK.out _ _ ?_
      clear hK KK
      refine nU ?_
      refine pU 11 (some 38) (bA 12 4095) rfl rfl ?_
      refine done_ (by kernel_rfl) ?_
      clear hS0 hHeld
      go_wp2_with fail
      exact ⟨⟨i + 1, by rw [HWI.out], hlt, hid (cthen hI.out HB5.out)⟩, by rw [HWI.out]; simp only [intOf, Int.toNat_natCast]; omega⟩
    · obtain rfl : n = i := by omega
      obtain ⟨⟨x0, x1, x2, x3⟩, -⟩ := four (blk_below XS.out hI.out)
      go_wp2_with fail
      go_ret
      exact ⟨rfl, cthen BS.out hI.out⟩
set_option maxRecDepth 100000 in
set_option maxHeartbeats 4000000 in
/-- 'same' of the same packets. -/
theorem same26_any (A B : Option Addr) (n c e : Nat) (l : List Pk) (w : World) (hn : l.length = n) (h1 : kP.C w A n l) (hc : n ≤ c) (h2 : kP.C w B n l) (he : n ≤ e) (hl : n ≤ 1000) (h : ∀ p ∈ l, p.f1.length ≤ 1000 ∧ ∀ x ∈ p.f1, SmC x) : Calls Tryz.prog 17 #[.slice A n c, .slice B n e] w (IsPost (.bool true) w) := by
  have HN := hid hn
  have HC1 := hid h1
  have HC2 := hid h2
  have HSM := hid h
  have HL := hid hl
  have HI0 := hid (Below.refl w.heap.size w)
  clear hn h1 h2 h hl
  go_enter Tryz.func17, Tryz.ntmps17
  go_wp2_with fail
  go_loopw [5] (fun vi W => ∃ (i : Nat), vi = .int .i64 i ∧ i ≤ n ∧ Hid (Below w.heap.size w W)) (fun vi _ => n - (intOf vi).toNat)
  case atStart => exact ⟨0, rfl, by omega, HI0⟩
  case round =>
    obtain ⟨i, rfl, hi, hI⟩ := hrel
    clear HI0
    by_cases hlt : i < n
    · have hil : i < l.length := by have := HN.out; omega
      have hii : (i : Int) < (n : Int) := by omega
      obtain ⟨b, off, A1, d1, rfl, k0, k1, k2, k3, l1, g1⟩ := pk_at (Kd.C_below HC1.out hI.out) i hil
      obtain ⟨b', off', B1, e1, rfl, p0, p1, p2, p3, r1, u1⟩ := pk_at (Kd.C_below HC2.out hI.out) i hil
      have hsx := HSM.out _ (List.getElem_mem hil)
      obtain ⟨x, hx⟩ : ∃ x, l[i] = x := ⟨_, rfl⟩
      rw [hx] at k0 k1 k2 k3 l1 g1 p0 p1 p2 p3 r1 u1 hsx
      obtain ⟨m1, hm1⟩ : ∃ m, x.f1.length = m := ⟨_, rfl⟩
      rw [hm1] at k3 p3 l1 r1 g1 u1
      have HWI := hid (show wrap64 ((i : Int) + 1) = ((i + 1 : Nat) : Int) by have := HL.out; unfold wrap64; omega)
      have HX := hid (fun W (hW : Below wr.heap.size wr W) => same22_any x A1 B1 m1 d1 e1 W hm1 (Kd.C_below g1 hW) l1 (Kd.C_below u1 hW) r1 (by have := hsx.1; omega) hsx.2)
      have hS0 : Below wr.heap.size wr wr.drew ∧ wr.drew.cell? ⟨b, off + i * 4, none⟩ = some (.int .u16 x.f0.f0) ∧ wr.drew.cell? ⟨b, off + i * 4 + 1, none⟩ = some (.int .u16 x.f0.f1) ∧ wr.drew.cell? ⟨b, off + i * 4 + 2, none⟩ = some (.int .u32 x.f0.f2) ∧ wr.drew.cell? ⟨b, off + i * 4 + 3, none⟩ = some (.slice A1 m1 d1) ∧ wr.drew.cell? ⟨b', off' + i * 4, none⟩ = some (.int .u16 x.f0.f0) ∧ wr.drew.cell? ⟨b', off' + i * 4 + 1, none⟩ = some (.int .u16 x.f0.f1) ∧ wr.drew.cell? ⟨b', off' + i * 4 + 2, none⟩ = some (.int .u32 x.f0.f2) ∧ wr.drew.cell? ⟨b', off' + i * 4 + 3, none⟩ = some (.slice B1 m1 e1) := ⟨below_drew (Below.refl _ _) 1, k0, k1, k2, k3, p0, p1, p2, p3⟩
      clear hx hm1 g1 l1 u1 r1 hil hsx k0 k1 k2 k3 p0 p1 p2 p3
      go_upto_region 6 with fail
      refine start_ (n := 10) (S := (fun W => Below wr.heap.size wr W ∧ W.cell? ⟨b, off + i * 4, none⟩ = some (.int .u16 x.f0.f0) ∧ W.cell? ⟨b, off + i * 4 + 1, none⟩ = some (.int .u16 x.f0.f1) ∧ W.cell? ⟨b, off + i * 4 + 2, none⟩ = some (.int .u32 x.f0.f2) ∧ W.cell? ⟨b, off + i * 4 + 3, none⟩ = some (.slice A1 m1 d1) ∧ W.cell? ⟨b', off' + i * 4, none⟩ = some (.int .u16 x.f0.f0) ∧ W.cell? ⟨b', off' + i * 4 + 1, none⟩ = some (.int .u16 x.f0.f1) ∧ W.cell? ⟨b', off' + i * 4 + 2, none⟩ = some (.int .u32 x.f0.f2) ∧ W.cell? ⟨b', off' + i * 4 + 3, none⟩ = some (.slice B1 m1 e1))) (ds := [8]) (bA 10 0) (by kernel_rfl) rfl rfl hS0 (fun hHeld => ?_)
      generalize wr.drew = w44 at hS0 hHeld ⊢
      refine pU 0 (some 17) (bA 10 1) rfl rfl ?_
      refine pU 1 (some 18) (bA 10 3) rfl rfl ?_
      refine pU 2 (some 19) (bA 10 7) rfl rfl ?_
      refine pU 4 (some 21) (bA 10 23) rfl rfl ?_
      refine pU 5 (some 22) (bA 10 55) rfl rfl ?_
      refine pU 6 (some 23) (bA 10 119) rfl rfl ?_
      refine tU 3 (some 20) (bA 10 127) rfl rfl hHeld (by rintro w' ⟨q0, q1, q2, q3, q4, q5, q6, q7, q8⟩; go_simp; with_reducible rfl) ?_
      refine tU 7 (some 24) (bA 10 255) rfl rfl hHeld (by rintro w' ⟨q0, q1, q2, q3, q4, q5, q6, q7, q8⟩; go_simp; with_reducible rfl) ?_
      refine last_ (i := 8) (N := some 25) (bA 10 511) rfl rfl (by kernel_rfl) (by decide) (fun KK hK => ?_)
      refine goes_ Tryz.func37 (by kernel_rfl) rfl #[.agg #[.int .u16 x.f0.f0, .int .u16 x.f0.f1, .int .u32 x.f0.f2, .slice A1 m1 d1], .agg #[.int .u16 x.f0.f0, .int .u16 x.f0.f1, .int .u32 x.f0.f2, .slice B1 m1 e1]] (by rfl) rfl rfl (by simp only [List.map_toArray, List.map_cons, List.map_nil]; rfl) ?_
      refine Calls.mono (HX.out _ hHeld.1) ?_
      rintro e5 W6 ⟨rfl, hb5⟩
      refine ⟨_, rfl, ?_⟩
      have HB5 := hid (cthen hHeld.1 hb5)
      clear hb5
      refine hK.out _ _ ?_
      clear hK KK
      refine nU ?_
      refine pU 9 (some 26) (bA 10 1023) rfl rfl ?_
      refine done_ (by kernel_rfl) ?_
      clear hS0 hHeld
      go_wp2_with fail
      exact ⟨⟨i + 1, by rw [HWI.out], hlt, hid (cthen hI.out HB5.out)⟩, by rw [HWI.out]; simp only [intOf, Int.toNat_natCast]; omega⟩
    · obtain rfl : n = i := by omega
      go_wp2_with fail
      go_ret
      exact ⟨rfl, hI.out⟩
end Bn
end Go.Proofs.YtmfmomfhiieilaaGreatDoor
/- 'errors.As' with a fault as its target; 'fault.At'. -/
set_option linter.unusedVariables false
set_option linter.unusedSimpArgs false
namespace Go.Proofs.YtmfmomfhiieilaaGreatDoor
open Go.RowKit Go.Shelf Go.Proofs.YtmfmomfhiieilaaGreatDoor.It Go.Proofs.YtmfmomfhiieilaaGreatDoorW.PrintWords Go.Extern.Stop Go.Stop Go.Extern
namespace Bn
theorem valueOfP (t : Addr) (w : World) : (ReflectliteValue.unpack (.iface 104 (.pointer (some t)))).run Tryz.prog w
    = .ok (.agg #[.pointer (some ⟨4, 104, none⟩), .pointer (some ⟨w.heap.size, 0, none⟩), .int .u64 150]) (w.alloc (.cells #[.pointer (some t)] 104)) := by kernel_rfl
theorem typeP (a : Addr) (w : World) : (ReflectliteValue.methodAny (ReflectliteValue.valueError "reflectlite.Value.Type" 0) (fun t _ _ _ => ReflectliteType.toType t) #[.agg #[.pointer (some ⟨4, 104, none⟩), .pointer (some a), .int .u64 150]]).run Tryz.prog w
    = .ok (.iface 152 (.agg #[.pointer (some ⟨4, 104, none⟩)])) w := by kernel_rfl
theorem kindP (w : World) : ((ReflectliteType.abiMethod fun t => (fun a : Nat => Value.int IntKind.u8 (a : Int)) <$> Rtype.kind t) #[.pointer (some ⟨4, 104, none⟩)]).run Tryz.prog w = .ok (.int .u8 22) w := by kernel_rfl
theorem elemP (w : World) : (ReflectliteType.method ReflectliteType.elem #[.agg #[.pointer (some ⟨4, 104, none⟩)]]).run Tryz.prog w = .ok (.iface 152 (.agg #[.pointer (some ⟨4, 90, none⟩)])) w := by kernel_rfl
theorem partsP (a : Addr) (w : World) : (ReflectliteValue.parts (.agg #[.pointer (some ⟨4, 104, none⟩), .pointer (some a), .int .u64 150])).run Tryz.prog w = .ok (some (104, a, 150)) w := by kernel_rfl
theorem isNilP (a p : Addr) (W : World) (ha : W.cell? a = some (.pointer (some p))) :
    (ReflectliteValue.method (ReflectliteValue.valueError "reflectlite.Value.IsNil" 0) ReflectliteValue.isNil #[.agg #[.pointer (some ⟨4, 104, none⟩), .pointer (some a), .int .u64 150]]).run Tryz.prog W = .ok (.bool false) W := by
  rw [rlm]
  simp only [Sem.run_bind, partsP, Result.andThen]
  simp [ReflectliteValue.isNil, loadVar, isAgg, underlying, Tryz.underlying104, ha, Result.andThen]
theorem elemOfP (w : World) : (Rtype.elem? 104).run Tryz.prog w = .ok (some 90) w := by kernel_rfl
theorem mkF (p : Addr) (w : World) : (ReflectliteValue.mk 90 p ReflectliteValue.flagAddr).run Tryz.prog w = .ok (.agg #[.pointer (some ⟨4, 90, none⟩), .pointer (some p), .int .u64 409]) w := by kernel_rfl
theorem elemVP (a p : Addr) (W : World) (ha : W.cell? a = some (.pointer (some p))) :
    (ReflectliteValue.method (ReflectliteValue.valueError "reflectlite.Value.Elem" 0) ReflectliteValue.elem #[.agg #[.pointer (some ⟨4, 104, none⟩), .pointer (some a), .int .u64 150]]).run Tryz.prog W
      = .ok (.agg #[.pointer (some ⟨4, 90, none⟩), .pointer (some p), .int .u64 409]) W := by
  rw [rlm]
  simp only [Sem.run_bind, partsP, Result.andThen]
  simp [ReflectliteValue.elem, loadVar, isAgg, underlying, Tryz.underlying104, ha, Result.andThen, elemOfP, mkF]
end Bn
end Go.Proofs.YtmfmomfhiieilaaGreatDoor
/- The walk of the law 'BundleGreedy'. -/
set_option linter.unusedVariables false
set_option linter.unusedSimpArgs false
namespace Go.Proofs.YtmfmomfhiieilaaGreatDoor
open Go.RowKit Go.Shelf Go.Proofs.YtmfmomfhiieilaaGreatDoor.It Go.Proofs.YtmfmomfhiieilaaGreatDoorW.PrintWords Go.Proofs.YtmfmomfhiieilaaGreatDoorW.PrintLast Go.Proofs.YtmfmomfhiieilaaGreatDoorW.PrintMore
namespace Bn
open PBundleSorted
/-- The numbers of a chunk are those of their types. -/
structure CkR (x : Ck) : Prop where
  t0 : 0 ≤ x.f0
  t1 : x.f0 ≤ 255
  g0 : 0 ≤ x.f1
  g1 : x.f1 ≤ 255
  byt : Byt x.f2
  nds : okL x.f3
theorem ckOk_of {x : Ck} (h : CkR x) (hf : fewC x) : CkOk x := ⟨h.t0, h.t1, h.g0, h.g1, h.byt, h.nds, by have := hf.1; omega, by have := hf.2; omega⟩
theorem fstBad_ne : ∀ (l : List Ck) (i : Nat) (er : Int × Option Int), fstBad i l = some er → er.1 ≠ 0
  | [], i, er, h => by rw [fstBad] at h; cases h
  | x :: l, i, er, h => by
    rw [fstBad] at h
    split at h
    · exact fstBad_ne l (i + 1) er h
    · next h0 => injection h with h; subst h; exact h0
theorem ofErr_ne {M : Int} {l : List Ck} {er : Int × Option Int} (h : ofErr M l = some er) : er.1 ≠ 0 := by
  unfold ofErr at h
  split at h
  · injection h with h; subst h; decide
  · split at h
    · injection h with h; subst h; decide
    · exact fstBad_ne _ _ _ h
theorem err_ne (er : Int × Option Int) (W : World) : (binOp BinOp.neq 31 (eV (some er)) Value.nilIface).run Tryz.prog W = .ok (.bool true) W := by
  obtain ⟨c, _ | n⟩ := er <;> kernel_rfl
theorem err_eg (er : Int × Option Int) (o : Operand) (W : World) : (eqGuard BinOp.neq 31 o (Operand.const Value.nilIface) (eV (some er)) Value.nilIface).run Tryz.prog W = .ok () W := by
  obtain ⟨c, _ | n⟩ := er <;> kernel_rfl
end Bn
end Go.Proofs.YtmfmomfhiieilaaGreatDoor
/- The walk of the law 'BundleMatchesReference'. -/
set_option linter.unusedVariables false
set_option linter.unusedSimpArgs false
namespace Go.Proofs.YtmfmomfhiieilaaGreatDoor
open Go.RowKit Go.Shelf Go.Proofs.YtmfmomfhiieilaaGreatDoor.It Go.Proofs.YtmfmomfhiieilaaGreatDoorW.PrintWords Go.Proofs.YtmfmomfhiieilaaGreatDoorW.PrintLast Go.Proofs.YtmfmomfhiieilaaGreatDoorW.PrintMore
namespace Bn
open PBundleSorted
theorem cp_nil (w : World) : kP.C w none 0 [] := ⟨rfl, by decide, fun h => absurd h (by decide)⟩
end Bn
end Go.Proofs.YtmfmomfhiieilaaGreatDoor
/- Ranks of chunks: 'legal.rank', 'wharfref21.group', 'cmp.Compare', the closure of 'legal.Sort'; the plain law of sorting. -/
set_option linter.unusedVariables false
set_option linter.unusedSimpArgs false
namespace Go.Proofs.YtmfmomfhiieilaaGreatDoor
open Go.RowKit Go.Shelf Go.Proofs.YtmfmomfhiieilaaGreatDoor.It Go.Proofs.YtmfmomfhiieilaaGreatDoorW.PrintWords Go.Proofs.YtmfmomfhiieilaaGreatDoorW.PrintLast Go.Proofs.YtmfmomfhiieilaaGreatDoorW.PrintMore
namespace Bn
open PBundleSorted
def rkT (t : Int) : Int := if t = 15 then 0 else if t = 10 then 1 else if isD t = true then 3 else if t = 6 then 4 else 2
theorem rkT_bd (t : Int) : rkT t = 0 ∨ rkT t = 1 ∨ rkT t = 2 ∨ rkT t = 3 ∨ rkT t = 4 := by
  unfold rkT
  split
  · simp
  · split
    · simp
    · split
      · simp
      · split <;> simp
set_option maxHeartbeats 1000000 in
/-- 'legal.rank'. -/
theorem rank_any (t : Int) (w : World) : Calls Tryz.prog 73 #[.int .u8 t] w (IsPost (.int .i64 (rkT t)) w) := by
  by_cases h15 : t = 15
  · subst h15
    go_enter Tryz.func73, Tryz.ntmps73
    go_wp2_with fail
    go_ret
    exact ⟨rfl, Below.refl _ _⟩
  by_cases h10 : t = 10
  · subst h10
    go_enter Tryz.func73, Tryz.ntmps73
    go_wp2_with fail
    go_ret
    exact ⟨rfl, Below.refl _ _⟩
  have hd := isd_any t w
  obtain ⟨dt, hdt⟩ : ∃ d, isD t = d := ⟨_, rfl⟩
  rw [hdt] at hd
  cases dt with
  | true =>
    have he : rkT t = 3 := by unfold rkT; rw [if_neg h15, if_neg h10, if_pos hdt]
    rw [he]
    clear hdt he
    go_enter Tryz.func73, Tryz.ntmps73
    go_wp2_with fail
    refine hd.mono ?_
    rintro e W2 ⟨rfl, hb2⟩
    have HB := hid hb2
    clear hd hb2
    go_wp2_with fail
    go_ret
    exact ⟨rfl, HB.out⟩
  | false =>
    by_cases h6 : t = 6
    · subst h6
      clear hdt
      go_enter Tryz.func73, Tryz.ntmps73
      go_wp2_with fail
      refine hd.mono ?_
      rintro e W2 ⟨rfl, hb2⟩
      have HB := hid hb2
      clear hd hb2
      go_wp2_with fail
      go_ret
      exact ⟨rfl, HB.out⟩
    · have he : rkT t = 2 := by unfold rkT; rw [if_neg h15, if_neg h10, if_neg (by rw [hdt]; decide), if_neg h6]
      rw [he]
      clear hdt he
      go_enter Tryz.func73, Tryz.ntmps73
      go_wp2_with fail
      refine hd.mono ?_
      rintro e W2 ⟨rfl, hb2⟩
      have HB := hid hb2
      clear hd hb2
      go_wp2_with fail
      go_ret
      exact ⟨rfl, HB.out⟩
set_option maxHeartbeats 1000000 in
/-- 'wharfref21.group'. -/
theorem group_any (t : Int) (w : World) : Calls Tryz.prog 40 #[.int .u8 t] w (IsPost (.int .i64 (rkT t)) w) := by
  by_cases h15 : t = 15
  · subst h15
    go_enter Tryz.func40, Tryz.ntmps40
    go_wp2_with fail
    go_ret
    exact ⟨rfl, Below.refl _ _⟩
  by_cases h10 : t = 10
  · subst h10
    go_enter Tryz.func40, Tryz.ntmps40
    go_wp2_with fail
    go_ret
    exact ⟨rfl, Below.refl _ _⟩
  by_cases h0 : t = 0
  · subst h0
    go_enter Tryz.func40, Tryz.ntmps40
    go_wp2_with fail
    go_ret
    exact ⟨rfl, Below.refl _ _⟩
  by_cases h64 : t = 64
  · subst h64
    go_enter Tryz.func40, Tryz.ntmps40
    go_wp2_with fail
    go_ret
    exact ⟨rfl, Below.refl _ _⟩
  by_cases h6 : t = 6
  · subst h6
    go_enter Tryz.func40, Tryz.ntmps40
    go_wp2_with fail
    go_ret
    exact ⟨rfl, Below.refl _ _⟩
  have he : rkT t = 2 := by unfold rkT isD; simp [h15, h10, h0, h64, h6]
  rw [he]
  clear he
  have hb0 : (t == 0) = false := by simpa using h0
  have hb64 : (t == 64) = false := by simpa using h64
  go_enter Tryz.func40, Tryz.ntmps40
  go_wp2_with fail
  go_ret
  exact ⟨rfl, Below.refl _ _⟩
theorem isnan_any (x : Int) (w : World) : Calls Tryz.prog 96 #[.int .i64 x] w (IsPost (.bool false) w) := by
  go_enter Tryz.func96, Tryz.ntmps96
  go_wp2_with fail
  go_ret
  exact ⟨by simp, Below.refl _ _⟩
def sgn (x y : Int) : Int := if x < y then -1 else if y < x then 1 else 0
set_option maxHeartbeats 1000000 in
/-- 'cmp.Compare' of whole numbers. -/
theorem cmpi_any (x y : Int) (w : World) : Calls Tryz.prog 72 #[.int .i64 x, .int .i64 y] w (IsPost (.int .i64 (sgn x y)) w) := by
  have h1 := isnan_any x w
  have H2 := hid (fun W => isnan_any y W)
  go_enter Tryz.func72, Tryz.ntmps72
  go_wp2_with fail
  refine h1.mono ?_
  rintro e W1 ⟨rfl, hb1⟩
  have HB1 := hid hb1
  clear h1 hb1
  go_wp2_with fail
  refine (H2.out W1).mono ?_
  rintro e W2 ⟨rfl, hb2⟩
  have HB2 := hid (cthen HB1.out hb2)
  clear hb2
  by_cases h : x < y
  · have he : sgn x y = -1 := if_pos h
    have HE := hid he
    clear he
    go_wp2_with fail
    go_ret
    exact ⟨by rw [HE.out]; rfl, HB2.out⟩
  · by_cases h2 : y < x
    · have he : sgn x y = 1 := by unfold sgn; rw [if_neg h, if_pos h2]
      have HE := hid he
      clear he
      go_wp2_with fail
      go_ret
      exact ⟨by rw [HE.out]; rfl, HB2.out⟩
    · have he : sgn x y = 0 := by unfold sgn; rw [if_neg h, if_neg h2]
      have HE := hid he
      clear he
      go_wp2_with fail
      go_ret
      exact ⟨by rw [HE.out]; rfl, HB2.out⟩
theorem sgn_neg (x y : Int) : sgn x y < 0 ↔ x < y := by
  unfold sgn
  split
  · simp [*]
  · split
    · simp; omega
    · simp; omega
theorem s1_blw {S W W' : World} {a0 a1 : Addr} {v0 v1 : Value} (h : Below S.heap.size S W ∧ W.cell? a0 = some v0 ∧ W.cell? a1 = some v1) (hb : Below W.heap.size W W') : Below S.heap.size S W' ∧ W'.cell? a0 = some v0 ∧ W'.cell? a1 = some v1 := ⟨cthen h.1 hb, pw_cell_below hb h.2.1, pw_cell_below hb h.2.2⟩
set_option maxRecDepth 100000 in
set_option maxHeartbeats 4000000 in
/-- The closure of 'legal.Sort'. -/
theorem sort1_any (x y : Ck) (A1 A2 B1 B2 : Option Addr) (m1 m2 d1 d2 n1 n2 e1 e2 : Nat) (w : World) :
    Calls Tryz.prog 71 #[.agg #[.int .u8 x.f0, .int .u8 x.f1, .slice A1 m1 d1, .slice A2 m2 d2], .agg #[.int .u8 y.f0, .int .u8 y.f1, .slice B1 n1 e1, .slice B2 n2 e2]] w (IsPost (.int .i64 (sgn (rkT x.f0) (rkT y.f0))) w) := by
  obtain ⟨S, hS⟩ : ∃ S, (w.alloc (.cells #[.int .u8 x.f0, .int .u8 x.f1, .slice A1 m1 d1, .slice A2 m2 d2] 42)).alloc (.cells #[.int .u8 y.f0, .int .u8 y.f1, .slice B1 n1 e1, .slice B2 n2 e2] 42) = S := ⟨_, rfl⟩
  have hbS : Below w.heap.size w S := by rw [← hS]; exact below_alloc (below_alloc (Below.refl _ _) _) _
  have XS := hid (show S.heap[w.heap.size]? = some (.cells #[.int .u8 x.f0, .int .u8 x.f1, .slice A1 m1 d1, .slice A2 m2 d2] 42 (0, 0)) by rw [← hS]; exact blk_alloc (blk_new w _))
  have YS := hid (show S.heap[w.heap.size + 1]? = some (.cells #[.int .u8 y.f0, .int .u8 y.f1, .slice B1 n1 e1, .slice B2 n2 e2] 42 (0, 0)) by rw [← hS]; have h := blk_new (w.alloc (.cells #[.int .u8 x.f0, .int .u8 x.f1, .slice A1 m1 d1, .slice A2 m2 d2] 42)) (.cells #[.int .u8 y.f0, .int .u8 y.f1, .slice B1 n1 e1, .slice B2 n2 e2] 42); rw [World.size_alloc] at h; exact h)
  obtain ⟨⟨x0, x1, x2, x3⟩, -⟩ := four XS.out
  obtain ⟨⟨y0, y1, y2, y3⟩, -⟩ := four YS.out
  have hS0 : Below S.heap.size S S.drew ∧ S.drew.cell? ⟨w.heap.size, 0, none⟩ = some (.int .u8 x.f0) ∧ S.drew.cell? ⟨w.heap.size + 1, 0, none⟩ = some (.int .u8 y.f0) := ⟨below_drew (Below.refl _ _) 1, x0, y0⟩
  have HS := hid hS
  have BS := hid hbS
  clear hS hbS x0 x1 x2 x3 y0 y1 y2 y3
  go_enter Tryz.func71, Tryz.ntmps71
  go_upto_region 1 with fail
  rw [HS.out]
  refine start_ (n := 8) (S := (fun W => Below S.heap.size S W ∧ W.cell? ⟨w.heap.size, 0, none⟩ = some (.int .u8 x.f0) ∧ W.cell? ⟨w.heap.size + 1, 0, none⟩ = some (.int .u8 y.f0))) (ds := [6]) (bA 8 0) (by kernel_rfl) rfl rfl hS0 (fun hHeld => ?_)
  generalize S.drew = w44 at hS0 hHeld ⊢
  refine pU 0 (some 5) (bA 8 1) rfl rfl ?_
  refine pU 3 (some 8) (bA 8 9) rfl rfl ?_
  refine tU 1 (some 6) (bA 8 11) rfl rfl hHeld (by rintro w' ⟨q0, q1, q2⟩; go_simp; with_reducible rfl) ?_
  refine tU 4 (some 9) (bA 8 27) rfl rfl hHeld (by rintro w' ⟨q0, q1, q2⟩; go_simp; with_reducible rfl) ?_
  refine one_ (i := 2) (N := some 7) (bA 8 31) rfl rfl (by kernel_rfl) (by decide) (fun KK hK => ?_)
  refine goes_ Tryz.func73 (by kernel_rfl) rfl #[.int .u8 x.f0] (by rfl) rfl rfl (by simp only [List.map_toArray, List.map_cons, List.map_nil]; rfl) ?_
  refine Calls.mono (rank_any x.f0 _) ?_
  rintro e5 W2 ⟨rfl, hb5⟩
  refine ⟨_, rfl, ?_⟩
  have hS_W2 := s1_blw hHeld hb5
  clear hb5
  refine hK.out _ _ hS_W2 (fun hHeld2 => ?_)
  clear hK KK
  refine nU ?_
  refine one_ (i := 5) (N := some 10) (bA 8 63) rfl rfl (by kernel_rfl) (by decide) (fun KK hK => ?_)
  refine goes_ Tryz.func73 (by kernel_rfl) rfl #[.int .u8 y.f0] (by rfl) rfl rfl (by simp only [List.map_toArray, List.map_cons, List.map_nil]; rfl) ?_
  refine Calls.mono (rank_any y.f0 _) ?_
  rintro e5 W3 ⟨rfl, hb5⟩
  refine ⟨_, rfl, ?_⟩
  have hS_W3 := s1_blw hHeld2 hb5
  clear hb5
  refine hK.out _ _ hS_W3 (fun hHeld3 => ?_)
  clear hK KK
  refine nU ?_
  refine last_ (i := 6) (N := some 11) (bA 8 127) rfl rfl (by kernel_rfl) (by decide) (fun KK hK => ?_)
  refine goes_ Tryz.func72 (by kernel_rfl) rfl #[.int .i64 (rkT x.f0), .int .i64 (rkT y.f0)] (by rfl) rfl rfl (by simp only [List.map_toArray, List.map_cons, List.map_nil]; rfl) ?_
  refine Calls.mono (cmpi_any (rkT x.f0) (rkT y.f0) _) ?_
  rintro e5 W4 ⟨rfl, hb5⟩
  refine ⟨_, rfl, ?_⟩
  have HB5 := hid (cthen hHeld3.1 hb5)
  clear hb5
  refine hK.out _ _ ?_
  clear hK KK
  refine nU ?_
  refine pU 7 (some 4) (bA 8 255) rfl rfl ?_
  refine done_ (by kernel_rfl) ?_
  clear hS0 hHeld hHeld2 hHeld3
  go_wp2_with fail
  go_ret
  exact ⟨rfl, cthen BS.out HB5.out⟩
/-- One group of chunks; the groups up to one, one behind the other. -/
def gs (p : List Ck) (g : Int) : List Ck := p.filter (fun x => decide (rkT x.f0 = g))
def gT (p : List Ck) : Nat → List Ck
  | 0 => []
  | k + 1 => gT p k ++ gs p (k : Int)
theorem gs_snoc (p : List Ck) (x : Ck) (g : Int) : gs (p ++ [x]) g = gs p g ++ (if rkT x.f0 = g then [x] else []) := by
  unfold gs
  rw [List.filter_append]
  by_cases h : rkT x.f0 = g <;> simp [h]
theorem gs_mem {p : List Ck} {g : Int} {y : Ck} (h : y ∈ gs p g) : rkT y.f0 = g := by
  have := (List.mem_filter.1 h).2
  exact of_decide_eq_true this
def gR (p : List Ck) : Nat → Nat → List Ck
  | _, 0 => []
  | k, n + 1 => gs p (k : Int) ++ gR p (k + 1) n
theorem gT_gR (p : List Ck) : ∀ (n k : Nat), gT p (k + n) = gT p k ++ gR p k n
  | 0, k => by simp [gR]
  | n + 1, k => by
    rw [show k + (n + 1) = (k + 1) + n by omega, gT_gR p n (k + 1), gT, gR]
    simp
theorem gT_mem (p : List Ck) (y : Ck) : ∀ k : Nat, y ∈ gT p k → rkT y.f0 < (k : Int)
  | 0, h => by simp [gT] at h
  | k + 1, h => by
    rw [gT, List.mem_append] at h
    rcases h with h | h
    · have := gT_mem p y k h; omega
    · have := gs_mem h; omega
theorem gR_mem (p : List Ck) (y : Ck) : ∀ n k : Nat, y ∈ gR p k n → (k : Int) ≤ rkT y.f0
  | 0, k, h => by simp [gR] at h
  | n + 1, k, h => by
    rw [gR, List.mem_append] at h
    rcases h with h | h
    · have := gs_mem h; omega
    · have := gR_mem p y n (k + 1) h; omega
theorem gT_skip (p : List Ck) (x : Ck) : ∀ k : Nat, (k : Int) ≤ rkT x.f0 → gT (p ++ [x]) k = gT p k
  | 0, _ => rfl
  | k + 1, h => by rw [gT, gT, gT_skip p x k (by omega), gs_snoc, if_neg (by omega), List.append_nil]
theorem gR_skip (p : List Ck) (x : Ck) : ∀ n k : Nat, rkT x.f0 < (k : Int) → gR (p ++ [x]) k n = gR p k n
  | 0, _, _ => rfl
  | n + 1, k, h => by rw [gR, gR, gR_skip p x n (k + 1) (by omega), gs_snoc, if_neg (by omega), List.append_nil]
/-- Sorting one more: it goes behind those of no greater rank. -/
theorem gT_snoc (p : List Ck) (x : Ck) : ∃ L R, gT p 5 = L ++ R ∧ gT (p ++ [x]) 5 = L ++ x :: R ∧ (∀ y ∈ L, rkT y.f0 ≤ rkT x.f0) ∧ (∀ y ∈ R, rkT x.f0 < rkT y.f0) := by
  obtain ⟨k, hk, hr⟩ : ∃ k : Nat, k < 5 ∧ rkT x.f0 = (k : Int) := by
    rcases rkT_bd x.f0 with h | h | h | h | h
    · exact ⟨0, by omega, h⟩
    · exact ⟨1, by omega, h⟩
    · exact ⟨2, by omega, h⟩
    · exact ⟨3, by omega, h⟩
    · exact ⟨4, by omega, h⟩
  have h5 : k + 1 + (4 - k) = 5 := by omega
  refine ⟨gT p (k + 1), gR p (k + 1) (4 - k), ?_, ?_, fun y hy => ?_, fun y hy => ?_⟩
  · rw [← gT_gR, h5]
  · rw [← h5, gT_gR, gR_skip p x _ _ (by omega), gT, gT_skip p x k (by omega), gs_snoc, if_pos hr, gT]
    simp
  · have := gT_mem p y _ hy; omega
  · have := gR_mem p y _ _ hy; omega
end Bn
end Go.Proofs.YtmfmomfhiieilaaGreatDoor
/- Two neighbours in a row of chunks, exchanged. -/
set_option linter.unusedVariables false
set_option linter.unusedSimpArgs false
namespace Go.Proofs.YtmfmomfhiieilaaGreatDoor
open Go.RowKit Go.Shelf Go.Proofs.YtmfmomfhiieilaaGreatDoor.It Go.Proofs.YtmfmomfhiieilaaGreatDoorW.PrintWords Go.Proofs.YtmfmomfhiieilaaGreatDoorW.PrintLast Go.Proofs.YtmfmomfhiieilaaGreatDoorW.PrintMore
namespace Bn
open PBundleSorted
theorem reps_split {α : Type} {R : α → List Value → Prop} {A B : List α} {inner : List Value} (h : Reps R 4 (A ++ B) inner) : ∃ I J, inner = I ++ J ∧ Reps R 4 A I ∧ Reps R 4 B J := by
  have hl := h.1
  rw [List.length_append] at hl
  refine ⟨inner.take (A.length * 4), inner.drop (A.length * 4), (List.take_append_drop _ _).symm, ⟨by rw [List.length_take]; omega, fun j p hj => ?_⟩, ⟨by rw [List.length_drop]; omega, fun j p hj => ?_⟩⟩
  · have hja : j < A.length := (List.getElem?_eq_some_iff.1 hj).1
    have := h.2 j p (by rw [List.getElem?_append_left hja]; exact hj)
    rw [List.drop_take, List.take_take, Nat.min_eq_left (by omega)]
    exact this
  · have := h.2 (A.length + j) p (by rw [List.getElem?_append_right (by omega), Nat.add_sub_cancel_left]; exact hj)
    rw [List.drop_drop, ← Nat.add_mul]
    exact this
theorem reps_one {α : Type} {R : α → List Value → Prop} {x : α} {B : List α} {J : List Value} (h : Reps R 4 (x :: B) J) : ∃ a b c d J', J = a :: b :: c :: d :: J' ∧ R x [a, b, c, d] ∧ Reps R 4 B J' := by
  obtain ⟨I, J', rfl, h1, h2⟩ := reps_split (A := [x]) (B := B) h
  have hl := h1.1
  have hx := h1.2 0 x rfl
  match I, hl with
  | [a, b, c, d], _ => exact ⟨a, b, c, d, J', rfl, by simpa using hx, h2⟩
theorem reps_mk1 {α : Type} {R : α → List Value → Prop} {x : α} {a b c d : Value} (h : R x [a, b, c, d]) : Reps R 4 [x] [a, b, c, d] := by
  have := (Reps.none R 4).snoc h rfl
  simpa using this
/-- A row as two neighbours see it. -/
structure Nb (base g n cap t : Nat) (I1 I2 M : List Value) (W : World) : Prop where
  own : W.ownsRow base 42 4 (.slice (some ⟨g, 0, none⟩) n cap) n (I1 ++ M ++ I2)
  len : I1.length = t * 4
theorem Nb.cell {base g n cap t : Nat} {I1 I2 M : List Value} {W : World} (h : Nb base g n cap t I1 I2 M W) (i : Nat) (u : Value) (hu : M[i]? = some u) : W.cell? ⟨g, t * 4 + i, none⟩ = some u := by
  have hi := (List.getElem?_eq_some_iff.1 hu).1
  have := h.own.cells (g := g) rfl (t * 4 + i) u (by rw [List.append_assoc, List.getElem?_append_right (by rw [h.len]; omega), h.len, Nat.add_sub_cancel_left, List.getElem?_append_left hi]; exact hu)
  rwa [Go.WideShapes.add_plain, Nat.zero_add] at this
theorem Nb.frozen {base g n cap t : Nat} {I1 I2 M : List Value} {W : World} (h : Nb base g n cap t I1 I2 M W) (j : Nat) : W.frozen? ⟨g, j, none⟩ = false := by
  obtain ⟨cells, hc⟩ := own_typed h.own g rfl
  exact blk_frozen hc j
theorem Nb.set {base g n cap t : Nat} {I1 I2 M : List Value} {W : World} (h : Nb base g n cap t I1 I2 M W) (i : Nat) (u : Value) (hi : i < M.length) : Nb base g n cap t I1 I2 (M.set i u) (W.setCell ⟨g, t * 4 + i, none⟩ u) := by
  refine ⟨?_, h.len⟩
  have := (h.own.stored (t * 4 + i) u).1
  rw [List.append_assoc, List.set_append_right _ _ (by rw [h.len]; omega), h.len, Nat.add_sub_cancel_left, List.set_append_left _ _ hi, ← List.append_assoc] at this
  exact this
theorem Nb.lt {base g n cap t : Nat} {I1 I2 M : List Value} {W : World} (h : Nb base g n cap t I1 I2 M W) : base ≤ g ∧ g < W.heap.size := ⟨own_base h.own g rfl, own_lt h.own g rfl⟩
/-- Opened at two neighbours; closed with them exchanged. -/
theorem nb_open {w0 W : World} {base g n cap : Nat} {P Q : List Ck} {y x : Ck} (h : OwC w0 W base (.slice (some ⟨g, 0, none⟩) n cap) (P ++ y :: x :: Q)) (hn : (P ++ y :: x :: Q).length = n) :
    ∃ (I1 I2 : List Value) (A1 A2 B1 B2 : Option Addr) (m1 m2 d1 d2 n1 n2 e1 e2 : Nat), Nb base g n cap P.length I1 I2 [.int .u8 y.f0, .int .u8 y.f1, .slice A1 m1 d1, .slice A2 m2 d2, .int .u8 x.f0, .int .u8 x.f1, .slice B1 n1 e1, .slice B2 n2 e2] W ∧
      ∀ W', Nb base g n cap P.length I1 I2 [.int .u8 x.f0, .int .u8 x.f1, .slice B1 n1 e1, .slice B2 n2 e2, .int .u8 y.f0, .int .u8 y.f1, .slice A1 m1 d1, .slice A2 m2 d2] W' → OwC w0 W' base (.slice (some ⟨g, 0, none⟩) n cap) (P ++ x :: y :: Q) := by
  obtain ⟨inner, hown, hr⟩ := h
  obtain ⟨I1, J, rfl, h1, h2⟩ := reps_split hr
  obtain ⟨ya, yb, yc, yd, J2, rfl, hy, h3⟩ := reps_one h2
  obtain ⟨xa, xb, xc, xd, I2, rfl, hx, h4⟩ := reps_one h3
  obtain ⟨A1, d1, A2, d2, ey, -, -, -, -⟩ := k42_open hy
  obtain ⟨B1, e1, B2, e2, ex, -, -, -, -⟩ := k42_open hx
  simp only [List.cons.injEq, and_true] at ey ex
  obtain ⟨rfl, rfl, rfl, rfl⟩ := ey
  obtain ⟨rfl, rfl, rfl, rfl⟩ := ex
  rw [hn] at hown
  refine ⟨I1, I2, A1, A2, B1, B2, _, _, d1, d2, _, _, e1, e2, ⟨by simpa using hown, h1.1⟩, fun W' hW => ?_⟩
  have hl : (P ++ x :: y :: Q).length = n := by rw [← hn]; simp
  refine ⟨_, by rw [hl]; exact hW.own, ?_⟩
  have := Kd.reps_append (Kd.reps_append h1 (Kd.reps_append (reps_mk1 hx) (reps_mk1 hy))) h4
  simpa using this
end Bn
end Go.Proofs.YtmfmomfhiieilaaGreatDoor
/- 'slices.insertionSortCmpFunc' of chunks, by rank. -/
set_option linter.unusedVariables false
set_option linter.unusedSimpArgs false
namespace Go.Proofs.YtmfmomfhiieilaaGreatDoor
open Go.RowKit Go.Shelf Go.Proofs.YtmfmomfhiieilaaGreatDoor.It Go.Proofs.YtmfmomfhiieilaaGreatDoorW.PrintWords Go.Proofs.YtmfmomfhiieilaaGreatDoorW.PrintLast Go.Proofs.YtmfmomfhiieilaaGreatDoorW.PrintMore
namespace Bn
open PBundleSorted
theorem goesV_ {P : Program} {ops : Array Oper} {Q : Exit → Act → World → Prop} {oi : Oper} {N : Option Tmp} {a : Act} {w : World} {K : Act → World → Prop} {f : FuncId} {fn : Func} {o : Operand} {ar : Array Operand} {ts : Array TypeId} (hf : P.funcs[f]? = some fn) (hname : (fn.name == "runtime.NumGoroutine") = false) (hb : fn.body.isSome = true) (args : Array Value)
    (hw : Region.wanted oi (yielded ops a.tmps) = true) (hN : oi.dst = N) (hop : oi.op = .call { callee := .value o, args := ar, argTypes := ts }) (ho : a.eval o = .func (.func f) #[] #[]) (hargs : ar.map a.eval = args)
    (h : Calls P f args w fun e w' => ∃ v, e = .returned v ∧ K (a.put N v) w') : if Region.wanted oi (yielded ops a.tmps) = true then Oper.wp P oi a w K Q else K (a.put N undef) w := by
  refine call_ f args hw hN ?_ h
  have he := enters_ hf hname hb args w
  unfold execOp
  simp [hop, resolve, Deferred.ofValue, invoke, ho, hargs, he]
theorem gT_one (x : Ck) : gT [x] 5 = [x] := by
  obtain ⟨L, R, h1, h2, -, -⟩ := gT_snoc [] x
  have h3 : L ++ R = [] := by rw [← h1]; rfl
  obtain ⟨rfl, rfl⟩ := List.append_eq_nil_iff.1 h3
  exact h2
theorem gT_len : ∀ (n : Nat) (p : List Ck), p.length = n → (gT p 5).length = n
  | 0, p, h => by
    obtain rfl := List.eq_nil_of_length_eq_zero h
    rfl
  | n + 1, p, h => by
    rcases List.eq_nil_or_concat p with rfl | ⟨q, x, rfl⟩
    · simp at h
    · rw [List.concat_eq_append] at h ⊢
      rw [List.length_append] at h
      obtain ⟨L, R, h1, h2, -, -⟩ := gT_snoc q x
      have h3 := gT_len n q (by simp at h; omega)
      rw [h1, List.length_append] at h3
      rw [h2, List.length_append, List.length_cons]
      omega
/-- Opened cells. -/
theorem Nb.eight {base g n cap t J : Nat} {I1 I2 : List Value} {a0 a1 a2 a3 b0 b1 b2 b3 : Value} {W : World} (hJ : J = t + 1) (h : Nb base g n cap t I1 I2 [a0, a1, a2, a3, b0, b1, b2, b3] W) :
    (W.cell? ⟨g, t * 4, none⟩ = some a0 ∧ W.cell? ⟨g, t * 4 + 1, none⟩ = some a1 ∧ W.cell? ⟨g, t * 4 + 2, none⟩ = some a2 ∧ W.cell? ⟨g, t * 4 + 3, none⟩ = some a3) ∧ W.cell? ⟨g, J * 4, none⟩ = some b0 ∧ W.cell? ⟨g, J * 4 + 1, none⟩ = some b1 ∧ W.cell? ⟨g, J * 4 + 2, none⟩ = some b2 ∧ W.cell? ⟨g, J * 4 + 3, none⟩ = some b3 := by
  rw [hJ, show (t + 1) * 4 = t * 4 + 4 by omega]
  exact ⟨⟨h.cell 0 _ rfl, h.cell 1 _ rfl, h.cell 2 _ rfl, h.cell 3 _ rfl⟩, h.cell 4 _ rfl, h.cell 5 _ rfl, h.cell 6 _ rfl, h.cell 7 _ rfl⟩
theorem Nb.hi {base g n cap t J : Nat} {I1 I2 : List Value} {a0 a1 a2 a3 b0 b1 b2 b3 : Value} {W : World} (hJ : J = t + 1) (h : Nb base g n cap t I1 I2 [a0, a1, a2, a3, b0, b1, b2, b3] W) (u0 u1 u2 u3 : Value) :
    Nb base g n cap t I1 I2 [a0, a1, a2, a3, u0, u1, u2, u3] ((((W.setCell ⟨g, J * 4, none⟩ u0).setCell ⟨g, J * 4 + 1, none⟩ u1).setCell ⟨g, J * 4 + 2, none⟩ u2).setCell ⟨g, J * 4 + 3, none⟩ u3) := by
  have := (((h.set 4 u0 (by simp)).set 5 u1 (by simp)).set 6 u2 (by simp)).set 7 u3 (by simp)
  rw [hJ, show (t + 1) * 4 = t * 4 + 4 by omega]
  exact this
theorem Nb.lo {base g n cap t : Nat} {I1 I2 : List Value} {a0 a1 a2 a3 b0 b1 b2 b3 : Value} {W : World} (h : Nb base g n cap t I1 I2 [a0, a1, a2, a3, b0, b1, b2, b3] W) (u0 u1 u2 u3 : Value) :
    Nb base g n cap t I1 I2 [u0, u1, u2, u3, b0, b1, b2, b3] ((((W.setCell ⟨g, t * 4, none⟩ u0).setCell ⟨g, t * 4 + 1, none⟩ u1).setCell ⟨g, t * 4 + 2, none⟩ u2).setCell ⟨g, t * 4 + 3, none⟩ u3) :=
  (((h.set 0 u0 (by simp)).set 1 u1 (by simp)).set 2 u2 (by simp)).set 3 u3 (by simp)
theorem Nb.bel4 {base g n cap t : Nat} {I1 I2 M : List Value} {W : World} (h : Nb base g n cap t I1 I2 M W) (j0 j1 j2 j3 : Nat) (u0 u1 u2 u3 : Value) :
    Below base W ((((W.setCell ⟨g, j0, none⟩ u0).setCell ⟨g, j1, none⟩ u1).setCell ⟨g, j2, none⟩ u2).setCell ⟨g, j3, none⟩ u3) :=
  ((((Below.refl base W).setCell h.lt.1 _).setCell h.lt.1 _).setCell h.lt.1 _).setCell h.lt.1 _
set_option maxRecDepth 100000 in
set_option maxHeartbeats 8000000 in
/-- Insertion sort of the whole of a row. -/
theorem ins_any {w0 W : World} {base g n cap : Nat} {l : List Ck} (h : OwC w0 W base (.slice (some ⟨g, 0, none⟩) n cap) l) (hn : l.length = n) (hn1 : 1 ≤ n) (hc : n ≤ 1000) :
    Calls Tryz.prog 117 #[.slice (some ⟨g, 0, none⟩) n cap, .int .i64 0, .int .i64 n, .func (.func 71) #[] #[]] W (fun e W' => e = .returned (.tuple #[]) ∧ OwC w0 W' base (.slice (some ⟨g, 0, none⟩) n cap) (gT l 5) ∧ Below base W W') := by
  have HI0 : Hid (OwC w0 W base (.slice (some ⟨g, 0, none⟩) n cap) (gT (l.take 1) 5 ++ l.drop 1)) := hid (by
    match l, hn with
    | x :: l, _ => simpa [gT_one] using h
    | [], hn => exact absurd hn (by simp; omega))
  have HB0 := hid (Below.refl base W)
  have HN := hid hn
  have HL := hid hc
  clear h hn
  go_enter Tryz.func117, Tryz.ntmps117
  go_wp2_with fail
  go_loopw [8] (fun vi W' => ∃ i : Nat, vi = .int .i64 i ∧ 1 ≤ i ∧ i ≤ n ∧ Hid (OwC w0 W' base (.slice (some ⟨g, 0, none⟩) n cap) (gT (l.take i) 5 ++ l.drop i)) ∧ Hid (Below base W W')) (fun vi _ => n - (intOf vi).toNat)
  case atStart => exact ⟨1, rfl, by omega, hn1, HI0, HB0⟩
  case round =>
    obtain ⟨i, rfl, hi1, hi, hO, hB⟩ := hrel
    clear HI0 HB0 hc
    by_cases hlt : i < n
    · have hil : i < l.length := by have := HN.out; omega
      have hii : (i : Int) < (n : Int) := by omega
      have htk := List.take_succ_eq_append_getElem hil
      have hdr := List.drop_eq_getElem_cons hil
      obtain ⟨x, hx⟩ : ∃ x, l[i] = x := ⟨_, rfl⟩
      rw [hx] at htk hdr
      obtain ⟨L, R, hLR, hS, hL, hR⟩ := gT_snoc (l.take i) x
      rw [← htk] at hS
      obtain ⟨rest, hrest⟩ : ∃ r, l.drop (i + 1) = r := ⟨_, rfl⟩
      rw [hrest] at hdr
      have hO1 := hO.out
      rw [hdr, hLR] at hO1
      have hlen : L.length + R.length = i ∧ L.length + R.length + 1 + rest.length = n := by
        have h1 := congrArg List.length hLR
        have h2 := congrArg List.length hrest
        rw [gT_len i _ (by rw [List.length_take]; omega), List.length_append] at h1
        rw [List.length_drop, HN.out] at h2
        omega
      have HO1 := hid hO1
      have HS := hid hS
      have HRE := hid hrest
      have HLL := hid hL
      have HRR := hid hR
      have HLN := hid hlen
      have HWI := hid (show wrap64 ((i : Int) + 1) = ((i + 1 : Nat) : Int) by have := HL.out; unfold wrap64; omega)
      have HI1 : Hid (∃ R1 R2 : List Ck, i = L.length + R1.length ∧ R = R1 ++ R2 ∧ OwC w0 wr base (.slice (some ⟨g, 0, none⟩) n cap) (L ++ R1 ++ x :: (R2 ++ rest))) := hid ⟨R, [], hlen.1.symm, by simp, by simpa using hO1⟩
      clear hx htk hdr hLR hS hL hR hrest hO1 hlen hO hil
      go_wp2_with fail
      go_loopw [9] (fun vj W' => ∃ J : Nat, vj = .int .i64 J ∧ Hid (∃ R1 R2 : List Ck, J = L.length + R1.length ∧ R = R1 ++ R2 ∧ OwC w0 W' base (.slice (some ⟨g, 0, none⟩) n cap) (L ++ R1 ++ x :: (R2 ++ rest))) ∧ Hid (Below base W W')) (fun vj _ => (intOf vj).toNat)
      case atStart => exact ⟨i, rfl, HI1, hB⟩
      case round =>
        obtain ⟨J, rfl, hI, hB2⟩ := hrel
        clear HI1 hB
        obtain ⟨R1, R2, hJ, hR12, hown⟩ := hI.out
        have HBS := hid (show base ≤ wr.heap.size by
          obtain ⟨inner, ho, -⟩ := hown
          exact Nat.le_trans (own_base ho g rfl) (Nat.le_of_lt (own_lt ho g rfl)))
        rcases List.eq_nil_or_concat (L ++ R1) with h0 | ⟨P, y, hPy⟩
        · obtain ⟨rfl, rfl⟩ := List.append_eq_nil_iff.1 h0
          obtain rfl : J = 0 := hJ
          have HF := hid (show OwC w0 wr base (.slice (some ⟨g, 0, none⟩) n cap) (gT (l.take (i + 1)) 5 ++ l.drop (i + 1)) by
            rw [HS.out, HRE.out, hR12]
            simpa using hown)
          have hS0 : Below wr.heap.size wr wr.drew := below_drew (Below.refl _ _) 1
          clear hI hR12 hown h0
          go_upto_region 4 with fail
          refine start_ (n := 17) (S := (fun W => Below wr.heap.size wr W)) (ds := []) (bA 17 0) (by kernel_rfl) rfl rfl hS0 (fun hHeld => ?_)
          generalize wr.drew = w44 at hS0 hHeld ⊢
          refine pU 0 (some 18) (bA 17 1) rfl rfl ?_
          refine pU 1 (some 19) (bA 17 3) rfl rfl ?_
          refine pU 2 (some 20) (bA 17 7) rfl rfl ?_
          refine pU 3 (some 21) (bA 17 15) rfl rfl ?_
          refine pure_ (i := 4) (N := some 22) (v := undef) (a' := ?_) (bA 17 31) rfl rfl (by kernel_rfl) (fun _ _ _ h => h) (Or.inr ⟨by rfl, rfl⟩) ?_ ?_
          rotate_left
          · simp only [Act.put, sA, s0, sS, i64_w, i32_w]
            rfl
          refine pure_ (i := 5) (N := some 23) (v := undef) (a' := ?_) (bA 17 63) rfl rfl (by kernel_rfl) (fun _ _ _ h => h) (Or.inr ⟨by rfl, rfl⟩) ?_ ?_
          rotate_left
          · simp only [Act.put, sA, s0, sS, i64_w, i32_w]
            rfl
          refine pure_ (i := 6) (N := some 24) (v := undef) (a' := ?_) (bA 17 127) rfl rfl (by kernel_rfl) (fun _ _ _ h => h) (Or.inr ⟨by rfl, rfl⟩) ?_ ?_
          rotate_left
          · simp only [Act.put, sA, s0, sS, i64_w, i32_w]
            rfl
          refine pure_ (i := 7) (N := some 25) (v := undef) (a' := ?_) (bA 17 255) rfl rfl (by kernel_rfl) (fun _ _ _ h => h) (Or.inr ⟨by rfl, rfl⟩) ?_ ?_
          rotate_left
          · simp only [Act.put, sA, s0, sS, i64_w, i32_w]
            rfl
          refine pure_ (i := 9) (N := some 27) (v := undef) (a' := ?_) (bA 17 767) rfl rfl (by kernel_rfl) (fun _ _ _ h => h) (Or.inr ⟨by rfl, rfl⟩) ?_ ?_
          rotate_left
          · simp only [Act.put, sA, s0, sS, i64_w, i32_w]
            rfl
          refine pure_ (i := 10) (N := some 28) (v := undef) (a' := ?_) (bA 17 1791) rfl rfl (by kernel_rfl) (fun _ _ _ h => h) (Or.inr ⟨by rfl, rfl⟩) ?_ ?_
          rotate_left
          · simp only [Act.put, sA, s0, sS, i64_w, i32_w]
            rfl
          refine pure_ (i := 11) (N := some 29) (v := undef) (a' := ?_) (bA 17 3839) rfl rfl (by kernel_rfl) (fun _ _ _ h => h) (Or.inr ⟨by rfl, rfl⟩) ?_ ?_
          rotate_left
          · simp only [Act.put, sA, s0, sS, i64_w, i32_w]
            rfl
          refine pure_ (i := 12) (N := some 30) (v := undef) (a' := ?_) (bA 17 7935) rfl rfl (by kernel_rfl) (fun _ _ _ h => h) (Or.inr ⟨by rfl, rfl⟩) ?_ ?_
          rotate_left
          · simp only [Act.put, sA, s0, sS, i64_w, i32_w]
            rfl
          refine pure_ (i := 8) (N := some 26) (v := undef) (a' := ?_) (bA 17 8191) rfl rfl (by kernel_rfl) (fun _ _ _ h => h) (Or.inr ⟨by rfl, rfl⟩) ?_ ?_
          rotate_left
          · simp only [Act.put, sA, s0, sS, i64_w, i32_w]
            rfl
          refine pure_ (i := 13) (N := some 31) (v := undef) (a' := ?_) (bA 17 16383) rfl rfl (by kernel_rfl) (fun _ _ _ h => h) (Or.inr ⟨by rfl, rfl⟩) ?_ ?_
          rotate_left
          · simp only [Act.put, sA, s0, sS, i64_w, i32_w]
            rfl
          refine pure_ (i := 14) (N := some 32) (v := undef) (a' := ?_) (bA 17 32767) rfl rfl (by kernel_rfl) (fun _ _ _ h => h) (Or.inr ⟨by rfl, rfl⟩) ?_ ?_
          rotate_left
          · simp only [Act.put, sA, s0, sS, i64_w, i32_w]
            rfl
          refine pure_ (i := 15) (N := some 33) (v := undef) (a' := ?_) (bA 17 65535) rfl rfl (by kernel_rfl) (fun _ _ _ h => h) (Or.inr ⟨by rfl, rfl⟩) ?_ ?_
          rotate_left
          · simp only [Act.put, sA, s0, sS, i64_w, i32_w]
            rfl
          refine pU 16 (some 34) (bA 17 131071) rfl rfl ?_
          refine done_ (by kernel_rfl) ?_
          have HB5 := hid hS0
          clear hS0 hHeld
          go_wp2_with fail
          exact ⟨⟨i + 1, by rw [HWI.out], by omega, hlt, hid (OwnRow.below HF.out HB5.out), hid (hB2.out.trans (HB5.out.mono HBS.out))⟩, by rw [HWI.out]; simp only [intOf, Int.toNat_natCast]; omega⟩
        · rw [List.concat_eq_append] at hPy
          obtain ⟨t, ht⟩ : ∃ t, P.length = t := ⟨_, rfl⟩
          have hJt : J = t + 1 := by
            have h := congrArg List.length hPy
            simp only [List.length_append, List.length_cons, List.length_nil] at h
            omega
          have hnn : (P ++ y :: x :: (R2 ++ rest)).length = n := by
            have h := HLN.out
            have h2 := congrArg List.length hPy
            rw [hR12] at h
            simp only [List.length_append, List.length_cons, List.length_nil] at h h2 ⊢
            omega
          have htn : t + 1 < n := by
            simp only [List.length_append, List.length_cons] at hnn
            omega
          rw [hPy, List.append_assoc] at hown
          change OwC w0 wr base (.slice (some ⟨g, 0, none⟩) n cap) (P ++ y :: x :: (R2 ++ rest)) at hown
          have HOW := hid hown
          have HNN := hid hnn
          obtain ⟨I1, I2, A1, A2, B1, B2, m1, m2, d1, d2, n1, n2, e1, e2, hnb, -⟩ := nb_open hown hnn
          rw [ht] at hnb
          obtain ⟨⟨y0, y1, y2, y3⟩, x0, x1, x2, x3⟩ := Nb.eight hJt hnb
          have hS0 : Below wr.heap.size wr wr.drew ∧ (wr.drew.cell? ⟨g, t * 4, none⟩ = some (.int .u8 y.f0) ∧ wr.drew.cell? ⟨g, t * 4 + 1, none⟩ = some (.int .u8 y.f1) ∧ wr.drew.cell? ⟨g, t * 4 + 2, none⟩ = some (.slice A1 m1 d1) ∧ wr.drew.cell? ⟨g, t * 4 + 3, none⟩ = some (.slice A2 m2 d2)) ∧ wr.drew.cell? ⟨g, J * 4, none⟩ = some (.int .u8 x.f0) ∧ wr.drew.cell? ⟨g, J * 4 + 1, none⟩ = some (.int .u8 x.f1) ∧ wr.drew.cell? ⟨g, J * 4 + 2, none⟩ = some (.slice B1 n1 e1) ∧ wr.drew.cell? ⟨g, J * 4 + 3, none⟩ = some (.slice B2 n2 e2) := ⟨below_drew (Below.refl _ _) 1, ⟨y0, y1, y2, y3⟩, x0, x1, x2, x3⟩
          obtain ⟨s, hs⟩ : ∃ s, sgn (rkT x.f0) (rkT y.f0) = s := ⟨_, rfl⟩
          have HX := hid (fun W => sort1_any x y B1 B2 A1 A2 n1 n2 e1 e2 m1 m2 d1 d2 W)
          rw [hs] at HX
          have HSG := hid hs
          have HWJ := hid (show wrap64 ((J : Int) - 1) = (t : Int) by have := HL.out; unfold wrap64; omega)
          have htp : (0 : Int) < (J : Int) := by omega
          have htn1 : (t : Int) < (n : Int) := by omega
          have htn2 : (J : Int) < (n : Int) := by omega
          have htn3 : t < n := by omega
          have htp2 : 0 < J := by omega
          have htn4 : J < n := by omega
          have HPY := hid hPy
          have HR12 := hid hR12
          have HTT := hid ht
          have HJT := hid hJt
          clear hI hJ hR12 hown hnn hPy hnb x0 x1 x2 x3 y0 y1 y2 y3 hs ht hJt
          go_upto_region 4 with fail
          refine start_ (n := 17) (S := (fun W => Below wr.heap.size wr W ∧ (W.cell? ⟨g, t * 4, none⟩ = some (.int .u8 y.f0) ∧ W.cell? ⟨g, t * 4 + 1, none⟩ = some (.int .u8 y.f1) ∧ W.cell? ⟨g, t * 4 + 2, none⟩ = some (.slice A1 m1 d1) ∧ W.cell? ⟨g, t * 4 + 3, none⟩ = some (.slice A2 m2 d2)) ∧ W.cell? ⟨g, J * 4, none⟩ = some (.int .u8 x.f0) ∧ W.cell? ⟨g, J * 4 + 1, none⟩ = some (.int .u8 x.f1) ∧ W.cell? ⟨g, J * 4 + 2, none⟩ = some (.slice B1 n1 e1) ∧ W.cell? ⟨g, J * 4 + 3, none⟩ = some (.slice B2 n2 e2))) (ds := [14]) (bA 17 0) (by kernel_rfl) rfl rfl hS0 (fun hHeld => ?_)
          generalize wr.drew = w44 at hS0 hHeld ⊢
          refine pU 0 (some 18) (bA 17 1) rfl rfl ?_
          refine pU 1 (some 19) (bA 17 3) rfl rfl ?_
          refine pU 2 (some 20) (bA 17 7) rfl rfl ?_
          refine pU 3 (some 21) (bA 17 15) rfl rfl ?_
          refine pU 4 (some 22) (bA 17 31) rfl rfl ?_
          refine pU 5 (some 23) (bA 17 63) rfl rfl ?_
          refine pU 6 (some 24) (bA 17 127) rfl rfl ?_
          refine pU 7 (some 25) (bA 17 255) rfl rfl ?_
          refine pU 9 (some 27) (bA 17 767) rfl rfl ?_
          refine pU 10 (some 28) (bA 17 1791) rfl rfl ?_
          refine pure_ (i := 11) (N := some 29) (v := ?_) (a' := ?_) (bA 17 3839) rfl rfl (by kernel_rfl) (fun _ _ _ h => h) (Or.inl ⟨by rfl, ?_⟩) ?_ ?_
          rotate_left
          · intro w'
            go_simp
            with_reducible rfl
          rotate_left
          · simp only [Act.put, List.setIfInBounds_toArray, List.set_cons_zero, List.set_cons_succ, i64_w, i32_w, HWJ.out]
            rfl
          refine pU 12 (some 30) (bA 17 7935) rfl rfl ?_
          refine tU 8 (some 26) (bA 17 8191) rfl rfl hHeld (by rintro w' ⟨q0, ⟨q1, q2, q3, q4⟩, q5, q6, q7, q8⟩; go_simp; with_reducible rfl) ?_
          refine tU 13 (some 31) (bA 17 16383) rfl rfl hHeld (by rintro w' ⟨q0, ⟨q1, q2, q3, q4⟩, q5, q6, q7, q8⟩; go_simp; with_reducible rfl) ?_
          refine last_ (i := 14) (N := some 32) (bA 17 32767) rfl rfl (by kernel_rfl) (by decide) (fun KK hK => ?_)
          refine goesV_ Tryz.func71 (by kernel_rfl) rfl #[.agg #[.int .u8 x.f0, .int .u8 x.f1, .slice B1 n1 e1, .slice B2 n2 e2], .agg #[.int .u8 y.f0, .int .u8 y.f1, .slice A1 m1 d1, .slice A2 m2 d2]] (by rfl) rfl rfl (by rfl) (by simp only [List.map_toArray, List.map_cons, List.map_nil]; rfl) ?_
          refine Calls.mono (HX.out _) ?_
          rintro e5 W5 ⟨rfl, hb5⟩
          refine ⟨_, rfl, ?_⟩
          have HB5 := hid (cthen hHeld.1 hb5)
          clear hb5
          refine hK.out _ _ ?_
          clear hK KK
          refine nU ?_
          refine pU 15 (some 33) (bA 17 65535) rfl rfl ?_
          refine pU 16 (some 34) (bA 17 131071) rfl rfl ?_
          refine done_ (by kernel_rfl) ?_
          clear hS0 hHeld
          by_cases hs0 : s < 0
          · have hxy : rkT x.f0 < rkT y.f0 := (sgn_neg _ _).1 (by rw [HSG.out]; exact hs0)
            have hR1 : ∃ R1', R1 = R1' ++ [y] ∧ P = L ++ R1' := by
              rcases List.eq_nil_or_concat R1 with rfl | ⟨R1', z, rfl⟩
              · have h := HPY.out
                rw [List.append_nil] at h
                have := HLL.out y (by rw [h]; simp)
                omega
              · have h := HPY.out
                rw [List.concat_eq_append, ← List.append_assoc] at h
                obtain ⟨h1, h2⟩ := List.append_inj' h rfl
                injection h2 with h2
                exact ⟨R1', by rw [List.concat_eq_append, h2], h1.symm⟩
            obtain ⟨R1', hR1a, hR1b⟩ := hR1
            have HRA := hid hR1a
            have HRB := hid hR1b
            obtain ⟨I1, I2, A1, A2, B1, B2, m1, m2, d1, d2, n1, n2, e1, e2, hnb, hcl⟩ := nb_open (OwnRow.below HOW.out HB5.out) HNN.out
            rw [HTT.out] at hnb hcl
            have HCL := hid hcl
            obtain ⟨⟨y0, y1, y2, y3⟩, x0, x1, x2, x3⟩ := Nb.eight HJT.out hnb
            have HBD := hid (show Below base W5 W5.drew from (below_drew (Below.refl _ _) 1).mono (Nat.le_trans HBS.out HB5.out.size))
            have hS0 : Nb base g n cap t I1 I2 [.int .u8 y.f0, .int .u8 y.f1, .slice A1 m1 d1, .slice A2 m2 d2, .int .u8 x.f0, .int .u8 x.f1, .slice B1 n1 e1, .slice B2 n2 e2] W5.drew ∧ ((W5.drew.cell? ⟨g, t * 4, none⟩ = some (.int .u8 y.f0) ∧ W5.drew.cell? ⟨g, t * 4 + 1, none⟩ = some (.int .u8 y.f1) ∧ W5.drew.cell? ⟨g, t * 4 + 2, none⟩ = some (.slice A1 m1 d1) ∧ W5.drew.cell? ⟨g, t * 4 + 3, none⟩ = some (.slice A2 m2 d2)) ∧ W5.drew.cell? ⟨g, J * 4, none⟩ = some (.int .u8 x.f0) ∧ W5.drew.cell? ⟨g, J * 4 + 1, none⟩ = some (.int .u8 x.f1) ∧ W5.drew.cell? ⟨g, J * 4 + 2, none⟩ = some (.slice B1 n1 e1) ∧ W5.drew.cell? ⟨g, J * 4 + 3, none⟩ = some (.slice B2 n2 e2)) := ⟨⟨hnb.own, hnb.len⟩, ⟨y0, y1, y2, y3⟩, x0, x1, x2, x3⟩
            clear hxy hR1a hR1b hnb hcl y0 y1 y2 y3 x0 x1 x2 x3 HX HSG
            go_upto_region 6 with fail
            clear hs0
            refine start_ (n := 18) (S := (fun W => Nb base g n cap t I1 I2 [.int .u8 y.f0, .int .u8 y.f1, .slice A1 m1 d1, .slice A2 m2 d2, .int .u8 x.f0, .int .u8 x.f1, .slice B1 n1 e1, .slice B2 n2 e2] W ∧ ((W.cell? ⟨g, t * 4, none⟩ = some (.int .u8 y.f0) ∧ W.cell? ⟨g, t * 4 + 1, none⟩ = some (.int .u8 y.f1) ∧ W.cell? ⟨g, t * 4 + 2, none⟩ = some (.slice A1 m1 d1) ∧ W.cell? ⟨g, t * 4 + 3, none⟩ = some (.slice A2 m2 d2)) ∧ W.cell? ⟨g, J * 4, none⟩ = some (.int .u8 x.f0) ∧ W.cell? ⟨g, J * 4 + 1, none⟩ = some (.int .u8 x.f1) ∧ W.cell? ⟨g, J * 4 + 2, none⟩ = some (.slice B1 n1 e1) ∧ W.cell? ⟨g, J * 4 + 3, none⟩ = some (.slice B2 n2 e2)))) (ds := [15, 17]) (bA 18 0) (by kernel_rfl) rfl rfl hS0 (fun hHeld => ?_)
            generalize W5.drew = w44 at HBD hS0 hHeld ⊢
            refine pU 0 (some 37) (bA 18 1) rfl rfl ?_
            refine pU 1 (some 38) (bA 18 3) rfl rfl ?_
            refine pU 2 (some 39) (bA 18 7) rfl rfl ?_
            refine pU 3 (some 40) (bA 18 15) rfl rfl ?_
            refine pure_ (i := 4) (N := some 41) (v := ?_) (a' := ?_) (bA 18 31) rfl rfl (by kernel_rfl) (fun _ _ _ h => h) (Or.inl ⟨by rfl, ?_⟩) ?_ ?_
            rotate_left
            · intro w'
              go_simp
              with_reducible rfl
            rotate_left
            · simp only [Act.put, List.setIfInBounds_toArray, List.set_cons_zero, List.set_cons_succ, i64_w, i32_w, HWJ.out]
              rfl
            refine pU 5 (some 42) (bA 18 63) rfl rfl ?_
            refine pU 6 (some 43) (bA 18 127) rfl rfl ?_
            refine pure_ (i := 7) (N := some 44) (v := ?_) (a' := ?_) (bA 18 255) rfl rfl (by kernel_rfl) (fun _ _ _ h => h) (Or.inl ⟨by rfl, ?_⟩) ?_ ?_
            rotate_left
            · intro w'
              go_simp
              with_reducible rfl
            rotate_left
            · simp only [Act.put, List.setIfInBounds_toArray, List.set_cons_zero, List.set_cons_succ, i64_w, i32_w, HWJ.out]
              rfl
            refine pU 8 (some 45) (bA 18 511) rfl rfl ?_
            refine pU 10 (some 47) (bA 18 1535) rfl rfl ?_
            refine pU 11 (some 48) (bA 18 3583) rfl rfl ?_
            refine pU 12 (some 49) (bA 18 7679) rfl rfl ?_
            refine tU 9 (some 46) (bA 18 8191) rfl rfl hHeld (by rintro w' ⟨q0, ⟨q1, q2, q3, q4⟩, q5, q6, q7, q8⟩; go_simp; with_reducible rfl) ?_
            refine tU 13 (some 50) (bA 18 16383) rfl rfl hHeld (by rintro w' ⟨q0, ⟨q1, q2, q3, q4⟩, q5, q6, q7, q8⟩; go_simp; with_reducible rfl) ?_
            refine pU 14 (some 51) (bA 18 32767) rfl rfl ?_
            refine last_ (i := 15) (N := none) (bA 18 65535) rfl rfl (by kernel_rfl) (by decide) (fun KK hK => ?_)
            have hf := hHeld.1.frozen
            have HNB1 := hid (Nb.hi HJT.out hHeld.1 (.int .u8 y.f0) (.int .u8 y.f1) (.slice A1 m1 d1) (.slice A2 m2 d2))
            have HBL1 := hid (hHeld.1.bel4 (J * 4) (J * 4 + 1) (J * 4 + 2) (J * 4 + 3) (.int .u8 y.f0) (.int .u8 y.f1) (.slice A1 m1 d1) (.slice A2 m2 d2))
            obtain ⟨-, ⟨y0, y1, y2, y3⟩, x0, x1, x2, x3⟩ := hHeld
            refine skip_ (w1 := ((((w44.setCell ⟨g, J * 4, none⟩ (.int .u8 y.f0)).setCell ⟨g, J * 4 + 1, none⟩ (.int .u8 y.f1)).setCell ⟨g, J * 4 + 2, none⟩ (.slice A1 m1 d1)).setCell ⟨g, J * 4 + 3, none⟩ (.slice A2 m2 d2))) (by rfl) rfl (by go_simp; done) ?_
            refine hK.out _ _ ?_
            clear y0 y1 y2 y3 x0 x1 x2 x3 hf hS0
            generalize ((((w44.setCell ⟨g, J * 4, none⟩ (.int .u8 y.f0)).setCell ⟨g, J * 4 + 1, none⟩ (.int .u8 y.f1)).setCell ⟨g, J * 4 + 2, none⟩ (.slice A1 m1 d1)).setCell ⟨g, J * 4 + 3, none⟩ (.slice A2 m2 d2)) = w45 at HNB1 HBL1 ⊢
            clear hK KK
            refine pU 16 (some 52) (bA 18 131071) rfl rfl ?_
            refine last_ (i := 17) (N := none) (bA 18 262143) rfl rfl (by kernel_rfl) (by decide) (fun KK hK => ?_)
            have hf := HNB1.out.frozen
            have HNB2 := hid (Nb.lo HNB1.out (.int .u8 x.f0) (.int .u8 x.f1) (.slice B1 n1 e1) (.slice B2 n2 e2))
            have HBL2 := hid (HNB1.out.bel4 (t * 4) (t * 4 + 1) (t * 4 + 2) (t * 4 + 3) (.int .u8 x.f0) (.int .u8 x.f1) (.slice B1 n1 e1) (.slice B2 n2 e2))
            obtain ⟨⟨y0, y1, y2, y3⟩, x0, x1, x2, x3⟩ := Nb.eight HJT.out HNB1.out
            refine skip_ (w1 := ((((w45.setCell ⟨g, t * 4, none⟩ (.int .u8 x.f0)).setCell ⟨g, t * 4 + 1, none⟩ (.int .u8 x.f1)).setCell ⟨g, t * 4 + 2, none⟩ (.slice B1 n1 e1)).setCell ⟨g, t * 4 + 3, none⟩ (.slice B2 n2 e2))) (by rfl) rfl (by go_simp; done) ?_
            refine hK.out _ _ ?_
            clear y0 y1 y2 y3 x0 x1 x2 x3 hf
            generalize ((((w45.setCell ⟨g, t * 4, none⟩ (.int .u8 x.f0)).setCell ⟨g, t * 4 + 1, none⟩ (.int .u8 x.f1)).setCell ⟨g, t * 4 + 2, none⟩ (.slice B1 n1 e1)).setCell ⟨g, t * 4 + 3, none⟩ (.slice B2 n2 e2)) = w46 at HNB2 HBL2 ⊢
            clear hK KK
            refine done_ (by kernel_rfl) ?_
            have HFIN := hid (HCL.out w46 HNB2.out)
            have HBF := hid (((HB5.out.mono HBS.out).trans HBD.out).trans (HBL1.out.trans HBL2.out))
            go_wp2_with fail
            exact ⟨⟨t, by rw [HWJ.out], hid ⟨R1', y :: R2, by rw [← HTT.out, HRB.out, List.length_append], by rw [HR12.out, HRA.out]; simp, by rw [← HRB.out]; exact HFIN.out⟩, hid (hB2.out.trans HBF.out)⟩, by rw [HWJ.out]; simp only [intOf, Int.toNat_natCast]; have := HJT.out; omega⟩
          · have hxy : ¬ rkT x.f0 < rkT y.f0 := fun h => hs0 (by rw [← HSG.out]; exact (sgn_neg _ _).2 h)
            have HF := hid (show OwC w0 W5 base (.slice (some ⟨g, 0, none⟩) n cap) (gT (l.take (i + 1)) 5 ++ l.drop (i + 1)) by
              have hR0 : R1 = [] := by
                rcases List.eq_nil_or_concat R1 with h | ⟨R1', z, h⟩
                · exact h
                · refine absurd ?_ hxy
                  have h2 := HPY.out
                  rw [h, List.concat_eq_append, ← List.append_assoc] at h2
                  obtain ⟨-, h2⟩ := List.append_inj' h2 rfl
                  injection h2 with h2
                  exact HRR.out y (by rw [HR12.out, h, List.concat_eq_append, h2]; simp)
              have h := OwnRow.below HOW.out HB5.out
              have h2 := HPY.out
              rw [hR0, List.append_nil] at h2
              have h3 := HR12.out
              rw [hR0, List.nil_append] at h3
              rw [HS.out, HRE.out, h2, h3]
              simpa using h)
            clear hxy HX HSG
            go_wp2_with fail
            exact ⟨⟨i + 1, by rw [HWI.out], by omega, hlt, hid HF.out, hid (hB2.out.trans (HB5.out.mono HBS.out))⟩, by rw [HWI.out]; simp only [intOf, Int.toNat_natCast]; omega⟩
    · obtain rfl : n = i := by omega
      go_wp2_with fail
      go_end0
      refine ⟨rfl, ?_, hB.out⟩
      have h := hO.out
      rwa [List.take_of_length_le (by have := HN.out; omega), List.drop_of_length_le (by have := HN.out; omega), List.append_nil] at h
end Bn
end Go.Proofs.YtmfmomfhiieilaaGreatDoor
/- Chunks copied and sorted: 'slices.stableCmpFunc', 'slices.SortStableFunc', 'slices.Clone' of chunks, 'legal.Sort'. -/
set_option linter.unusedVariables false
set_option linter.unusedSimpArgs false
namespace Go.Proofs.YtmfmomfhiieilaaGreatDoor
open Go.RowKit Go.Shelf Go.Proofs.YtmfmomfhiieilaaGreatDoor.It Go.Proofs.YtmfmomfhiieilaaGreatDoorW.PrintWords Go.Proofs.YtmfmomfhiieilaaGreatDoorW.PrintLast Go.Proofs.YtmfmomfhiieilaaGreatDoorW.PrintMore
namespace Bn
open PBundleSorted
set_option maxRecDepth 100000 in
set_option maxHeartbeats 2000000 in
/-- Nothing to insert. -/
theorem ins_none (v f : Value) (a b : Nat) (hab : b ≤ a + 1) (ha : a ≤ 1000) (w : World) :
    Calls Tryz.prog 117 #[v, .int .i64 a, .int .i64 b, f] w (fun e W' => e = .returned (.tuple #[]) ∧ W' = w) := by
  have HWI := hid (show wrap64 ((a : Int) + 1) = ((a + 1 : Nat) : Int) by unfold wrap64; omega)
  have HAB := hid hab
  clear hab ha
  go_enter Tryz.func117, Tryz.ntmps117
  go_wp2_with fail
  go_loopw [8] (fun vi W' => vi = .int .i64 ((a + 1 : Nat) : Int) ∧ W' = w) (fun vi _ => 0)
  case atStart => exact ⟨by rw [HWI.out], rfl⟩
  case round =>
    obtain ⟨rfl, rfl⟩ := hrel
    have hn : ¬ ((a + 1 : Nat) : Int) < (b : Int) := by have := HAB.out; omega
    have hn2 : ¬ (a + 1) < b := by have := HAB.out; omega
    have hn3 : ¬ (a : Int) + 1 < (b : Int) := by have := HAB.out; omega
    go_wp2_with fail
    go_end0
    exact ⟨rfl, rfl⟩
theorem owc_block {w0 W : World} {base n cap : Nat} {A : Option Addr} {l : List Ck} (h : OwC w0 W base (.slice A n cap) l) (hn : 0 < l.length) : ∃ g, A = some ⟨g, 0, none⟩ := by
  obtain ⟨inn, ho, -⟩ := h
  rcases ho.2 with ⟨-, h0⟩ | ⟨g1, cap, cur, he, -⟩
  · omega
  · injection he with he _ _
    exact ⟨g1, he⟩
/-- A row of at most one stretch, sorted whole. -/
theorem ins_all {w0 W : World} {base n cap : Nat} {A : Option Addr} {l : List Ck} (h : OwC w0 W base (.slice A n cap) l) (hn : l.length = n) (hc : n ≤ 1000) :
    Calls Tryz.prog 117 #[.slice A n cap, .int .i64 0, .int .i64 n, .func (.func 71) #[] #[]] W (fun e W' => e = .returned (.tuple #[]) ∧ OwC w0 W' base (.slice A n cap) (gT l 5) ∧ Below base W W') := by
  rcases Nat.eq_zero_or_pos n with h0 | h0
  · subst h0
    obtain rfl := List.eq_nil_of_length_eq_zero hn
    refine (ins_none (.slice A 0 cap) (.func (.func 71) #[] #[]) 0 0 (by omega) (by omega) W).mono ?_
    rintro e W' ⟨rfl, rfl⟩
    exact ⟨rfl, h, Below.refl _ _⟩
  · obtain ⟨g, rfl⟩ := owc_block h (by omega)
    exact ins_any h hn h0 hc
set_option maxRecDepth 100000 in
set_option maxHeartbeats 4000000 in
/-- 'slices.stableCmpFunc' of at most twenty chunks. -/
theorem stable_any {w0 w : World} {base n cap : Nat} {A : Option Addr} {l : List Ck} (h : OwC w0 w base (.slice A n cap) l) (hn : l.length = n) (hc : n ≤ 20) :
    Calls Tryz.prog 95 #[.slice A n cap, .int .i64 n, .func (.func 71) #[] #[]] w (fun e W' => e = .returned (.tuple #[]) ∧ OwC w0 W' base (.slice A n cap) (gT l 5) ∧ Below base w W') := by
  have HI := hid (ins_all h hn (by omega))
  clear h hn
  by_cases h20 : n = 20
  · have HN3 := hid (fun W => ins_none (.slice A n cap) (.func (.func 71) #[] #[]) 20 n (by omega) (by omega) W)
    have q1 : 20 ≤ n := by omega
    have q2 : (20 : Int) ≤ (n : Int) := by omega
    have q3 : ¬ 40 ≤ n := by omega
    have q4 : ¬ (40 : Int) ≤ (n : Int) := by omega
    have q5 : ¬ 20 < n := by omega
    have q6 : ¬ (20 : Int) < (n : Int) := by omega
    have HI2 := hid (fun (e : Nat) (he : e = 20) => show Calls Tryz.prog 117 #[.slice A n cap, .int .i64 0, .int .i64 (e : Int), .func (.func 71) #[] #[]] w (fun e W' => e = .returned (.tuple #[]) ∧ OwC w0 W' base (.slice A n cap) (gT l 5) ∧ Below base w W') by subst he; subst h20; exact HI.out)
    clear h20 hc
    go_enter Tryz.func95, Tryz.ntmps95
    go_wp2_with fail
    go_loopw [7, 8] (fun va vb W => ∃ a b : Nat, va = .int .i64 a ∧ vb = .int .i64 b ∧ Hid ((a = 0 ∧ b = 20 ∧ W = w) ∨ (a = 20 ∧ b = 40 ∧ OwC w0 W base (.slice A n cap) (gT l 5) ∧ Below base w W))) (fun _ vb _ => 60 - (intOf vb).toNat)
    case atStart => exact ⟨0, 20, rfl, rfl, hid (.inl ⟨rfl, rfl, rfl⟩)⟩
    case round =>
      obtain ⟨a, b, rfl, rfl, hz⟩ := hrel
      rcases hz.out with ⟨rfl, rfl, rfl⟩ | ⟨rfl, rfl, hF⟩
      · clear hz
        have hi := HI2.out 20 rfl
        go_wp2_with fail
        refine hi.mono ?_
        rintro e W2 ⟨rfl, ho, hb⟩
        have HF := hid (show OwC w0 W2 base (.slice A n cap) (gT l 5) ∧ Below base wr W2 from ⟨ho, hb⟩)
        clear hi ho hb
        go_wp2_with fail
        exact ⟨⟨20, 40, rfl, rfl, hid (.inr ⟨rfl, rfl, HF.out⟩)⟩, by simp [intOf]⟩
      · clear hz
        have hF := hid hF
        have hi := HN3.out wr
        go_wp2_with fail
        refine hi.mono ?_
        rintro e W2 ⟨rfl, rfl⟩
        clear hi
        go_wp2_with fail
        go_loopw [6] (fun v W => v = .int .i64 20 ∧ W = W2) (fun _ _ => 0)
        case atStart => exact ⟨rfl, rfl⟩
        case round =>
          obtain ⟨rfl, rfl⟩ := hrel
          go_wp2_with fail
          go_end0
          exact ⟨rfl, hF.out⟩
  · have hlt : (n : Int) < 20 := by omega
    have hlt2 : n < 20 := by omega
    have hlt3 : ¬ 20 ≤ n := by omega
    have hlt4 : ¬ 20 < n := by omega
    have hlt5 : ¬ (20 : Int) ≤ (n : Int) := by omega
    have hlt6 : ¬ (20 : Int) < (n : Int) := by omega
    go_enter Tryz.func95, Tryz.ntmps95
    go_wp2_with fail
    go_loopw [7, 8] (fun va vb W => va = .int .i64 0 ∧ vb = .int .i64 20 ∧ W = w) (fun _ _ _ => 0)
    case atStart => exact ⟨rfl, rfl, rfl⟩
    case round =>
      obtain ⟨rfl, rfl, rfl⟩ := hrel
      have hi := HI.out
      go_wp2_with fail
      refine hi.mono ?_
      rintro e W2 ⟨rfl, ho, hb⟩
      have HF := hid (show OwC w0 W2 base (.slice A n cap) (gT l 5) ∧ Below base wr W2 from ⟨ho, hb⟩)
      clear hi ho hb
      go_wp2_with fail
      go_loopw [6] (fun v W => v = .int .i64 20 ∧ W = W2) (fun _ _ => 0)
      case atStart => exact ⟨rfl, rfl⟩
      case round =>
        obtain ⟨rfl, rfl⟩ := hrel
        go_wp2_with fail
        go_end0
        exact ⟨rfl, HF.out⟩
set_option maxRecDepth 100000 in
set_option maxHeartbeats 2000000 in
/-- 'slices.SortStableFunc' of at most twenty chunks. -/
theorem sstable_any {w0 w : World} {base n cap : Nat} {A : Option Addr} {l : List Ck} (h : OwC w0 w base (.slice A n cap) l) (hn : l.length = n) (hc : n ≤ 20) :
    Calls Tryz.prog 70 #[.slice A n cap, .func (.func 71) #[] #[]] w (fun e W' => e = .returned (.tuple #[]) ∧ OwC w0 W' base (.slice A n cap) (gT l 5) ∧ Below base w W') := by
  have hi := stable_any h hn hc
  clear h hn hc
  go_enter Tryz.func70, Tryz.ntmps70
  go_wp2_with fail
  refine hi.mono ?_
  rintro e W2 ⟨rfl, ho, hb⟩
  have HF := hid (show OwC w0 W2 base (.slice A n cap) (gT l 5) ∧ Below base w W2 from ⟨ho, hb⟩)
  clear hi ho hb
  go_wp2_with fail
  go_end0
  exact ⟨rfl, HF.out⟩
end Bn
end Go.Proofs.YtmfmomfhiieilaaGreatDoor
/- Chunks copied: 'slices.Clone' of chunks; 'legal.Sort'. -/
set_option linter.unusedVariables false
set_option linter.unusedSimpArgs false
namespace Go.Proofs.YtmfmomfhiieilaaGreatDoor
open Go.RowKit Go.Shelf Go.Proofs.YtmfmomfhiieilaaGreatDoor.It Go.Proofs.YtmfmomfhiieilaaGreatDoorW.PrintWords Go.Proofs.YtmfmomfhiieilaaGreatDoorW.PrintLast Go.Proofs.YtmfmomfhiieilaaGreatDoorW.PrintMore
namespace Bn
open PBundleSorted
/-- append(v, xs...): xs is only read. -/
theorem own_rows {α : Type} (dd : Kd α) {P : Program} {ops : Array Oper} {rest : List Oper} {o : Oper} {a : Act} {Q : Exit → Act → World → Prop} {w0 w1 W : World} (base : Nat) (hgd : o.guard = none) (s x : Operand) (t e : TypeId) (z : Value) (bytes : Nat)
    (ho : o.op = .call { callee := .builtin .append, args := #[s, x], argTypes := #[t, t] })
    (ht : P.underlying t = some (.slice e)) (hinfo : (P.info? e).map (fun i => (i.zero, i.size, i.bytes)) = some (some z, dd.sz, bytes)) (hz : z.cells.size = dd.sz) (hs0 : 0 < dd.sz) (hb0 : 0 < bytes)
    (v : Value) (xs ys : List α) (A : Option Addr) (m c : Nat) (hs : a.eval s = v) (hx : a.eval x = .slice A m c)
    (HO : OwnRow (dd.K w0) e dd.sz W base v xs) (HR : ReadsRow (dd.K w0) dd.sz W A m ys)
    (HB : Below base w1 W) (hbase : base ≤ W.heap.size) (hl : (xs.length + m) * bytes ≤ 140737488355328)
    (h : ∀ v1 w2, OwnRow (dd.K w0) e dd.sz w2 base v1 (xs ++ ys) → Below base w1 w2 → W.grownBy w2 v.ownBlock → wpList P ops Q rest (a.put o.dst v1) w2) :
    wpList P ops Q (o :: rest) a W := by
  obtain ⟨i0, hi, hzz⟩ := Option.map_eq_some_iff.1 hinfo
  simp only [Prod.mk.injEq] at hzz
  obtain ⟨hz0, hz1, hz2⟩ := hzz
  have hm : ys.length = m := HR.1
  have hlen : xs.length + m ≤ 140737488355328 := Nat.le_trans (Nat.le_mul_of_pos_right _ hb0) hl
  obtain ⟨inner, hown, hr⟩ := HO
  have hrun : ∃ v1 w2, (Builtin.append_ #[t, t] o.type #[v, .slice A m c]).run P W = .ok v1 w2 ∧ OwnRow (dd.K w0) e dd.sz w2 base v1 (xs ++ ys) ∧ W.grownBy w2 v.ownBlock := by
    rcases A with _ | ad
    · have h0 : m = 0 := by
        rcases Nat.eq_zero_or_pos m with h0 | h0
        · exact h0
        · obtain ⟨ad, h, _⟩ := HR.2.2 h0
          cases h
      subst h0
      obtain rfl : ys = [] := List.eq_nil_of_length_eq_zero hm
      refine ⟨v, W, ?_, by rw [List.append_nil]; exact ⟨inner, hown, hr⟩, World.grownBy.refl W _⟩
      rcases hown.2 with ⟨rfl, hn⟩ | ⟨g, cap, cur, rfl, _, _, hnc, _⟩
      · simp [Builtin.append_, run_underlying ht, sizeOf, typeInfo, hi, Builtin.lenOf, Builtin.firstCells]
      · simp [Builtin.append_, run_underlying ht, sizeOf, typeInfo, hi, Builtin.lenOf, Builtin.firstCells, hnc, storeCells]
    · obtain ⟨news, hnr, hnc⟩ := ReadsRow.inner_ HR
      have hone : ∀ u ∈ news, u.oneCell' = true := by
        intro u hu
        obtain ⟨q, hq, rfl⟩ := List.mem_iff_getElem.1 hu
        have hql : q / dd.sz < ys.length := by
          rw [Nat.div_lt_iff_lt_mul hs0]
          rw [← hnr.1]
          exact hq
        have hc := hnr.2 (q / dd.sz) _ (List.getElem?_eq_getElem hql)
        refine dd.K_one hc _ ?_
        rw [List.mem_iff_getElem?]
        refine ⟨q % dd.sz, ?_⟩
        rw [List.getElem?_take, if_pos (Nat.mod_lt _ hs0), List.getElem?_drop, Nat.mul_comm, Nat.div_add_mod, List.getElem?_eq_getElem hq]
      obtain ⟨v1, w2, hrun, h2, hg, _, hat⟩ := run_append_own_at (P := P) W base t o.type e i0 z dd.sz bytes ht hi hz0 hz1 hz2 hz hs0 v xs.length inner hown ad m c news (by rw [hnr.1, hm]) hnc hone (by simp only [maxLen]; omega) hl hbase
      exact ⟨v1, w2, hrun, ⟨inner ++ news, by rw [List.length_append, hm]; exact h2, Kd.reps_append hr hnr⟩, hg⟩
  obtain ⟨v1, w2, hrun, hro, hg⟩ := hrun
  refine wpList_plain hgd fun K hK => ?_
  unfold Oper.wp execOp
  simp only [ho, resolve, invoke, builtin, Sem.run_bind, Sem.run_pure, Result.andThen_ok, List.map_toArray, List.map_cons, List.map_nil, hs, hx, hrun]
  exact hK _ _ (h v1 w2 hro (HB.grown hg hbase (own_base hown)) hg)
theorem owc_lit0 (w0 W : World) (base : Nat) (h : base ≤ W.heap.size) : OwC w0 (W.alloc (.cells #[] 42)) base (.slice (some ⟨W.heap.size, 0, none⟩) 0 0) [] :=
  OwnRow.lit W base (inner := []) (ps := []) (Reps.none _ _) h (by simp)
/-- What a function gives that makes a row of chunks of what it read. -/
def ScP (l : List Ck) (w : World) (e : Ending) (w' : World) : Prop := ∃ v, e = .returned v ∧ OwC w w' w.heap.size v l ∧ Below w.heap.size w w'
set_option maxRecDepth 100000 in
set_option maxHeartbeats 2000000 in
/-- 'slices.Clone' of chunks. -/
theorem sclone_any (A : Option Addr) (n c : Nat) (l : List Ck) (w : World) (hC : CsC w A n l) (hl : n ≤ 1000) : Calls Tryz.prog 69 #[.slice A n c] w (ScP l w) := by
  have hn := hC.1
  cases A with
  | none =>
    have h0 : l = [] := by
      rcases Nat.eq_zero_or_pos n with h0 | h0
      · exact List.eq_nil_of_length_eq_zero (by omega)
      · obtain ⟨ad, h, _⟩ := hC.2.2 h0
        cases h
    subst h0
    have heq : ∀ W, (binOp BinOp.eql 26 (.slice none n c) (.slice none 0 0)).run Tryz.prog W = .ok (.bool true) W := fun W => by kernel_rfl
    go_enter Tryz.func69, Tryz.ntmps69
    go_wp2_with fail
    go_ret
    exact ⟨_, rfl, OwnRow.none_ _ _ _ _ _, Below.refl _ _⟩
  | some b =>
    have HR := hid (show ReadsRow (kC.K w) kC.sz (w.alloc (.cells #[] 42)) (some b) n l from ReadsRow.imp_ hC (below_alloc (Below.refl _ _) _) (fun _ _ hp => hp))
    have HO := hid (owc_lit0 w w w.heap.size (Nat.le_refl _))
    have HL := hid hl
    have HB := hid (show Below w.heap.size w (w.alloc (.cells #[] 42)) from below_alloc (Below.refl _ _) _)
    have heq : ∀ W, (binOp BinOp.eql 26 (.slice (some b) n c) (.slice none 0 0)).run Tryz.prog W = .ok (.bool false) W := fun W => by kernel_rfl
    clear hC hn hl
    go_enter Tryz.func69, Tryz.ntmps69
    go_wp2_with (at_builtin; go_loud (refine own_rows kC (w0 := w) (w1 := w) w.heap.size rfl _ _ 26 42 _ 56 rfl Tryz.underlying26 infoC rfl (by decide) (by decide) (.slice (some ⟨w.heap.size, 0, none⟩) 0 0) [] l (some b) n c rfl rfl HO.out HR.out HB.out HB.out.size (by have := HL.out; simp; omega) ?_); intro v9 w9 hR9 hB9 hG9; have HR9 := hid hR9; have HB9 := hid hB9; clear hR9 hB9 hG9)
    go_ret
    exact ⟨_, rfl, HR9.out, HB9.out⟩
set_option maxRecDepth 100000 in
set_option maxHeartbeats 2000000 in
/-- 'legal.Sort' of at most twenty chunks. -/
theorem lsort_any (A : Option Addr) (n c : Nat) (l : List Ck) (w : World) (hC : CsC w A n l) (hl : n ≤ 20) : Calls Tryz.prog 39 #[.slice A n c] w (ScP (gT l 5) w) := by
  have hn := hC.1
  have hcl := sclone_any A n c l w hC (by omega)
  have HL := hid hl
  have HN := hid hn
  clear hC hn hl
  go_enter Tryz.func39, Tryz.ntmps39
  go_wp2_with fail
  refine hcl.mono ?_
  rintro e W2 ⟨v, rfl, ho, hb⟩
  obtain ⟨B, d, rfl, hld⟩ := OwnRow.slice_ ho
  rw [HN.out] at ho hld ⊢
  have HB := hid hb
  have hso := sstable_any ho HN.out HL.out
  clear hcl ho hb
  go_wp2_with fail
  refine hso.mono ?_
  rintro e W3 ⟨rfl, ho, hb⟩
  have HO := hid ho
  have HB3 := hid hb
  clear hso ho hb
  go_wp2_with fail
  go_ret
  exact ⟨_, rfl, HO.out, HB.out.trans HB3.out⟩
end Bn
end Go.Proofs.YtmfmomfhiieilaaGreatDoor
/- 'wharfref21.Sort'. -/
set_option linter.unusedVariables false
set_option linter.unusedSimpArgs false
namespace Go.Proofs.YtmfmomfhiieilaaGreatDoor
open Go.RowKit Go.Shelf Go.Proofs.YtmfmomfhiieilaaGreatDoor.It Go.Proofs.YtmfmomfhiieilaaGreatDoorW.PrintWords Go.Proofs.YtmfmomfhiieilaaGreatDoorW.PrintLast Go.Proofs.YtmfmomfhiieilaaGreatDoorW.PrintMore
namespace Bn
open PBundleSorted
theorem gs_step (l : List Ck) (i : Nat) (h : i < l.length) (g : Int) : gs (l.take (i + 1)) g = gs (l.take i) g ++ (if rkT (l[i]).f0 = g then [l[i]] else []) := by
  rw [List.take_succ_eq_append_getElem h, gs_snoc]
theorem gs_le (l : List Ck) (g : Int) : (gs l g).length ≤ l.length := List.length_filter_le _ _
theorem gT_le (l : List Ck) : ∀ k : Nat, (gT l k).length ≤ k * l.length
  | 0 => by simp [gT]
  | k + 1 => by
    rw [gT, List.length_append, Nat.succ_mul]
    have := gT_le l k
    have := gs_le l (k : Int)
    omega
set_option maxRecDepth 100000 in
set_option maxHeartbeats 4000000 in
/-- 'wharfref21.Sort'. -/
theorem rsort_any (A : Option Addr) (n c : Nat) (l : List Ck) (w : World) (hC : CsC w A n l) (hc : n ≤ c) (hl : n ≤ 1000) : Calls Tryz.prog 20 #[.slice A n c] w (ScP (gT l 5) w) := by
  have HN := hid hC.1
  have HC := hid hC
  have HL := hid hl
  have HO0 := hid (show OwC w w w.heap.size (.slice none 0 0) (gT l 0) from OwnRow.none_ _ _ _ _ _)
  have HB0 := hid (Below.refl w.heap.size w)
  clear hC hl
  go_enter Tryz.func20, Tryz.ntmps20
  go_wp2_with fail
  go_loopw [3, 4] (fun vo vg W => ∃ (k : Nat), vg = .int .i64 k ∧ k ≤ 5 ∧ Hid (OwC w W w.heap.size vo (gT l k)) ∧ Hid (Below w.heap.size w W)) (fun _ vg _ => 5 - (intOf vg).toNat)
  case atStart => exact ⟨0, rfl, by omega, HO0, HB0⟩
  case round =>
    obtain ⟨k, rfl, hk, hO, hB⟩ := hrel
    clear HO0 HB0
    by_cases hk5 : k < 5
    · have hk6 : (k : Int) < 5 := by omega
      have HWK := hid (show wrap64 ((k : Int) + 1) = ((k + 1 : Nat) : Int) by unfold wrap64; omega)
      have HO1 := hid (show OwC w wr w.heap.size u3 (gT l k ++ gs (l.take 0) (k : Int)) by
        have h : gs (l.take 0) (k : Int) = [] := rfl
        rw [h, List.append_nil]; exact hO.out)
      clear hO
      go_wp2_with fail
      go_loopw [3, 5] (fun vo vi W => ∃ (i : Nat), vi = .int .i64 i ∧ i ≤ n ∧ Hid (OwC w W w.heap.size vo (gT l k ++ gs (l.take i) (k : Int))) ∧ Hid (Below w.heap.size w W)) (fun _ vi _ => n - (intOf vi).toNat)
      case atStart => exact ⟨0, rfl, by omega, HO1, hB⟩
      case round =>
        obtain ⟨i, rfl, hi, hO, hB2⟩ := hrel
        clear HO1 hB
        by_cases hlt : i < n
        · have hil : i < l.length := by have := HN.out; omega
          have hii : (i : Int) < (n : Int) := by omega
          obtain ⟨b, off, B1, d1, B2, d2, rfl, k0, k1, k2, k3, l1, g1, l2, g2⟩ := chunk_at HC.out i hil
          have hst := gs_step l i hil (k : Int)
          have hle1 := gT_le l k
          have hle2 := gs_le (l.take i) (k : Int)
          rw [List.length_take] at hle2
          have hkx := k42_mk w l[i] l1 g1 l2 g2
          obtain ⟨x, hx⟩ : ∃ x, l[i] = x := ⟨_, rfl⟩
          rw [hx] at k0 k1 k2 k3 hst hkx
          have q0 := pw_cell_below hB2.out k0
          have q1 := pw_cell_below hB2.out k1
          have q2 := pw_cell_below hB2.out k2
          have q3 := pw_cell_below hB2.out k3
          obtain ⟨m1, hm1⟩ : ∃ m, x.f2.length = m := ⟨_, rfl⟩
          obtain ⟨m2, hm2⟩ : ∃ m, x.f3.length = m := ⟨_, rfl⟩
          rw [hm1] at q2 hkx
          rw [hm2] at q3 hkx
          have HKX := hid hkx
          have HWI := hid (show wrap64 ((i : Int) + 1) = ((i + 1 : Nat) : Int) by have := HL.out; unfold wrap64; omega)
          have hgr := group_any x.f0 wr
          obtain ⟨r, hr⟩ : ∃ r, rkT x.f0 = r := ⟨_, rfl⟩
          rw [hr] at hgr hst
          obtain ⟨J, hJ⟩ : ∃ J, gT l k ++ gs (l.take i) (k : Int) = J := ⟨_, rfl⟩
          have hJl : J.length ≤ 6000 := by
            rw [← hJ, List.length_append]
            have := HL.out
            have := HN.out
            have : k * l.length ≤ 4 * l.length := Nat.mul_le_mul_right _ (by omega)
            omega
          rw [hJ] at hO
          obtain ⟨Av, cv, rfl, hcv⟩ := OwnRow.slice_ hO.out
          obtain ⟨nj, hnj⟩ : ∃ nj, J.length = nj := ⟨_, rfl⟩
          rw [hnj] at hO hJl
          rw [hnj]
          have HNJ := hid hnj
          have HJL := hid hJl
          have HST := hid hst
          have HJ := hid hJ
          clear k0 k1 k2 k3 l1 l2 g1 g2 hst hle1 hle2 hkx hx hm1 hm2 hr hJ hJl hcv hnj
          by_cases hrk : r = (k : Int)
          · subst hrk
            have HS2 := hid (show gT l k ++ gs (l.take (i + 1)) (k : Int) = J ++ [x] by rw [HST.out, if_pos rfl, ← List.append_assoc, HJ.out])
            go_wp2_with fail
            refine hgr.mono ?_
            rintro e W2 ⟨rfl, hb2⟩
            have p0 := pw_cell_below hb2 q0
            have p1 := pw_cell_below hb2 q1
            have p2 := pw_cell_below hb2 q2
            have p3 := pw_cell_below hb2 q3
            have HO2 := hid (OwnRow.below hO.out hb2)
            have HB3 := hid (show Below w.heap.size w W2 from cthen hB2.out hb2)
            clear hgr hb2 q0 q1 q2 q3
            go_wp2_with (at_builtin; go_loud (refine OwnRow.append (w0 := W2) (W := W2) w.heap.size rfl _ _ 26 42 _ 4 56 rfl Tryz.underlying26 infoC rfl (by decide) (by decide) (.slice Av nj cv) J x [.int .u8 x.f0, .int .u8 x.f1, .slice B1 m1 d1, .slice B2 m2 d2] rfl rfl HKX.out rfl (by intro u hu; simp only [List.mem_cons, List.not_mem_nil, or_false] at hu; rcases hu with rfl | rfl | rfl | rfl <;> rfl) HO2.out (Below.refl _ _) HB3.out.size (by rw [HNJ.out]; have := HJL.out; omega) ?_); intro v9 w9 hO9 hB9 hG9 hA9; have HO9 := hid hO9; have HB9 := hid (HB3.out.trans hB9); clear hO9 hB9 hG9 hA9)
            exact ⟨⟨i + 1, by rw [HWI.out], hlt, hid (by rw [HS2.out]; exact HO9.out), HB9⟩, by rw [HWI.out]; simp only [intOf, Int.toNat_natCast]; omega⟩
          · have HS2 := hid (show gT l k ++ gs (l.take (i + 1)) (k : Int) = J by rw [HST.out, if_neg hrk, List.append_nil, HJ.out])
            go_wp2_with fail
            refine hgr.mono ?_
            rintro e W2 ⟨rfl, hb2⟩
            have HO2 := hid (OwnRow.below hO.out hb2)
            have HB3 := hid (show Below w.heap.size w W2 from cthen hB2.out hb2)
            clear hgr hb2 q0 q1 q2 q3
            go_wp2_with fail
            exact ⟨⟨i + 1, by rw [HWI.out], hlt, hid (by rw [HS2.out]; exact HO2.out), HB3⟩, by rw [HWI.out]; simp only [intOf, Int.toNat_natCast]; omega⟩
        · obtain rfl : n = i := by omega
          have htl : l.take n = l := by rw [← HN.out, List.take_length]
          rw [htl] at hO
          go_wp2_with fail
          exact ⟨⟨k + 1, by simp, hk5, hid (show OwC w wr w.heap.size _ (gT l (k + 1)) from hO.out), hB2⟩, by simp only [intOf]; omega⟩
    · obtain rfl : k = 5 := by omega
      go_wp2_with fail
      go_ret
      exact ⟨_, rfl, hO.out, hB.out⟩
end Bn
end Go.Proofs.YtmfmomfhiieilaaGreatDoor
/- 'bundle.Sorted'. -/
set_option linter.unusedVariables false
set_option linter.unusedSimpArgs false
namespace Go.Proofs.YtmfmomfhiieilaaGreatDoor
open Go.RowKit Go.Shelf Go.Proofs.YtmfmomfhiieilaaGreatDoor.It Go.Proofs.YtmfmomfhiieilaaGreatDoorW.PrintWords Go.Proofs.YtmfmomfhiieilaaGreatDoorW.PrintLast Go.Proofs.YtmfmomfhiieilaaGreatDoorW.PrintMore
namespace Bn
open PBundleSorted
theorem gT_sub (l : List Ck) (x : Ck) : ∀ k : Nat, x ∈ gT l k → x ∈ l
  | 0, h => by simp [gT] at h
  | k + 1, h => by
    rw [gT, List.mem_append] at h
    rcases h with h | h
    · exact gT_sub l x k h
    · exact (List.mem_filter.1 h).1
theorem OfP.tup {s d g M : Int} {l : List Ck} {w w' : World} {e : Ending} (h : OfP s d g M l w e w') : ∃ p1 p2 p3, e = .returned (.tuple #[p1, p2, p3]) := by
  cases hoe : ofErr M l with
  | none =>
    obtain ⟨A1, c1, A2, c2, rfl, -⟩ := h.2.1 hoe
    exact ⟨_, _, _, rfl⟩
  | some er => exact ⟨_, _, _, h.1 er hoe⟩
/-- What 'bundle.Sorted' gives. -/
def SoP (s d g M : Int) (l : List Ck) (w : World) (e : Ending) (w' : World) : Prop :=
  (∀ er, ofErr M l = some er → e = .returned (.tuple #[.slice none 0 0, .slice none 0 0, eV (some er)])) ∧ (ofErr M l = none → OfP s d g M (gT l 5) w e w') ∧ Below w.heap.size w w'
theorem so_blw {S W W' : World} {a0 a1 a2 : Addr} {v0 v1 v2 : Value} (h : Below S.heap.size S W ∧ W.cell? a0 = some v0 ∧ W.cell? a1 = some v1 ∧ W.cell? a2 = some v2) (hb : Below W.heap.size W W') : Below S.heap.size S W' ∧ W'.cell? a0 = some v0 ∧ W'.cell? a1 = some v1 ∧ W'.cell? a2 = some v2 := ⟨cthen h.1 hb, pw_cell_below hb h.2.1, pw_cell_below hb h.2.2.1, pw_cell_below hb h.2.2.2⟩
set_option maxRecDepth 100000 in
set_option maxHeartbeats 8000000 in
/-- 'bundle.Sorted'. -/
theorem bsorted_any (s d g M : Int) (l : List Ck) (A : Option Addr) (n c : Nat) (w : World) (hg : GTab w) (hgl : GLg w) (hn : l.length = n) (hC : CsC w A n l) (hc : n ≤ c) (hl : n ≤ 20) (hok : ∀ x ∈ l, CkOk x) :
    Calls Tryz.prog 19 #[.agg #[.int .u16 s, .int .u16 d, .int .u32 g], .int .i64 M, .slice A n c] w (SoP s d g M l w) := by
  obtain ⟨w1, hw1⟩ : ∃ w1, w.alloc (.cells #[.int .u16 s, .int .u16 d, .int .u32 g] 25) = w1 := ⟨_, rfl⟩
  have hb1 : Below w.heap.size w w1 := by rw [← hw1]; exact below_alloc (Below.refl _ _) _
  have HX1 := hid (show w1.heap[w.heap.size]? = some (.cells #[.int .u16 s, .int .u16 d, .int .u32 g] 25 (0, 0)) by rw [← hw1]; exact blk_new w _)
  have HW := hid hw1
  have HG := hid (hg.below hb1)
  have HGL := hid (hgl.below hb1)
  have HC := hid (Kd.C_below hC hb1)
  have HN := hid hn
  have HCC := hid hc
  have HL := hid hl
  have HOK := hid hok
  have HFIN := hid (fun W (h : Below w1.heap.size w1 W) => show Below w.heap.size w W from hb1.trans (h.mono hb1.size))
  have hof := of_any s d g M l A n c w1 HG.out HGL.out hn HC.out hc (by omega) hok
  clear hg hgl hn hC hc hl hok hw1 hb1
  obtain ⟨⟨x0, x1, x2⟩, -⟩ := three HX1.out
  rw [← HW.out] at x0 x1 x2
  go_enter Tryz.func19, Tryz.ntmps19
  go_wp2_with fail
  rw [HW.out]
  refine hof.mono ?_
  rintro e W2 ⟨hye, hno, hb2⟩
  have HB2 := hid hb2
  clear hof hb2 x0 x1 x2
  obtain ⟨oe, hoe⟩ : ∃ oe, ofErr M l = oe := ⟨_, rfl⟩
  rcases oe with _ | er
  · obtain ⟨A1, c1, A2, c2, rfl, -, -, -, -⟩ := hno hoe
    have HOE := hid hoe
    clear hye hno hoe
    obtain ⟨n1, hn1⟩ : ∃ n1, (outsC M l).length = n1 := ⟨_, rfl⟩
    obtain ⟨n2, hn2⟩ : ∃ n2, (rejC M l).length = n2 := ⟨_, rfl⟩
    rw [hn1, hn2]
    obtain ⟨⟨x0, x1, x2⟩, -⟩ := three (blk_below HX1.out HB2.out)
    have hS0 : Below W2.heap.size W2 W2.drew ∧ W2.drew.cell? ⟨w.heap.size, 0, none⟩ = some (.int .u16 s) ∧ W2.drew.cell? ⟨w.heap.size, 1, none⟩ = some (.int .u16 d) ∧ W2.drew.cell? ⟨w.heap.size, 2, none⟩ = some (.int .u32 g) := ⟨below_drew (Below.refl _ _) 1, x0, x1, x2⟩
    clear x0 x1 x2 hn1 hn2
    go_upto_region 4 with fail
    refine start_ (n := 11) (S := (fun W => Below W2.heap.size W2 W ∧ W.cell? ⟨w.heap.size, 0, none⟩ = some (.int .u16 s) ∧ W.cell? ⟨w.heap.size, 1, none⟩ = some (.int .u16 d) ∧ W.cell? ⟨w.heap.size, 2, none⟩ = some (.int .u32 g))) (ds := [4]) (bA 11 0) (by kernel_rfl) rfl rfl hS0 (fun hHeld => ?_)
    generalize W2.drew = w44 at hS0 hHeld ⊢
    refine pU 1 (some 24) (bA 11 2) rfl rfl ?_
    refine pU 2 (some 25) (bA 11 6) rfl rfl ?_
    refine tU 0 (some 23) (bA 11 7) rfl rfl hHeld (by rintro w' ⟨q0, q1, q2, q3⟩; go_simp; with_reducible rfl) ?_
    refine one_ (i := 3) (N := some 26) (bA 11 15) rfl rfl (by kernel_rfl) (by decide) (fun KK hK => ?_)
    refine goes_ Tryz.func39 (by kernel_rfl) rfl #[.slice A n c] (by rfl) rfl rfl (by simp only [List.map_toArray, List.map_cons, List.map_nil]; rfl) ?_
    refine Calls.mono (lsort_any A n c l _ (Kd.C_below HC.out (cthen HB2.out hHeld.1)) HL.out) ?_
    rintro e5 W3 ⟨v, rfl, ho3, hb3⟩
    obtain ⟨A5, c5, rfl, l5, r5⟩ := owc_reads ho3 hb3
    rw [gT_len n l HN.out] at l5 r5 ⊢
    refine ⟨_, rfl, ?_⟩
    have hS3 := so_blw hHeld hb3
    have HR5 := hid r5
    clear ho3 hb3 r5
    refine hK.out _ _ hS3 (fun hHeld2 => ?_)
    clear hK KK
    refine nU ?_
    refine last_ (i := 4) (N := some 27) (bA 11 31) rfl rfl (by kernel_rfl) (by decide) (fun KK hK => ?_)
    refine goes_ Tryz.func9 (by kernel_rfl) rfl #[.agg #[.int .u16 s, .int .u16 d, .int .u32 g], .int .i64 M, .slice A5 n c5] (by rfl) rfl rfl (by simp only [List.map_toArray, List.map_cons, List.map_nil]; rfl) ?_
    refine Calls.mono (of_any s d g M (gT l 5) A5 n c5 _ (HG.out.below (cthen HB2.out hHeld2.1)) (HGL.out.below (cthen HB2.out hHeld2.1)) (gT_len n l HN.out) HR5.out l5 (by have := HL.out; omega) (fun x hx => HOK.out x (gT_sub l x 5 hx))) ?_
    rintro e5 W4 hof4
    obtain ⟨p1, p2, p3, rfl⟩ := OfP.tup hof4
    refine ⟨_, rfl, ?_⟩
    have HB4 := hid (cthen (cthen HB2.out hHeld2.1) hof4.2.2)
    have HOF := hid hof4
    clear hof4
    refine hK.out _ _ ?_
    clear hK KK
    refine nU ?_
    refine pU 5 (some 28) (bA 11 63) rfl rfl ?_
    refine pU 6 (some 29) (bA 11 127) rfl rfl ?_
    refine pU 7 (some 30) (bA 11 255) rfl rfl ?_
    refine pU 8 (some 6) (bA 11 511) rfl rfl ?_
    refine pU 9 (some 7) (bA 11 1023) rfl rfl ?_
    refine pU 10 (some 8) (bA 11 2047) rfl rfl ?_
    refine done_ (by kernel_rfl) ?_
    clear hS0 hHeld hHeld2
    go_wp2_with fail
    go_ret3
    exact ⟨fun er he => (by rw [HOE.out] at he; cases he), fun _ => ⟨HOF.out.1, HOF.out.2.1, HFIN.out _ HB4.out⟩, HFIN.out _ HB4.out⟩
  · obtain rfl := hye er hoe
    have HOE := hid hoe
    obtain ⟨ev, hev⟩ : ∃ ev, eV (some er) = ev := ⟨_, rfl⟩
    rw [hev]
    have HEV := hid hev
    have hne : ∀ W, (binOp BinOp.neq 31 ev .nilIface).run Tryz.prog W = .ok (.bool true) W := fun W => by rw [← hev]; exact err_ne er W
    have hne2 : ∀ o W, (eqGuard BinOp.neq 31 o (Operand.const .nilIface) ev .nilIface).run Tryz.prog W = .ok () W := fun o W => by rw [← hev]; exact err_eg er o W
    clear hye hno hoe hev
    go_wp2_with fail
    go_ret3
    exact ⟨fun er2 he => by rw [HOE.out] at he; injection he with he; subst he; rw [HEV.out]; rfl, fun he => by (rw [HOE.out] at he; cases he), HFIN.out _ HB2.out⟩
end Bn
end Go.Proofs.YtmfmomfhiieilaaGreatDoor
/- Reading goes on where a block of results is written. -/
set_option linter.unusedVariables false
set_option linter.unusedSimpArgs false
namespace Go.Proofs.YtmfmomfhiieilaaGreatDoor
open Go.RowKit Go.Shelf Go.Proofs.YtmfmomfhiieilaaGreatDoor.It Go.Proofs.YtmfmomfhiieilaaGreatDoorW.PrintWords Go.Proofs.YtmfmomfhiieilaaGreatDoorW.PrintLast Go.Proofs.YtmfmomfhiieilaaGreatDoorW.PrintMore
namespace Bn
open PBundleSorted
/-- One block is written that holds no number but of 64 bits. -/
structure Far (W W' : World) (B : Nat) : Prop where
  q : ∀ (a : Addr) (k : IntKind) (v : Int), W.cell? a = some (.int k v) → k ≠ .i64 → a.block ≠ B
  c : ∀ a : Addr, a.block ≠ B → W'.cell? a = W.cell? a
theorem far_row {α : Type} {R R' : α → List Value → Prop} {sz n B : Nat} {W W' : World} {A : Option Addr} {xs : List α} (hf : Far W W' B) (hR : ∀ x ∈ xs, ∀ cs, R x cs → R' x cs ∧ ∃ k v, k ≠ IntKind.i64 ∧ cs[0]? = some (.int k v)) (h : ReadsRow R sz W A n xs) : ReadsRow R' sz W' A n xs := by
  refine ⟨h.1, h.2.1, fun hn => ?_⟩
  obtain ⟨ad, e, hc⟩ := h.2.2 hn
  refine ⟨ad, e, fun j p hj => ?_⟩
  obtain ⟨c, hs, hr, hcell⟩ := hc j p hj
  obtain ⟨hr', k, v, hk, h0⟩ := hR p (List.mem_of_getElem? hj) c hr
  have hbl : ∀ t : Nat, (ad.add t).block = ad.block := fun t => by unfold Addr.add; split <;> rfl
  have hb : ad.block ≠ B := by
    rw [← hbl (j * sz + 0)]
    exact hf.q (ad.add (j * sz + 0)) k v (hcell 0 _ h0) hk
  exact ⟨c, hs, hr', fun i u hu => by rw [hf.c (ad.add (j * sz + i)) (by rw [hbl]; exact hb)]; exact hcell i u hu⟩
theorem far_bytes {n B : Nat} {W W' : World} {A : Option Addr} {xs : List Int} (hf : Far W W' B) (h : (Kd.int .u8).C W A n xs) : (Kd.int .u8).C W' A n xs :=
  far_row hf (fun x _ cs hk => ⟨hk, .u8, x, by decide, by have : cs = [.int .u8 x] := hk; rw [this]; rfl⟩) h
theorem far_nodes {B : Nat} {W W' : World} (hf : Far W W' B) : ∀ (m : Nat) (xs : List Nd), cnts xs ≤ m → ∀ (A : Option Addr) (n : Nat), Kd.C k87 W A n xs → Kd.C k87 W' A n xs := by
  intro m
  induction m with
  | zero =>
    intro xs hm A n h
    cases xs with
    | nil => exact far_row hf (fun x hx => by cases hx) h
    | cons x l => rw [cnts, cnt_eq] at hm; omega
  | succ m ih =>
    intro xs hm A n h
    refine far_row hf (fun x hx cs hk => ?_) h
    obtain ⟨A1, c1, A2, c2, rfl, l1, g1, l2, g2⟩ := k87_open hk
    have h1 := cnts_at xs x hx
    have h2 := cnt_eq x
    exact ⟨k87_mk W' x l1 (far_bytes hf g1) l2 (ih x.f2 (by omega) _ _ g2), .u16, _, by decide, rfl⟩
theorem far_chunks {n B : Nat} {W W' : World} {A : Option Addr} {xs : List Ck} (hf : Far W W' B) (h : CsC W A n xs) : CsC W' A n xs :=
  far_row hf (fun x _ cs hk => by
    obtain ⟨A1, c1, A2, c2, rfl, l1, g1, l2, g2⟩ := k42_open hk
    exact ⟨k42_mk W' x l1 (far_bytes hf g1) l2 (far_nodes hf _ _ (Nat.le_refl _) _ _ g2), .u8, _, by decide, rfl⟩) h
theorem far_packs {n B : Nat} {W W' : World} {A : Option Addr} {xs : List Pk} (hf : Far W W' B) (h : kP.C W A n xs) : kP.C W' A n xs :=
  far_row hf (fun x _ cs hk => by
    obtain ⟨A1, c1, rfl, l1, g1⟩ := k38_open hk
    exact ⟨k38_mk W' x l1 (far_chunks hf g1), .u16, _, by decide, rfl⟩) h
/-- A result is written over. -/
theorem far_set {W : World} {B : Nat} {t : TypeId} {A3 A4 : Option Addr} {n3 c3 n4 c4 : Nat} {x y : Int} (h : W.heap[B]? = some (.cells #[.slice A3 n3 c3, .slice A4 n4 c4, .int .i64 x, .int .i64 y] t (0, 0))) (v0 v1 v2 v3 : Value) :
    Far W ((((W.setCell ⟨B, 0, none⟩ v0).setCell ⟨B, 1, none⟩ v1).setCell ⟨B, 2, none⟩ v2).setCell ⟨B, 3, none⟩ v3) B := by
  refine ⟨fun a k v ha hk he => ?_, fun a ha => ?_⟩
  · obtain ⟨b, off, sp⟩ := a
    simp only at he
    subst he
    have hs : sp = none := World.cell?_spot ha
    subst hs
    rcases off with _ | _ | _ | _ | off
    · rw [(four h).1.1] at ha; cases ha
    · rw [(four h).1.2.1] at ha; cases ha
    · rw [(four h).1.2.2.1] at ha; injection ha with ha; injection ha with ha _; exact hk ha.symm
    · rw [(four h).1.2.2.2] at ha; injection ha with ha; injection ha with ha _; exact hk ha.symm
    · simp [World.cell?, h] at ha
  · rw [World.cell?_setCell_far _ _ _ _ (Ne.symm ha), World.cell?_setCell_far _ _ _ _ (Ne.symm ha), World.cell?_setCell_far _ _ _ _ (Ne.symm ha), World.cell?_setCell_far _ _ _ _ (Ne.symm ha)]
end Bn
end Go.Proofs.YtmfmomfhiieilaaGreatDoor
/- The walk of the law 'BundleSorted'. -/
set_option linter.unusedVariables false
set_option linter.unusedSimpArgs false
namespace Go.Proofs.YtmfmomfhiieilaaGreatDoor
open Go.RowKit Go.Shelf Go.Proofs.YtmfmomfhiieilaaGreatDoor.It Go.Proofs.YtmfmomfhiieilaaGreatDoorW.PrintWords Go.Proofs.YtmfmomfhiieilaaGreatDoorW.PrintLast Go.Proofs.YtmfmomfhiieilaaGreatDoorW.PrintMore
namespace Bn
open PBundleSorted
theorem fstBad_none : ∀ (l : List Ck) (i : Nat), fstBad i l = none ↔ ∀ x ∈ l, cCode x = 0
  | [], i => by rw [fstBad]; simp
  | x :: l, i => by
    rw [fstBad]
    split
    · rename_i h
      rw [fstBad_none l (i + 1)]
      simp [h]
    · rename_i h
      simp [h]
theorem ofErr_sorted {M : Int} {l : List Ck} (h : ofErr M l = none) : ofErr M (gT l 5) = none := by
  unfold ofErr at h ⊢
  split at h
  · cases h
  · split at h
    · cases h
    · rename_i h1 h2
      rw [if_neg h1, if_neg h2, fstBad_none]
      rw [fstBad_none] at h
      exact fun x hx => h x (gT_sub l x 5 hx)
theorem err_eql (er : Int × Option Int) (W : World) : (binOp BinOp.eql 31 (eV (some er)) Value.nilIface).run Tryz.prog W = .ok (.bool false) W := by
  obtain ⟨c, _ | n⟩ := er <;> kernel_rfl
theorem err_egl (er : Int × Option Int) (o : Operand) (W : World) : (eqGuard BinOp.eql 31 o (Operand.const Value.nilIface) (eV (some er)) Value.nilIface).run Tryz.prog W = .ok () W := by
  obtain ⟨c, _ | n⟩ := er <;> kernel_rfl
set_option maxRecDepth 100000 in
set_option maxHeartbeats 16000000 in
theorem sorted_any (s d g M : Int) (l : List Ck) (A : Option Addr) (n c : Nat) (w : World) (hg : GTab w) (hgl : GLg w) (hn : l.length = n) (hC : CsC w A n l) (hc : n ≤ c) (hR : ∀ x ∈ l, CkR x) :
    Calls Tryz.prog 6 #[.agg #[.int .u16 s, .int .u16 d, .int .u32 g], .int .i64 M, .slice A n c] w (IsPost (.bool true) w) := by
  obtain ⟨w1, hw1⟩ : ∃ w1, w.alloc (.cells #[.int .u16 s, .int .u16 d, .int .u32 g] 25) = w1 := ⟨_, rfl⟩
  have hb1 : Below w.heap.size w w1 := by rw [← hw1]; exact below_alloc (Below.refl _ _) _
  have HX1 := hid (show w1.heap[w.heap.size]? = some (.cells #[.int .u16 s, .int .u16 d, .int .u32 g] 25 (0, 0)) by rw [← hw1]; exact blk_new w _)
  have HW := hid hw1
  have HG := hid (hg.below hb1)
  have HGL := hid (hgl.below hb1)
  have HC := hid (Kd.C_below hC hb1)
  have HN := hid hn
  have HCC := hid hc
  have HR := hid hR
  have HFIN := hid (fun W (h : Below w1.heap.size w1 W) => show IsPost (.bool true) w (.returned (.bool true)) W from ⟨rfl, hb1.trans (h.mono hb1.size)⟩)
  have HAW := hid (fun W (hW : Below w1.heap.size w1 W) => bawake_any W (HG.out.below hW) (HGL.out.below hW))
  clear hg hgl hn hC hR hw1 hb1
  have haw := HAW.out w1 (Below.refl _ _)
  go_enter Tryz.func6, Tryz.ntmps6
  go_wp2_with fail
  rw [HW.out]
  refine haw.mono ?_
  rintro e W2 ⟨rfl, hb2⟩
  have HB2 := hid hb2
  obtain ⟨fb, hfb, hft⟩ := few_any A n c l W2 HN.out (Kd.C_below HC.out hb2) HCC.out
  have HFT := hid hft
  clear haw hb2 hft
  cases fb with
  | false =>
    go_wp2_with fail
    refine hfb.mono ?_
    rintro e W3 ⟨rfl, hb3⟩
    have HB3 := hid (cthen HB2.out hb3)
    have haw := HAW.out W3 HB3.out
    clear hb3 hfb
    go_wp2_with fail
    refine haw.mono ?_
    rintro e W4 ⟨rfl, hb4⟩
    have HB4 := hid (cthen HB3.out hb4)
    clear hb4 haw
    go_wp2_with fail
    go_ret
    exact HFIN.out _ HB4.out
  | true =>
    have HOK := hid (show ∀ x ∈ l, CkOk x from fun x hx => ckOk_of (HR.out x hx) ((HFT.out rfl).2 x hx))
    have hl20 := (HFT.out rfl).1
    have HL := hid (show n ≤ 20 by have := HN.out; omega)
    clear hl20
    go_wp2_with fail
    refine hfb.mono ?_
    rintro e W3 ⟨rfl, hb3⟩
    have HB3 := hid (cthen HB2.out hb3)
    have HRW := hid (show ReadsRow (kC.K W3) kC.sz (W3.alloc (.cells #[] 42)) A n l from ReadsRow.imp_ (Kd.C_below HC.out HB3.out) (below_alloc (Below.refl _ _) _) (fun _ _ hp => hp))
    have HO0 := hid (owc_lit0 W3 W3 W3.heap.size (Nat.le_refl _))
    have HBA := hid (show Below W3.heap.size W3 (W3.alloc (.cells #[] 42)) from below_alloc (Below.refl _ _) _)
    clear hb3 hfb
    go_wp2_with (at_builtin; go_loud (refine own_rows kC (w0 := W3) (w1 := W3) W3.heap.size rfl _ _ 26 42 _ 56 rfl Tryz.underlying26 infoC rfl (by decide) (by decide) (.slice (some ⟨W3.heap.size, 0, none⟩) 0 0) [] l A n c rfl rfl HO0.out HRW.out HBA.out HBA.out.size (by have := HL.out; simp; omega) ?_); intro v9 w9 hR9 hB9 hG9; rw [List.nil_append] at hR9; obtain ⟨Ao, co, rfl, lo, ro⟩ := owc_reads hR9 hB9; rw [HN.out] at lo ro ⊢; have HB9 := hid (cthen HB3.out hB9); have HRO := hid ro; have HLO := hid lo; obtain ⟨⟨x0, x1, x2⟩, -⟩ := three (blk_below HX1.out HB9.out); clear hR9 hB9 hG9 lo ro)
    refine (bsorted_any s d g M l Ao n co w9 (HG.out.below HB9.out) (HGL.out.below HB9.out) HN.out HRO.out HLO.out HL.out HOK.out).mono ?_
    rintro e W5 ⟨hye, hno, hb5⟩
    have HB95 := hid hb5
    have HB5 := hid (cthen HB9.out hb5)
    clear hb5 x0 x1 x2
    have hro := rof_any s d g M l A n c W5 HN.out (Kd.C_below HC.out HB5.out) HCC.out (by have := HL.out; omega) HOK.out
    obtain ⟨⟨x0, x1, x2⟩, -⟩ := three (blk_below HX1.out HB5.out)
    obtain ⟨oe, hoe⟩ : ∃ oe, ofErr M l = oe := ⟨_, rfl⟩
    rcases oe with _ | er
    · obtain ⟨A1, c1, A2, c2, rfl, l1, r1, l2, r2⟩ := (hno hoe).2.1 (ofErr_sorted hoe)
      have HOE := hid hoe
      have HOT := hid (ofErr_sorted hoe)
      have HLN := hid (gT_len n l HN.out)
      have HLO2 := hid (fun x (hx : x ∈ gT l 5) => HOK.out x (gT_sub l x 5 hx))
      have HRS5 := hid (fun W (hW : Below w1.heap.size w1 W) => rsort_any A n c l W (Kd.C_below HC.out hW) HCC.out (by have := HL.out; omega))
      obtain ⟨L, hL⟩ : ∃ L, gT l 5 = L := ⟨_, rfl⟩
      rw [hL] at l1 r1 l2 r2 HOT HLN ⊢
      simp only [hL] at HLO2 HRS5
      have hps : ∀ p ∈ (outsC M L).map (mkP s d g), p.f1.length ≤ 1000 ∧ ∀ x ∈ p.f1, SmC x := fun p hp => by
        obtain ⟨q, hq, rfl⟩ := List.mem_map.1 hp
        have h := outs_ok M L HLO2.out (by have := HL.out; have := HLN.out; omega) L.length q (by rw [List.take_length]; exact hq)
        exact ⟨by have := h.1; show q.length ≤ 1000; omega, fun x hx => ⟨(h.2 x hx).len, (h.2 x hx).cnt⟩⟩
      have hrs : ∀ x ∈ rejC M L, SmC x := fun x hx => by
        have h := HLO2.out x (List.mem_filter.1 hx).1
        exact ⟨h.len, h.cnt⟩
      have hol := (Pkg.packs_len (fitC M) (roomC M) L).1
      change (outsC M L).length ≤ _ at hol
      have hrl : (rejC M L).length ≤ L.length := List.length_filter_le _ _
      obtain ⟨no, hnoe⟩ : ∃ no, (outsC M L).length = no := ⟨_, rfl⟩
      obtain ⟨nr, hnre⟩ : ∃ nr, (rejC M L).length = nr := ⟨_, rfl⟩
      rw [hnoe] at l1 r1 hol
      rw [hnre] at l2 r2 hrl
      rw [hnoe, hnre]
      have HNO := hid hnoe
      have HNR := hid hnre
      have HR1 := hid r1
      have HR2 := hid r2
      have HPS := hid hps
      have HRS := hid hrs
      have HL1 := hid l1
      have HL2 := hid l2
      have HOL := hid (show no ≤ 1000 by have := HL.out; have := HLN.out; omega)
      have HRL := hid (show nr ≤ 1000 by have := HL.out; have := HLN.out; omega)
      clear hye hno hoe hnoe hnre r1 r2 hps hrs hol hrl l1 l2 hL
      go_wp2_with fail
      refine hro.mono ?_
      rintro e W6 ⟨-, hno6, hb6⟩
      obtain ⟨A3, c3, A4, c4, rfl, -, -, -, -⟩ := hno6 HOE.out
      have HB6 := hid (cthen HB5.out hb6)
      have HB56 := hid hb6
      obtain ⟨n3, hn3⟩ : ∃ n3, (outsC M l).length = n3 := ⟨_, rfl⟩
      obtain ⟨n4, hn4⟩ : ∃ n4, (rejC M l).length = n4 := ⟨_, rfl⟩
      rw [hn3, hn4]
      clear hro hno6 hb6 x0 x1 x2 hn3 hn4
      go_upto_region 7 with fail
      obtain ⟨W7, hW7⟩ : ∃ W7, W6.alloc (.cells #[.slice A3 n3 c3, .slice A4 n4 c4, .int .i64 0, .int .i64 0] 35) = W7 := ⟨_, rfl⟩
      have hb67 : Below W6.heap.size W6 W7 := by rw [← hW7]; exact below_alloc (Below.refl _ _) _
      have HX7 := hid (show W7.heap[W6.heap.size]? = some (.cells #[.slice A3 n3 c3, .slice A4 n4 c4, .int .i64 0, .int .i64 0] 35 (0, 0)) by rw [← hW7]; exact blk_new W6 _)
      rw [hW7]
      have HB67 := hid hb67
      have HB7 := hid (cthen HB6.out hb67)
      obtain ⟨⟨x0, x1, x2⟩, -⟩ := three (blk_below HX1.out HB7.out)
      have hS0 : Below W7.heap.size W7 W7.drew ∧ W7.drew.cell? ⟨w.heap.size, 0, none⟩ = some (.int .u16 s) ∧ W7.drew.cell? ⟨w.heap.size, 1, none⟩ = some (.int .u16 d) ∧ W7.drew.cell? ⟨w.heap.size, 2, none⟩ = some (.int .u32 g) := ⟨below_drew (Below.refl _ _) 1, x0, x1, x2⟩
      clear hW7 hb67 x0 x1 x2
      refine start_ (n := 6) (S := (fun W => Below W7.heap.size W7 W ∧ W.cell? ⟨w.heap.size, 0, none⟩ = some (.int .u16 s) ∧ W.cell? ⟨w.heap.size, 1, none⟩ = some (.int .u16 d) ∧ W.cell? ⟨w.heap.size, 2, none⟩ = some (.int .u32 g))) (ds := [5]) (bA 6 0) (by kernel_rfl) rfl rfl hS0 (fun hHeld => ?_)
      generalize W7.drew = w44 at hS0 hHeld ⊢
      refine pU 1 (some 39) (bA 6 2) rfl rfl ?_
      refine pU 2 (some 40) (bA 6 6) rfl rfl ?_
      refine tU 0 (some 38) (bA 6 7) rfl rfl hHeld (by rintro w' ⟨q0, q1, q2, q3⟩; go_simp; with_reducible rfl) ?_
      refine one_ (i := 3) (N := some 41) (bA 6 15) rfl rfl (by kernel_rfl) (by decide) (fun KK hK => ?_)
      refine goes_ Tryz.func20 (by kernel_rfl) rfl #[.slice A n c] (by rfl) rfl rfl (by simp only [List.map_toArray, List.map_cons, List.map_nil]; rfl) ?_
      refine Calls.mono (HRS5.out _ (cthen HB7.out hHeld.1)) ?_
      rintro e5 W8 ⟨v, rfl, ho8, hb8⟩
      obtain ⟨A5, c5, rfl, l5, r5⟩ := owc_reads ho8 hb8
      rw [HLN.out] at l5 r5 ⊢
      refine ⟨_, rfl, ?_⟩
      have hS8 := so_blw hHeld hb8
      have HR5 := hid r5
      clear ho8 hb8 r5
      refine hK.out _ _ hS8 (fun hHeld => ?_)
      clear hK KK
      refine nU ?_
      refine one_ (i := 4) (N := some 42) (bA 6 31) rfl rfl (by kernel_rfl) (by decide) (fun KK hK => ?_)
      refine goes_ Tryz.func10 (by kernel_rfl) rfl #[.agg #[.int .u16 s, .int .u16 d, .int .u32 g], .int .i64 M, .slice A5 n c5] (by rfl) rfl rfl (by simp only [List.map_toArray, List.map_cons, List.map_nil]; rfl) ?_
      refine Calls.mono (rof_any s d g M L A5 n c5 _ HLN.out HR5.out l5 (by have := HL.out; omega) HLO2.out) ?_
      rintro e5 W9 ⟨-, hno9, hb9⟩
      obtain ⟨A6, c6, A7, c7, rfl, l6, r6, l7, r7⟩ := hno9 HOT.out
      rw [HNO.out] at l6 r6
      rw [HNR.out] at l7 r7
      rw [HNO.out, HNR.out]
      refine ⟨_, rfl, ?_⟩
      have hS9 := so_blw hHeld hb9
      have HR6 := hid r6
      have HR7 := hid r7
      have HX9 := hid (blk_below HX7.out hS9.1)
      clear hno9 hb9 r6 r7
      refine hK.out _ _ hS9 (fun hHeld => ?_)
      clear hK KK
      refine nU ?_
      refine last_ (i := 5) (N := none) (bA 6 63) rfl rfl (by kernel_rfl) (by decide) (fun KK hK => ?_)
      have hf := fun j => blk_frozen HX9.out j
      obtain ⟨⟨y0, y1, y2, y3⟩, -⟩ := four HX9.out
      have HX10 := hid (show (((((W9.setCell ⟨W6.heap.size, 0, none⟩ (.slice A6 no c6)).setCell ⟨W6.heap.size, 1, none⟩ (.slice A7 nr c7)).setCell ⟨W6.heap.size, 2, none⟩ (.int .i64 0)).setCell ⟨W6.heap.size, 3, none⟩ (.int .i64 0))).heap[W6.heap.size]? = some (.cells #[.slice A6 no c6, .slice A7 nr c7, .int .i64 0, .int .i64 0] 35 (0, 0)) from set_blk3 (set_blk3 (set_blk3 (set_blk3 HX9.out 0 _) 1 _) 2 _) 3 _)
      have hfar := far_set HX9.out (.slice A6 no c6) (.slice A7 nr c7) (.int .i64 0) (.int .i64 0)
      have HQ6 := hid (far_packs hfar HR6.out)
      have HQ7 := hid (far_chunks hfar HR7.out)
      have HB10 := hid (show Below w1.heap.size w1 (((((W9.setCell ⟨W6.heap.size, 0, none⟩ (.slice A6 no c6)).setCell ⟨W6.heap.size, 1, none⟩ (.slice A7 nr c7)).setCell ⟨W6.heap.size, 2, none⟩ (.int .i64 0)).setCell ⟨W6.heap.size, 3, none⟩ (.int .i64 0))) from ((((cthen HB7.out hHeld.1).setCell HB6.out.size _).setCell HB6.out.size _).setCell HB6.out.size _).setCell HB6.out.size _)
      have HBW := hid (show Below W6.heap.size W6 (((((W9.setCell ⟨W6.heap.size, 0, none⟩ (.slice A6 no c6)).setCell ⟨W6.heap.size, 1, none⟩ (.slice A7 nr c7)).setCell ⟨W6.heap.size, 2, none⟩ (.int .i64 0)).setCell ⟨W6.heap.size, 3, none⟩ (.int .i64 0))) from ((((cthen HB67.out hHeld.1).setCell (Nat.le_refl _) _).setCell (Nat.le_refl _) _).setCell (Nat.le_refl _) _).setCell (Nat.le_refl _) _)
      refine skip_ (w1 := ((((W9.setCell ⟨W6.heap.size, 0, none⟩ (.slice A6 no c6)).setCell ⟨W6.heap.size, 1, none⟩ (.slice A7 nr c7)).setCell ⟨W6.heap.size, 2, none⟩ (.int .i64 0)).setCell ⟨W6.heap.size, 3, none⟩ (.int .i64 0))) (by rfl) rfl (by go_simp; done) ?_
      refine hK.out _ _ ?_
      clear y0 y1 y2 y3 hf hfar
      generalize ((((W9.setCell ⟨W6.heap.size, 0, none⟩ (.slice A6 no c6)).setCell ⟨W6.heap.size, 1, none⟩ (.slice A7 nr c7)).setCell ⟨W6.heap.size, 2, none⟩ (.int .i64 0)).setCell ⟨W6.heap.size, 3, none⟩ (.int .i64 0)) = W10 at HX10 HQ6 HQ7 HB10 HBW ⊢
      clear hK KK
      refine done_ (by kernel_rfl) ?_
      clear hS0 hHeld
      obtain ⟨⟨y0, y1, y2, y3⟩, -⟩ := four HX10.out
      have hS0 : Below W10.heap.size W10 W10.drew ∧ W10.drew.cell? ⟨W6.heap.size, 0, none⟩ = some (.slice A6 no c6) ∧ W10.drew.cell? ⟨W6.heap.size, 1, none⟩ = some (.slice A7 nr c7) ∧ W10.drew.cell? ⟨W6.heap.size, 2, none⟩ = some (.int .i64 0) := ⟨below_drew (Below.refl _ _) 1, y0, y1, y2⟩
      clear y0 y1 y2 y3
      go_upto_region 8 with fail
      refine start_ (n := 24) (S := (fun W => Below W10.heap.size W10 W ∧ W.cell? ⟨W6.heap.size, 0, none⟩ = some (.slice A6 no c6) ∧ W.cell? ⟨W6.heap.size, 1, none⟩ = some (.slice A7 nr c7) ∧ W.cell? ⟨W6.heap.size, 2, none⟩ = some (.int .i64 0))) (ds := [21]) (bA 24 0) (by kernel_rfl) rfl rfl hS0 (fun hHeld => ?_)
      generalize W10.drew = w44 at hS0 hHeld ⊢
      refine pU 0 (some 43) (bA 24 1) rfl rfl ?_
      refine pU 1 (some 44) (bA 24 3) rfl rfl ?_
      refine pU 2 (some 45) (bA 24 7) rfl rfl ?_
      refine tU 3 (some 46) (bA 24 15) rfl rfl hHeld (by rintro w' ⟨q0, q1, q2, q3⟩; go_simp; with_reducible rfl) ?_
      refine pU 4 (some 47) (bA 24 31) rfl rfl ?_
      refine pU 5 (some 48) (bA 24 63) rfl rfl ?_
      refine pU 6 (some 49) (bA 24 127) rfl rfl ?_
      refine pU 7 (some 50) (bA 24 255) rfl rfl ?_
      refine pU 8 (some 51) (bA 24 511) rfl rfl ?_
      refine tU 9 (some 52) (bA 24 1023) rfl rfl hHeld (by rintro w' ⟨q0, q1, q2, q3⟩; go_simp; with_reducible rfl) ?_
      refine one_ (i := 10) (N := some 53) (bA 24 2047) rfl rfl (by kernel_rfl) (by decide) (fun KK hK => ?_)
      refine goes_ Tryz.func17 (by kernel_rfl) rfl #[.slice A1 no c1, .slice A6 no c6] (by rfl) rfl rfl (by simp only [List.map_toArray, List.map_cons, List.map_nil]; rfl) ?_
      refine Calls.mono (same26_any A1 A6 no c1 c6 ((outsC M L).map (mkP s d g)) _ (by rw [List.length_map]; exact HNO.out) (Kd.C_below HR1.out (cthen (cthen HB56.out HBW.out) hHeld.1)) HL1.out (Kd.C_below HQ6.out hHeld.1) l6 HOL.out HPS.out) ?_
      rintro e5 V11 ⟨rfl, hb5⟩
      refine ⟨_, rfl, ?_⟩
      have hSv := so_blw hHeld hb5
      clear hb5
      refine hK.out _ _ hSv (fun hHeld => ?_)
      clear hK KK
      refine nU ?_
      refine pU 11 (some 54) (bA 24 4095) rfl rfl ?_
      refine pU 12 (some 55) (bA 24 8191) rfl rfl ?_
      refine pU 13 (some 56) (bA 24 16383) rfl rfl ?_
      refine pU 14 (some 57) (bA 24 32767) rfl rfl ?_
      refine tU 15 (some 58) (bA 24 65535) rfl rfl hHeld (by rintro w' ⟨q0, q1, q2, q3⟩; go_simp; with_reducible rfl) ?_
      refine one_ (i := 16) (N := some 59) (bA 24 131071) rfl rfl (by kernel_rfl) (by decide) (fun KK hK => ?_)
      refine goes_ Tryz.func18 (by kernel_rfl) rfl #[.slice A2 nr c2, .slice A7 nr c7] (by rfl) rfl rfl (by simp only [List.map_toArray, List.map_cons, List.map_nil]; rfl) ?_
      refine Calls.mono (same24_any A2 A7 nr c2 c7 (rejC M L) _ HNR.out (Kd.C_below HR2.out (cthen (cthen HB56.out HBW.out) hHeld.1)) HL2.out (Kd.C_below HQ7.out hHeld.1) l7 HRL.out HRS.out) ?_
      rintro e5 V12 ⟨rfl, hb5⟩
      refine ⟨_, rfl, ?_⟩
      have hSv := so_blw hHeld hb5
      clear hb5
      refine hK.out _ _ hSv (fun hHeld => ?_)
      clear hK KK
      refine nU ?_
      refine pU 17 (some 60) (bA 24 262143) rfl rfl ?_
      refine pU 18 (some 61) (bA 24 524287) rfl rfl ?_
      refine pU 19 (some 62) (bA 24 1048575) rfl rfl ?_
      refine pU 20 (some 63) (bA 24 2097151) rfl rfl ?_
      refine last_ (i := 21) (N := some 64) (bA 24 4194303) rfl rfl (by kernel_rfl) (by decide) (fun KK hK => ?_)
      refine goes_ Tryz.func18 (by kernel_rfl) rfl #[.slice Ao n co, .slice A n c] (by rfl) rfl rfl (by simp only [List.map_toArray, List.map_cons, List.map_nil]; rfl) ?_
      refine Calls.mono (same24_any Ao A n co c l _ HN.out (Kd.C_below HRO.out (cthen HB95.out (cthen (cthen HB56.out HBW.out) hHeld.1))) HLO.out (Kd.C_below HC.out (cthen HB10.out hHeld.1)) HCC.out (by have := HL.out; omega) (fun x hx => ⟨(HOK.out x hx).len, (HOK.out x hx).cnt⟩)) ?_
      rintro e5 V13 ⟨rfl, hb5⟩
      refine ⟨_, rfl, ?_⟩
      have HBX := hid (cthen HB10.out (cthen hHeld.1 hb5))
      clear hb5
      refine hK.out _ _ ?_
      clear hK KK
      refine nU ?_
      refine pU 22 (some 65) (bA 24 8388607) rfl rfl ?_
      refine pU 23 (some 6) (bA 24 16777215) rfl rfl ?_
      refine done_ (by kernel_rfl) ?_
      clear hS0 hHeld
      go_wp2_with fail
      go_ret
      exact HFIN.out _ HBX.out
    · obtain rfl := hye er hoe
      have HEN := hid (ofErr_ne hoe)
      have HOE := hid hoe
      obtain ⟨ev, hev⟩ : ∃ ev, eV (some er) = ev := ⟨_, rfl⟩
      rw [hev]
      have heq : ∀ W, (binOp BinOp.eql 31 ev .nilIface).run Tryz.prog W = .ok (.bool false) W := fun W => by rw [← hev]; exact err_eql er W
      have heg : ∀ o W, (eqGuard BinOp.eql 31 o (Operand.const .nilIface) ev .nilIface).run Tryz.prog W = .ok () W := fun o W => by rw [← hev]; exact err_egl er o W
      clear hye hno hoe hev
      go_wp2_with fail
      refine hro.mono ?_
      rintro e W6 ⟨hy6, -, hb6⟩
      obtain rfl := hy6 er HOE.out
      have HB6 := hid (cthen HB5.out hb6)
      have HB56 := hid hb6
      obtain ⟨c0, hc0⟩ : ∃ c0, er.1 = c0 := ⟨_, rfl⟩
      obtain ⟨a0, ha0⟩ : ∃ a0, er.2.getD (-1) = a0 := ⟨_, rfl⟩
      rw [hc0, ha0]
      have hc1 : ¬ c0 = 0 := by rw [← hc0]; exact HEN.out
      clear hro hy6 hb6 x0 x1 x2 hc0 ha0
      go_upto_region 8 with fail
      obtain ⟨W10, hW7⟩ : ∃ W7, W6.alloc (.cells #[.slice none 0 0, .slice none 0 0, .int .i64 c0, .int .i64 a0] 35) = W7 := ⟨_, rfl⟩
      have hb67 : Below W6.heap.size W6 W10 := by rw [← hW7]; exact below_alloc (Below.refl _ _) _
      have HX10 := hid (show W10.heap[W6.heap.size]? = some (.cells #[.slice none 0 0, .slice none 0 0, .int .i64 c0, .int .i64 a0] 35 (0, 0)) by rw [← hW7]; exact blk_new W6 _)
      rw [hW7]
      have HBW := hid hb67
      have HB10 := hid (cthen HB6.out hb67)
      obtain ⟨⟨y0, y1, y2, y3⟩, -⟩ := four HX10.out
      have hS0 : Below W10.heap.size W10 W10.drew ∧ W10.drew.cell? ⟨W6.heap.size, 0, none⟩ = some (.slice none 0 0) ∧ W10.drew.cell? ⟨W6.heap.size, 1, none⟩ = some (.slice none 0 0) ∧ W10.drew.cell? ⟨W6.heap.size, 2, none⟩ = some (.int .i64 c0) := ⟨below_drew (Below.refl _ _) 1, y0, y1, y2⟩
      clear hW7 hb67 y0 y1 y2 y3
      refine start_ (n := 24) (S := (fun W => Below W10.heap.size W10 W ∧ W.cell? ⟨W6.heap.size, 0, none⟩ = some (.slice none 0 0) ∧ W.cell? ⟨W6.heap.size, 1, none⟩ = some (.slice none 0 0) ∧ W.cell? ⟨W6.heap.size, 2, none⟩ = some (.int .i64 c0))) (ds := [21]) (bA 24 0) (by kernel_rfl) rfl rfl hS0 (fun hHeld => ?_)
      generalize W10.drew = w44 at hS0 hHeld ⊢
      refine pU 0 (some 43) (bA 24 1) rfl rfl ?_
      refine pU 1 (some 44) (bA 24 3) rfl rfl ?_
      refine pU 2 (some 45) (bA 24 7) rfl rfl ?_
      refine tU 3 (some 46) (bA 24 15) rfl rfl hHeld (by rintro w' ⟨q0, q1, q2, q3⟩; go_simp; with_reducible rfl) ?_
      refine pU 4 (some 47) (bA 24 31) rfl rfl ?_
      refine pU 5 (some 48) (bA 24 63) rfl rfl ?_
      refine pU 6 (some 49) (bA 24 127) rfl rfl ?_
      refine pU 7 (some 50) (bA 24 255) rfl rfl ?_
      refine pU 8 (some 51) (bA 24 511) rfl rfl ?_
      refine tU 9 (some 52) (bA 24 1023) rfl rfl hHeld (by rintro w' ⟨q0, q1, q2, q3⟩; go_simp; with_reducible rfl) ?_
      refine one_ (i := 10) (N := some 53) (bA 24 2047) rfl rfl (by kernel_rfl) (by decide) (fun KK hK => ?_)
      refine goes_ Tryz.func17 (by kernel_rfl) rfl #[.slice none 0 0, .slice none 0 0] (by rfl) rfl rfl (by simp only [List.map_toArray, List.map_cons, List.map_nil]; rfl) ?_
      refine Calls.mono (same26_any none none 0 0 0 [] _ rfl (cp_nil _) (Nat.le_refl _) (cp_nil _) (Nat.le_refl _) (by decide) (fun p hp => by cases hp)) ?_
      rintro e5 V11 ⟨rfl, hb5⟩
      refine ⟨_, rfl, ?_⟩
      have hSv := so_blw hHeld hb5
      clear hb5
      refine hK.out _ _ hSv (fun hHeld => ?_)
      clear hK KK
      refine nU ?_
      refine pU 11 (some 54) (bA 24 4095) rfl rfl ?_
      refine pU 12 (some 55) (bA 24 8191) rfl rfl ?_
      refine pU 13 (some 56) (bA 24 16383) rfl rfl ?_
      refine pU 14 (some 57) (bA 24 32767) rfl rfl ?_
      refine tU 15 (some 58) (bA 24 65535) rfl rfl hHeld (by rintro w' ⟨q0, q1, q2, q3⟩; go_simp; with_reducible rfl) ?_
      refine one_ (i := 16) (N := some 59) (bA 24 131071) rfl rfl (by kernel_rfl) (by decide) (fun KK hK => ?_)
      refine goes_ Tryz.func18 (by kernel_rfl) rfl #[.slice none 0 0, .slice none 0 0] (by rfl) rfl rfl (by simp only [List.map_toArray, List.map_cons, List.map_nil]; rfl) ?_
      refine Calls.mono (same24_any none none 0 0 0 [] _ rfl (cs_nil _) (Nat.le_refl _) (cs_nil _) (Nat.le_refl _) (by decide) (fun p hp => by cases hp)) ?_
      rintro e5 V12 ⟨rfl, hb5⟩
      refine ⟨_, rfl, ?_⟩
      have hSv := so_blw hHeld hb5
      clear hb5
      refine hK.out _ _ hSv (fun hHeld => ?_)
      clear hK KK
      refine nU ?_
      refine pU 17 (some 60) (bA 24 262143) rfl rfl ?_
      refine pU 18 (some 61) (bA 24 524287) rfl rfl ?_
      refine pU 19 (some 62) (bA 24 1048575) rfl rfl ?_
      refine pU 20 (some 63) (bA 24 2097151) rfl rfl ?_
      refine last_ (i := 21) (N := some 64) (bA 24 4194303) rfl rfl (by kernel_rfl) (by decide) (fun KK hK => ?_)
      refine goes_ Tryz.func18 (by kernel_rfl) rfl #[.slice Ao n co, .slice A n c] (by rfl) rfl rfl (by simp only [List.map_toArray, List.map_cons, List.map_nil]; rfl) ?_
      refine Calls.mono (same24_any Ao A n co c l _ HN.out (Kd.C_below HRO.out (cthen HB95.out (cthen (cthen HB56.out HBW.out) hHeld.1))) HLO.out (Kd.C_below HC.out (cthen HB10.out hHeld.1)) HCC.out (by have := HL.out; omega) (fun x hx => ⟨(HOK.out x hx).len, (HOK.out x hx).cnt⟩)) ?_
      rintro e5 V13 ⟨rfl, hb5⟩
      refine ⟨_, rfl, ?_⟩
      have HBX := hid (cthen HB10.out (cthen hHeld.1 hb5))
      clear hb5
      refine hK.out _ _ ?_
      clear hK KK
      refine nU ?_
      refine pU 22 (some 65) (bA 24 8388607) rfl rfl ?_
      refine pU 23 (some 6) (bA 24 16777215) rfl rfl ?_
      refine done_ (by kernel_rfl) ?_
      clear hS0 hHeld
      go_wp2_with fail
      go_ret
      exact HFIN.out _ HBX.out
end Bn
end Go.Proofs.YtmfmomfhiieilaaGreatDoor
