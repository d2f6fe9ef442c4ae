/- The walk of the law 'BundleGreedy'. -/
import Derived.Test.YtmfmomfhiieilaaGreatDoorBaw
import Derived.Test.YtmfmomfhiieilaaGreatDoorBfw
set_option linter.unusedVariables false
set_option linter.unusedSimpArgs false
namespace Go.Proofs.YtmfmomfhiieilaaGreatDoor
open Go.RowKit Go.Shelf Go.Proofs.YtmfmomfhiieilaaGreatDoor.It Go.Proofs.YtmfmomfhiieilaaGreatDoorW.PrintWords Go.Proofs.YtmfmomfhiieilaaGreatDoorW.PrintLast Go.Proofs.YtmfmomfhiieilaaGreatDoorW.PrintMore
namespace Bn
open PBundleSorted
/-- The numbers of a chunk are those of their types. -/
structure CkR (x : Ck) : Prop where
  t0 : 0 ≤ x.f0
  t1 : x.f0 ≤ 255
  g0 : 0 ≤ x.f1
  g1 : x.f1 ≤ 255
  byt : Byt x.f2
  nds : okL x.f3
theorem ckOk_of {x : Ck} (h : CkR x) (hf : fewC x) : CkOk x := ⟨h.t0, h.t1, h.g0, h.g1, h.byt, h.nds, by have := hf.1; omega, by have := hf.2; omega⟩
theorem fstBad_ne : ∀ (l : List Ck) (i : Nat) (er : Int × Option Int), fstBad i l = some er → er.1 ≠ 0
  | [], i, er, h => by rw [fstBad] at h; cases h
  | x :: l, i, er, h => by
    rw [fstBad] at h
    split at h
    · exact fstBad_ne l (i + 1) er h
    · next h0 => injection h with h; subst h; exact h0
theorem ofErr_ne {M : Int} {l : List Ck} {er : Int × Option Int} (h : ofErr M l = some er) : er.1 ≠ 0 := by
  unfold ofErr at h
  split at h
  · injection h with h; subst h; decide
  · split at h
    · injection h with h; subst h; decide
    · exact fstBad_ne _ _ _ h
theorem field_code (v1 v2 : Option Addr) (a b c d : Nat) (x y : Int) (w : World) : (Instr.field 35 (.agg #[.slice v1 a b, .slice v2 c d, .int .i64 x, .int .i64 y]) 2).run Tryz.prog w = .ok (.int .i64 x) w := by kernel_rfl
theorem err_ne (er : Int × Option Int) (W : World) : (binOp BinOp.neq 31 (eV (some er)) Value.nilIface).run Tryz.prog W = .ok (.bool true) W := by
  obtain ⟨c, _ | n⟩ := er <;> kernel_rfl
theorem err_eg (er : Int × Option Int) (o : Operand) (W : World) : (eqGuard BinOp.neq 31 o (Operand.const Value.nilIface) (eV (some er)) Value.nilIface).run Tryz.prog W = .ok () W := by
  obtain ⟨c, _ | n⟩ := er <;> kernel_rfl
theorem cl1x_blw {S W W' : World} {a0 a1 : Addr} {v0 v1 : Value} (h : Below S.heap.size S W ∧ W.cell? a0 = some v0 ∧ W.cell? a1 = some v1) (hb : Below W.heap.size W W') : Below S.heap.size S W' ∧ W'.cell? a0 = some v0 ∧ W'.cell? a1 = some v1 := ⟨cthen h.1 hb, pw_cell_below hb h.2.1, pw_cell_below hb h.2.2⟩
set_option maxRecDepth 100000 in
set_option maxHeartbeats 8000000 in
theorem greedy_any (s d g M : Int) (l : List Ck) (A : Option Addr) (n c : Nat) (w : World) (hg : GTab w) (hgl : GLg w) (hn : l.length = n) (hC : CsC w A n l) (hc : n ≤ c) (hR : ∀ x ∈ l, CkR x) :
    Calls Tryz.prog 3 #[.agg #[.int .u16 s, .int .u16 d, .int .u32 g], .int .i64 M, .slice A n c] w (IsPost (.bool true) w) := by
  obtain ⟨w1, hw1⟩ : ∃ w1, w.alloc (.cells #[.int .u16 s, .int .u16 d, .int .u32 g] 25) = w1 := ⟨_, rfl⟩
  have hb1 : Below w.heap.size w w1 := by rw [← hw1]; exact below_alloc (Below.refl _ _) _
  have HX1 := hid (show w1.heap[w.heap.size]? = some (.cells #[.int .u16 s, .int .u16 d, .int .u32 g] 25 (0, 0)) by rw [← hw1]; exact blk_new w _)
  have HW := hid hw1
  have HB1 := hid hb1
  have HG := hid (hg.below hb1)
  have HGL := hid (hgl.below hb1)
  have HC := hid (Kd.C_below hC hb1)
  have HN := hid hn
  have HCC := hid hc
  have HR := hid hR
  clear hg hgl hn hC hR hw1 hb1
  have haw := bawake_any w1 HG.out HGL.out
  go_enter Tryz.func3, Tryz.ntmps3
  go_wp2_with fail
  rw [HW.out]
  refine haw.mono ?_
  rintro e W2 ⟨rfl, hb2⟩
  have HB2 := hid hb2
  obtain ⟨fb, hfb, hft⟩ := few_any A n c l W2 HN.out (Kd.C_below HC.out hb2) HCC.out
  have HFT := hid hft
  clear haw hb2 hft
  cases fb with
  | false =>
    go_wp2_with fail
    refine hfb.mono ?_
    rintro e W3 ⟨rfl, hb3⟩
    have HB3 := hid (cthen HB2.out hb3)
    have haw := bawake_any W3 (HG.out.below HB3.out) (HGL.out.below HB3.out)
    clear hb3 hfb
    go_wp2_with fail
    refine haw.mono ?_
    rintro e W4 ⟨rfl, hb4⟩
    have HB4 := hid (cthen HB3.out hb4)
    clear hb4 haw
    go_wp2_with fail
    go_ret
    exact ⟨rfl, HB1.out.trans (HB4.out.mono HB1.out.size)⟩
  | true =>
    have hl20 := (HFT.out rfl).1
    have HOK := hid (show ∀ x ∈ l, CkOk x from fun x hx => ckOk_of (HR.out x hx) ((HFT.out rfl).2 x hx))
    have HL := hid (show n ≤ 20 by have := HN.out; omega)
    clear hl20
    go_wp2_with fail
    refine hfb.mono ?_
    rintro e W3 ⟨rfl, hb3⟩
    have HB3 := hid (cthen HB2.out hb3)
    clear hb3 hfb
    have hof := of_any s d g M l A n c W3 (HG.out.below HB3.out) (HGL.out.below HB3.out) HN.out (Kd.C_below HC.out HB3.out) HCC.out (by have := HL.out; omega) HOK.out
    obtain ⟨⟨x0, x1, x2⟩, -⟩ := three (blk_below HX1.out HB3.out)
    go_wp2_with fail
    refine hof.mono ?_
    rintro e W4 ⟨hye, hno, hb4⟩
    have HB4 := hid (cthen HB3.out hb4)
    clear hb4 hof x0 x1 x2
    obtain ⟨oe, hoe⟩ : ∃ oe, ofErr M l = oe := ⟨_, rfl⟩
    rcases oe with _ | er
    · obtain ⟨A1, c1, A2, c2, rfl, l1, r1, -, -⟩ := hno hoe
      have HGRE := hid (Pkg.gre_packs (fitC M) (roomC M) l)
      have HOQ := hid (fun q (hq : q ∈ outsC M l) => (outs_ok M l HOK.out (by have := HL.out; have := HN.out; omega) l.length q (by rw [List.take_length]; exact hq)))
      change Hid (Pkg.Gre (roomC M) (outsC M l)) at HGRE
      obtain ⟨outs, houts⟩ : ∃ o, outsC M l = o := ⟨_, rfl⟩
      rw [houts] at HGRE l1 r1 ⊢
      simp only [houts] at HOQ
      obtain ⟨no, hnoe⟩ : ∃ no, outs.length = no := ⟨_, rfl⟩
      obtain ⟨nr, hnre⟩ : ∃ nr, (rejC M l).length = nr := ⟨_, rfl⟩
      rw [hnoe] at l1 r1 ⊢
      rw [hnre]
      have HNO := hid hnoe
      have HR1 := hid r1
      have HNOL := hid (show no ≤ 900 by
        have h := (Pkg.packs_len (fitC M) (roomC M) l).1
        change (outsC M l).length ≤ _ at h
        rw [houts, hnoe] at h
        have := HL.out
        have := HN.out
        omega)
      have HI0 := hid (Below.refl W4.heap.size W4)
      clear hye hno houts hnoe hnre r1 hoe l1
      go_wp2_with fail
      go_loopw [10] (fun vi W => ∃ (t : Nat), vi = .int .i64 ((t : Int) + 1) ∧ t ≤ no ∧ Hid (Below W4.heap.size W4 W)) (fun vi _ => (no + 1) - (intOf vi).toNat)
      case atStart => exact ⟨0, rfl, by omega, HI0⟩
      case round =>
        obtain ⟨t, rfl, ht, hI⟩ := hrel
        clear HI0
        by_cases hlt : t + 1 < no
        · have hps : (outs.map (mkP s d g)).length = no := by rw [List.length_map]; exact HNO.out
          have hr := Kd.C_below HR1.out hI.out
          obtain ⟨b, off, A5, c5, rfl, -, -, -, p3, l5, g5⟩ := pk_at hr (t + 1) (by rw [hps]; exact hlt)
          obtain ⟨b', off', A6, c6, e1, -, -, -, p6, l6, g6⟩ := pk_at hr t (by rw [hps]; omega)
          injection e1 with e1
          injection e1 with e1 e2 e3
          subst e1
          subst e2
          have hx1 : t + 1 < outs.length := by rw [HNO.out]; exact hlt
          have hx0 : t < outs.length := by omega
          rw [show (outs.map (mkP s d g))[t + 1] = mkP s d g outs[t + 1] by rw [List.getElem_map]] at p3 l5 g5
          rw [show (outs.map (mkP s d g))[t] = mkP s d g outs[t] by rw [List.getElem_map]] at p6 l6 g6
          have hgr := HGRE.out.2 t hx1
          have hq1 := HOQ.out _ (List.getElem_mem hx1)
          have hq0 := HOQ.out _ (List.getElem_mem hx0)
          have hne := HGRE.out.1 _ (List.getElem_mem hx1)
          obtain ⟨q1, hq1e⟩ : ∃ q, outs[t + 1] = q := ⟨_, rfl⟩
          obtain ⟨q0, hq0e⟩ : ∃ q, outs[t] = q := ⟨_, rfl⟩
          rw [hq1e] at p3 l5 g5 hgr hq1 hne
          rw [hq0e] at p6 l6 g6 hgr hq0
          change _ = some (Value.slice A5 q1.length c5) at p3
          change _ = some (Value.slice A6 q0.length c6) at p6
          change CsC wr A5 q1.length q1 at g5
          change CsC wr A6 q0.length q0 at g6
          change q0.length ≤ c6 at l6
          obtain ⟨n1, hn1⟩ : ∃ n1, q1.length = n1 := ⟨_, rfl⟩
          obtain ⟨n0, hn0⟩ : ∃ n0, q0.length = n0 := ⟨_, rfl⟩
          have hn1p : 0 < n1 := by rw [← hn1]; cases q1 with | nil => exact absurd rfl hne | cons a q => simp
          have hi0 : 0 < q1.length := by omega
          have hrm := hgr q1[0] (by rw [List.head?_eq_getElem?, List.getElem?_eq_getElem hi0])
          have hxo := hq1.2 _ (List.getElem_mem hi0)
          obtain ⟨b3, off3, B1, d1, B2, d2, rfl, k0, k1, k2, k3, l1, g1, l2, g2⟩ := chunk_at g5 0 hi0
          obtain ⟨x, hx⟩ : ∃ x, q1[0] = x := ⟨_, rfl⟩
          rw [hx] at k0 k1 k2 k3 l1 g1 l2 g2 hrm hxo
          obtain ⟨m1, hm1⟩ : ∃ m, x.f2.length = m := ⟨_, rfl⟩
          obtain ⟨m2, hm2⟩ : ∃ m, x.f3.length = m := ⟨_, rfl⟩
          have hK : kC.K wr x [.int .u8 x.f0, .int .u8 x.f1, .slice B1 m1 d1, .slice B2 m2 d2] := by
            have h := k42_mk wr x l1 g1 l2 g2
            rw [hm1, hm2] at h
            exact h
          rw [hm1] at k2
          rw [hm2] at k3
          rw [hn1] at p3
          rw [hn0] at p6 g6 l6
          rw [Nat.zero_mul, Nat.add_zero] at k0 k1 k2 k3
          have HK := hid hK
          have HRM := hid hrm
          have HG6 := hid g6
          have HN0 := hid hn0
          have HOK2 := hid (okS_snoc q0 x hq0.1 hq0.2 hxo)
          have HN0L := hid (show n0 ≤ 900 by rw [← hn0]; exact hq0.1)
          have HTL := hid (show t + 1 ≤ 900 by have := HNOL.out; omega)
          have hlti : (t : Int) + 1 < (no : Int) := by omega
          have hn1i : ¬ ((n1 : Int) = 0) := by omega
          have hn1j : (0 : Int) < (n1 : Int) := by omega
          have hwt : wrap64 (t : Int) = (t : Int) := by have := HTL.out; unfold wrap64; omega
          clear hps hr l5 g5 hx1 hx0 hgr hq1 hq0 hne hq1e hq0e hn1 hn0 hi0 hrm hxo hx hm1 hm2 hK l1 g1 l2 g2 g6 e3
          have hp6 := pw_cell_below (below_alloc (Below.refl _ _) (.cells #[.int .u8 x.f0, .int .u8 x.f1, .slice B1 m1 d1, .slice B2 m2 d2] 42)) p6
          go_upto_region 13 with fail
          obtain ⟨W6, hW6⟩ : ∃ W6, wr.alloc (.cells #[.int .u8 x.f0, .int .u8 x.f1, .slice B1 m1 d1, .slice B2 m2 d2] 42) = W6 := ⟨_, rfl⟩
          have hb6 : Below wr.heap.size wr W6 := by rw [← hW6]; exact below_alloc (Below.refl _ _) _
          have hx6 : W6.heap[wr.heap.size]? = some (.cells #[.int .u8 x.f0, .int .u8 x.f1, .slice B1 m1 d1, .slice B2 m2 d2] 42 (0, 0)) := by rw [← hW6]; exact blk_new wr _
          rw [hW6]
          rw [hW6] at hp6
          obtain ⟨⟨y0, y1, y2, y3⟩, -⟩ := four hx6
          have HB6 := hid hb6
          have HX6 := hid hx6
          have HP6 := hid hp6
          have hS0 : Below W6.heap.size W6 W6.drew ∧ W6.drew.cell? ⟨b, off + t * 4 + 3, none⟩ = some (.slice A6 n0 c6) ∧ W6.drew.cell? ⟨wr.heap.size, 0, none⟩ = some (.int .u8 x.f0) ∧ W6.drew.cell? ⟨wr.heap.size, 1, none⟩ = some (.int .u8 x.f1) ∧ W6.drew.cell? ⟨wr.heap.size, 2, none⟩ = some (.slice B1 m1 d1) ∧ W6.drew.cell? ⟨wr.heap.size, 3, none⟩ = some (.slice B2 m2 d2) := ⟨below_drew (Below.refl _ _) 1, hp6, y0, y1, y2, y3⟩
          have hcl := clip3 A6 n0 c6 l6
          have htn : (t : Int) < (no : Int) := by omega
          clear hW6 hb6 hx6 hp6 y0 y1 y2 y3 p3 p6 k0 k1 k2 k3 hn1i hn1j
          refine start_ (n := 13) (S := (fun W => Below W6.heap.size W6 W ∧ W.cell? ⟨b, off + t * 4 + 3, none⟩ = some (.slice A6 n0 c6) ∧ W.cell? ⟨wr.heap.size, 0, none⟩ = some (.int .u8 x.f0) ∧ W.cell? ⟨wr.heap.size, 1, none⟩ = some (.int .u8 x.f1) ∧ W.cell? ⟨wr.heap.size, 2, none⟩ = some (.slice B1 m1 d1) ∧ W.cell? ⟨wr.heap.size, 3, none⟩ = some (.slice B2 m2 d2))) (ds := [11]) #[false, false, false, false, false, false, false, false, false, false, false, false, false] (by kernel_rfl) rfl rfl hS0 (fun hHeld => ?_)
          generalize W6.drew = w45 at hS0 hHeld ⊢
          refine pure_ (i := 0) (N := some 65) (v := ?_) (a' := ?_) #[true, false, false, false, false, false, false, false, false, false, false, false, false] rfl rfl (by kernel_rfl) (fun _ _ _ h => h) (Or.inl ⟨by rfl, ?_⟩) ?_ ?_
          rotate_left
          · intro w'
            go_simp
            with_reducible rfl
          rotate_left
          · simp only [Act.put, List.setIfInBounds_toArray, List.set_cons_zero, List.set_cons_succ, i64_w, i32_w]
            rfl
          refine pure_ (i := 1) (N := some 66) (v := ?_) (a' := ?_) #[true, true, false, false, false, false, false, false, false, false, false, false, false] rfl rfl (by kernel_rfl) (fun _ _ _ h => h) (Or.inl ⟨by rfl, ?_⟩) ?_ ?_
          rotate_left
          · intro w'
            go_simp
            with_reducible rfl
          rotate_left
          · simp only [Act.put, List.setIfInBounds_toArray, List.set_cons_zero, List.set_cons_succ, i64_w, i32_w]
            rfl
          refine pure_ (i := 2) (N := some 67) (v := ?_) (a' := ?_) #[true, true, true, false, false, false, false, false, false, false, false, false, false] rfl rfl (by kernel_rfl) (fun _ _ _ h => h) (Or.inl ⟨by rfl, ?_⟩) ?_ ?_
          rotate_left
          · intro w'
            go_simp
            with_reducible rfl
          rotate_left
          · simp only [Act.put, List.setIfInBounds_toArray, List.set_cons_zero, List.set_cons_succ, i64_w, i32_w]
            rfl
          refine pure_ (i := 3) (N := some 68) (v := ?_) (a' := ?_) #[true, true, true, true, false, false, false, false, false, false, false, false, false] rfl rfl (by kernel_rfl) (fun _ _ _ h => h) (Or.inl ⟨by rfl, ?_⟩) ?_ ?_
          rotate_left
          · intro w'
            go_simp
            with_reducible rfl
          rotate_left
          · simp only [Act.put, List.setIfInBounds_toArray, List.set_cons_zero, List.set_cons_succ, i64_w, i32_w]
            rfl
          refine pure_ (i := 4) (N := some 69) (v := ?_) (a' := ?_) #[true, true, true, true, true, false, false, false, false, false, false, false, false] rfl rfl (by kernel_rfl) (fun _ _ _ h => h) (Or.inl ⟨by rfl, ?_⟩) ?_ ?_
          rotate_left
          · intro w'
            go_simp
            with_reducible rfl
          rotate_left
          · simp only [Act.put, List.setIfInBounds_toArray, List.set_cons_zero, List.set_cons_succ, i64_w, i32_w]
            rfl
          refine pure_ (i := 6) (N := some 71) (v := ?_) (a' := ?_) #[true, true, true, true, true, false, true, false, false, false, false, false, false] rfl rfl (by kernel_rfl) (fun _ _ _ h => h) (Or.inl ⟨by rfl, ?_⟩) ?_ ?_
          rotate_left
          · intro w'
            go_simp
            with_reducible rfl
          rotate_left
          · simp only [Act.put, List.setIfInBounds_toArray, List.set_cons_zero, List.set_cons_succ, i64_w, i32_w]
            rfl
          refine pure_ (i := 7) (N := some 72) (v := ?_) (a' := ?_) #[true, true, true, true, true, false, true, true, false, false, false, false, false] rfl rfl (by kernel_rfl) (fun _ _ _ h => h) (Or.inl ⟨by rfl, ?_⟩) ?_ ?_
          rotate_left
          · intro w'
            go_simp
            with_reducible rfl
          rotate_left
          · simp only [Act.put, List.setIfInBounds_toArray, List.set_cons_zero, List.set_cons_succ, i64_w, i32_w]
            rfl
          refine take_ (i := 5) (N := some 70) (v := ?_) (a' := ?_) #[true, true, true, true, true, true, true, true, false, false, false, false, false] rfl rfl (by kernel_rfl) (fun _ _ _ h => h) (Or.inl ⟨by rfl, ?_⟩) hHeld ?_ ?_
          rotate_left
          · rintro w' ⟨q0, q1, q2, q3, q4, q5⟩
            go_simp
            with_reducible rfl
          rotate_left
          · simp only [Act.put, List.setIfInBounds_toArray, List.set_cons_zero, List.set_cons_succ, i64_w, i32_w]
            rfl
          refine pure_ (i := 8) (N := some 73) (v := ?_) (a' := ?_) #[true, true, true, true, true, true, true, true, true, false, false, false, false] rfl rfl (by kernel_rfl) (fun _ _ _ h => h) (Or.inl ⟨by rfl, ?_⟩) ?_ ?_
          rotate_left
          · intro w'
            go_simp
            with_reducible rfl
          rotate_left
          · simp only [Act.put, List.setIfInBounds_toArray, List.set_cons_zero, List.set_cons_succ, i64_w, i32_w]
            rfl
          refine take_ (i := 9) (N := some 74) (v := ?_) (a' := ?_) #[true, true, true, true, true, true, true, true, true, true, false, false, false] rfl rfl (by kernel_rfl) (fun _ _ _ h => h) (Or.inl ⟨by rfl, ?_⟩) hHeld ?_ ?_
          rotate_left
          · rintro w' ⟨q0, q1, q2, q3, q4, q5⟩
            go_simp
            with_reducible rfl
          rotate_left
          · simp only [Act.put, List.setIfInBounds_toArray, List.set_cons_zero, List.set_cons_succ, i64_w, i32_w]
            rfl
          refine one_ (i := 10) (N := some 75) #[true, true, true, true, true, true, true, true, true, true, true, false, false] rfl rfl (by kernel_rfl) (by decide) (fun KK hK => ?_)
          refine value_ (w1 := w45.alloc (.cells #[.int .u8 x.f0, .int .u8 x.f1, .slice B1 m1 d1, .slice B2 m2 d2] 42)) (v := .slice (some ⟨w45.heap.size, 0, none⟩) 1 1) (by rfl) rfl (by go_simp; done) ?_
          refine hK.out _ _ (rm_blw hHeld (below_alloc (Below.refl _ _) _)) (fun hHeld7 => ?_)
          clear hK KK
          refine norm_ (a' := ?_) ?_ ?_
          rotate_left
          · show Act.put _ (some 75) _ = _
            simp only [Act.put, List.setIfInBounds_toArray, List.set_cons_zero, List.set_cons_succ, i64_w, i32_w]
            rfl
          refine last_ (i := 11) (N := some 76) #[true, true, true, true, true, true, true, true, true, true, true, true, false] rfl rfl (by kernel_rfl) (by decide) (fun KK hK => ?_)
          refine step_clip kC (W := w45) (by rfl) _ _ 26 42 _ 56 (by rfl) Tryz.underlying26 infoC rfl (by decide) (by decide) A6 n0 q0 x [.int .u8 x.f0, .int .u8 x.f1, .slice B1 m1 d1, .slice B2 m2 d2] (by rfl) (by rfl) (Kd.C_below HG6.out (cthen HB6.out hHeld.1)) (kC.K_below (cthen HB6.out hHeld.1) HK.out) (fun h => by have h2 := HG6.out; rw [h] at h2; exact cs_none h2) (by have := HN0L.out; omega) ?_
          rintro A7 c7 W7 l7 r7 hb7
          have HR7 := hid r7
          have HL7 := hid l7
          have HB67 := hid (cthen hHeld.1 hb7)
          clear r7 l7 hb7
          refine hK.out _ _ ?_
          clear hK KK
          refine norm_ (a' := ?_) ?_ ?_
          rotate_left
          · show Act.put _ (some 76) _ = _
            simp only [Act.put, List.setIfInBounds_toArray, List.set_cons_zero, List.set_cons_succ, i64_w, i32_w]
            rfl
          refine pure_ (i := 12) (N := some 13) (v := ?_) (a' := ?_) #[true, true, true, true, true, true, true, true, true, true, true, true, true] rfl rfl (by kernel_rfl) (fun _ _ _ h => h) (Or.inl ⟨by rfl, ?_⟩) ?_ ?_
          rotate_left
          · intro w'
            go_simp
            with_reducible rfl
          rotate_left
          · simp only [Act.put, List.setIfInBounds_toArray, List.set_cons_zero, List.set_cons_succ, i64_w, i32_w]
            rfl
          refine done_ (by kernel_rfl) ?_
          clear hS0 hHeld hHeld7 hcl
          have HWI := hid (show wrap64 ((t : Int) + 1 + 1) = ((t + 1 : Nat) : Int) + 1 by have := HTL.out; unfold wrap64; omega)
          have HTY := hid (fun W (hW : Below wr.heap.size wr W) => rtypes_any A6 n0 c6 q0 W HN0.out (Kd.C_below HG6.out hW) l6 (by have := HN0L.out; omega))
          have HMY := hid (fun A4 c4 W (r : BC W A4 (tys q0)) (l : (tys q0).length ≤ c4) => rmay_any x.f0 A4 (tys q0).length c4 (tys q0) W rfl r l (by rw [tys_len, HN0.out]; have := HN0L.out; omega))
          have HSZ := hid (fun W (hW : Below W7.heap.size W7 W) => rpsize_any A7 (n0 + 1) c7 (q0 ++ [x]) W (by rw [List.length_append, HN0.out]; rfl) (Kd.C_below HR7.out hW) HL7.out HOK2.out)
          have hrm := HRM.out
          unfold roomC at hrm
          obtain ⟨mb, hmb⟩ : ∃ mb, mayR x.f0 (tys q0) = mb := ⟨_, rfl⟩
          obtain ⟨z, hz⟩ : ∃ z, 12 + psz (q0 ++ [x]) = z := ⟨_, rfl⟩
          simp only [hmb] at HMY
          simp only [hz] at HSZ
          rw [hmb, hz] at hrm
          have hp7 := pw_cell_below HB67.out HP6.out
          obtain ⟨⟨y0, y1, y2, y3⟩, -⟩ := four (blk_below HX6.out HB67.out)
          have hS2 : Below W7.heap.size W7 W7.drew ∧ W7.drew.cell? ⟨b, off + t * 4 + 3, none⟩ = some (.slice A6 n0 c6) ∧ W7.drew.cell? ⟨wr.heap.size, 0, none⟩ = some (.int .u8 x.f0) := ⟨below_drew (Below.refl _ _) 1, hp7, y0⟩
          clear hmb hz hp7 y0 y1 y2 y3
          cases mb with
          | false =>
            clear hrm
            go_upto_region 14 with fail
            refine start_ (n := 16) (S := (fun W => Below W7.heap.size W7 W ∧ W.cell? ⟨b, off + t * 4 + 3, none⟩ = some (.slice A6 n0 c6) ∧ W.cell? ⟨wr.heap.size, 0, none⟩ = some (.int .u8 x.f0))) (ds := [9]) #[false, false, false, false, false, false, false, false, false, false, false, false, false, false, false, false] (by kernel_rfl) rfl rfl hS2 (fun hHeld => ?_)
            generalize W7.drew = w46 at hS2 hHeld ⊢
            refine pure_ (i := 0) (N := some 77) (v := ?_) (a' := ?_) #[true, false, false, false, false, false, false, false, false, false, false, false, false, false, false, false] rfl rfl (by kernel_rfl) (fun _ _ _ h => h) (Or.inl ⟨by rfl, ?_⟩) ?_ ?_
            rotate_left
            · intro w'
              go_simp
              with_reducible rfl
            rotate_left
            · simp only [Act.put, List.setIfInBounds_toArray, List.set_cons_zero, List.set_cons_succ, i64_w, i32_w]
              rfl
            refine pure_ (i := 2) (N := some 79) (v := ?_) (a' := ?_) #[true, false, true, false, false, false, false, false, false, false, false, false, false, false, false, false] rfl rfl (by kernel_rfl) (fun _ _ _ h => h) (Or.inl ⟨by rfl, ?_⟩) ?_ ?_
            rotate_left
            · intro w'
              go_simp
              with_reducible rfl
            rotate_left
            · simp only [Act.put, List.setIfInBounds_toArray, List.set_cons_zero, List.set_cons_succ, i64_w, i32_w]
              rfl
            refine pure_ (i := 3) (N := some 80) (v := ?_) (a' := ?_) #[true, false, true, true, false, false, false, false, false, false, false, false, false, false, false, false] rfl rfl (by kernel_rfl) (fun _ _ _ h => h) (Or.inl ⟨by rfl, ?_⟩) ?_ ?_
            rotate_left
            · intro w'
              go_simp
              with_reducible rfl
            rotate_left
            · simp only [Act.put, List.setIfInBounds_toArray, List.set_cons_zero, List.set_cons_succ, i64_w, i32_w]
              rfl
            refine pure_ (i := 4) (N := some 81) (v := ?_) (a' := ?_) #[true, false, true, true, true, false, false, false, false, false, false, false, false, false, false, false] rfl rfl (by kernel_rfl) (fun _ _ _ h => h) (Or.inl ⟨by rfl, ?_⟩) ?_ ?_
            rotate_left
            · intro w'
              go_simp
              with_reducible rfl
            rotate_left
            · simp only [Act.put, List.setIfInBounds_toArray, List.set_cons_zero, List.set_cons_succ, i64_w, i32_w]
              rfl
            refine pure_ (i := 5) (N := some 82) (v := ?_) (a' := ?_) #[true, false, true, true, true, true, false, false, false, false, false, false, false, false, false, false] rfl rfl (by kernel_rfl) (fun _ _ _ h => h) (Or.inl ⟨by rfl, ?_⟩) ?_ ?_
            rotate_left
            · intro w'
              go_simp
              with_reducible rfl
            rotate_left
            · simp only [Act.put, List.setIfInBounds_toArray, List.set_cons_zero, List.set_cons_succ, i64_w, i32_w]
              rfl
            refine pure_ (i := 6) (N := some 83) (v := ?_) (a' := ?_) #[true, false, true, true, true, true, true, false, false, false, false, false, false, false, false, false] rfl rfl (by kernel_rfl) (fun _ _ _ h => h) (Or.inl ⟨by rfl, ?_⟩) ?_ ?_
            rotate_left
            · intro w'
              go_simp
              with_reducible rfl
            rotate_left
            · simp only [Act.put, List.setIfInBounds_toArray, List.set_cons_zero, List.set_cons_succ, i64_w, i32_w]
              rfl
            refine take_ (i := 1) (N := some 78) (v := ?_) (a' := ?_) #[true, true, true, true, true, true, true, false, false, false, false, false, false, false, false, false] rfl rfl (by kernel_rfl) (fun _ _ _ h => h) (Or.inl ⟨by rfl, ?_⟩) hHeld ?_ ?_
            rotate_left
            · rintro w' ⟨q0, q1, q2⟩
              go_simp
              with_reducible rfl
            rotate_left
            · simp only [Act.put, List.setIfInBounds_toArray, List.set_cons_zero, List.set_cons_succ, i64_w, i32_w]
              rfl
            refine take_ (i := 7) (N := some 84) (v := ?_) (a' := ?_) #[true, true, true, true, true, true, true, true, false, false, false, false, false, false, false, false] rfl rfl (by kernel_rfl) (fun _ _ _ h => h) (Or.inl ⟨by rfl, ?_⟩) hHeld ?_ ?_
            rotate_left
            · rintro w' ⟨q0, q1, q2⟩
              go_simp
              with_reducible rfl
            rotate_left
            · simp only [Act.put, List.setIfInBounds_toArray, List.set_cons_zero, List.set_cons_succ, i64_w, i32_w]
              rfl
            refine one_ (i := 8) (N := some 85) #[true, true, true, true, true, true, true, true, true, false, false, false, false, false, false, false] rfl rfl (by kernel_rfl) (by decide) (fun KK hK => ?_)
            refine goes_ Tryz.func12 (by kernel_rfl) rfl #[.slice A6 n0 c6] (by rfl) rfl rfl (by simp only [List.map_toArray, List.map_cons, List.map_nil]; rfl) ?_
            refine Calls.mono (HTY.out _ (cthen HB6.out (cthen HB67.out hHeld.1))) ?_
            rintro e4 W4' ⟨v4, rfl, hr4, hb4⟩
            refine ⟨_, rfl, ?_⟩
            obtain ⟨A4, c4, rfl, l4, r4⟩ := Kd.R_reads hr4
            have hS8 := cl1x_blw hHeld hb4
            have HR4 := hid (show BC W4' A4 (tys q0) from r4)
            have HL4 := hid l4
            clear hr4 hb4 r4 l4
            refine hK.out _ _ hS8 (fun hHeld8 => ?_)
            clear hK KK
            refine norm_ (a' := ?_) ?_ ?_
            rotate_left
            · show Act.put _ (some 85) _ = _
              simp only [Act.put, List.setIfInBounds_toArray, List.set_cons_zero, List.set_cons_succ, i64_w, i32_w]
              rfl
            refine last_ (i := 9) (N := some 86) #[true, true, true, true, true, true, true, true, true, true, false, false, false, false, false, false] rfl rfl (by kernel_rfl) (by decide) (fun KK hK => ?_)
            refine goes_ Tryz.func11 (by kernel_rfl) rfl #[.int .u8 x.f0, .slice A4 (tys q0).length c4] (by rfl) rfl rfl (by simp only [List.map_toArray, List.map_cons, List.map_nil]; rfl) ?_
            refine Calls.mono (HMY.out A4 c4 _ HR4.out HL4.out) ?_
            rintro e5 W5 ⟨rfl, hb5⟩
            refine ⟨_, rfl, ?_⟩
            have hS9 := cl1x_blw hHeld8 hb5
            have HB5 := hid hS9.1
            clear hb5
            refine hK.out _ _ ?_
            clear hK KK
            refine norm_ (a' := ?_) ?_ ?_
            rotate_left
            · show Act.put _ (some 86) _ = _
              simp only [Act.put, List.setIfInBounds_toArray, List.set_cons_zero, List.set_cons_succ, i64_w, i32_w]
              rfl
            refine pure_ (i := 10) (N := some 87) (v := ?_) (a' := ?_) #[true, true, true, true, true, true, true, true, true, true, true, false, false, false, false, false] rfl rfl (by kernel_rfl) (fun _ _ _ h => h) (Or.inl ⟨by rfl, ?_⟩) ?_ ?_
            rotate_left
            · intro w'
              go_simp
              with_reducible rfl
            rotate_left
            · simp only [Act.put, List.setIfInBounds_toArray, List.set_cons_zero, List.set_cons_succ, i64_w, i32_w]
              rfl
            refine pure_ (i := 11) (N := some 88) (v := undef) (a' := ?_) #[true, true, true, true, true, true, true, true, true, true, true, true, false, false, false, false] rfl rfl (by kernel_rfl) (fun _ _ _ h => h) (Or.inr ⟨by rfl, rfl⟩) ?_ ?_
            rotate_left
            · simp only [Act.put, List.setIfInBounds_toArray, List.set_cons_zero, List.set_cons_succ, i64_w, i32_w]
              rfl
            refine pure_ (i := 13) (N := some 90) (v := undef) (a' := ?_) #[true, true, true, true, true, true, true, true, true, true, true, true, false, true, false, false] rfl rfl (by kernel_rfl) (fun _ _ _ h => h) (Or.inr ⟨by rfl, rfl⟩) ?_ ?_
            rotate_left
            · simp only [Act.put, List.setIfInBounds_toArray, List.set_cons_zero, List.set_cons_succ, i64_w, i32_w]
              rfl
            refine pure_ (i := 12) (N := some 89) (v := undef) (a' := ?_) #[true, true, true, true, true, true, true, true, true, true, true, true, true, true, false, false] rfl rfl (by kernel_rfl) (fun _ _ _ h => h) (Or.inr ⟨by rfl, rfl⟩) ?_ ?_
            rotate_left
            · simp only [Act.put, List.setIfInBounds_toArray, List.set_cons_zero, List.set_cons_succ, i64_w, i32_w]
              rfl
            refine pure_ (i := 14) (N := some 91) (v := undef) (a' := ?_) #[true, true, true, true, true, true, true, true, true, true, true, true, true, true, true, false] rfl rfl (by kernel_rfl) (fun _ _ _ h => h) (Or.inr ⟨by rfl, rfl⟩) ?_ ?_
            rotate_left
            · simp only [Act.put, List.setIfInBounds_toArray, List.set_cons_zero, List.set_cons_succ, i64_w, i32_w]
              rfl
            refine pure_ (i := 15) (N := some 92) (v := ?_) (a' := ?_) #[true, true, true, true, true, true, true, true, true, true, true, true, true, true, true, true] rfl rfl (by kernel_rfl) (fun _ _ _ h => h) (Or.inl ⟨by rfl, ?_⟩) ?_ ?_
            rotate_left
            · intro w'
              go_simp
              with_reducible rfl
            rotate_left
            · simp only [Act.put, List.setIfInBounds_toArray, List.set_cons_zero, List.set_cons_succ, i64_w, i32_w]
              rfl
            refine done_ (by kernel_rfl) ?_
            have HB9 := hid (cthen HB6.out (cthen HB67.out HB5.out))
            clear hS2 hHeld hHeld8 hlti hwt htn
            go_wp2_with fail
            exact ⟨⟨t + 1, by rw [HWI.out], by omega, hid (cthen hI.out HB9.out)⟩, by rw [HWI.out]; simp only [intOf]; omega⟩
          | true =>
            have hzM : ¬ ((z : Int) ≤ M) := fun h => by rw [decide_eq_true h] at hrm; cases hrm
            clear hrm
            go_upto_region 14 with fail
            refine start_ (n := 16) (S := (fun W => Below W7.heap.size W7 W ∧ W.cell? ⟨b, off + t * 4 + 3, none⟩ = some (.slice A6 n0 c6) ∧ W.cell? ⟨wr.heap.size, 0, none⟩ = some (.int .u8 x.f0))) (ds := [12]) #[false, false, false, false, false, false, false, false, false, false, false, false, false, false, false, false] (by kernel_rfl) rfl rfl hS2 (fun hHeld => ?_)
            generalize W7.drew = w46 at hS2 hHeld ⊢
            refine pure_ (i := 0) (N := some 77) (v := ?_) (a' := ?_) #[true, false, false, false, false, false, false, false, false, false, false, false, false, false, false, false] rfl rfl (by kernel_rfl) (fun _ _ _ h => h) (Or.inl ⟨by rfl, ?_⟩) ?_ ?_
            rotate_left
            · intro w'
              go_simp
              with_reducible rfl
            rotate_left
            · simp only [Act.put, List.setIfInBounds_toArray, List.set_cons_zero, List.set_cons_succ, i64_w, i32_w]
              rfl
            refine pure_ (i := 2) (N := some 79) (v := ?_) (a' := ?_) #[true, false, true, false, false, false, false, false, false, false, false, false, false, false, false, false] rfl rfl (by kernel_rfl) (fun _ _ _ h => h) (Or.inl ⟨by rfl, ?_⟩) ?_ ?_
            rotate_left
            · intro w'
              go_simp
              with_reducible rfl
            rotate_left
            · simp only [Act.put, List.setIfInBounds_toArray, List.set_cons_zero, List.set_cons_succ, i64_w, i32_w]
              rfl
            refine pure_ (i := 3) (N := some 80) (v := ?_) (a' := ?_) #[true, false, true, true, false, false, false, false, false, false, false, false, false, false, false, false] rfl rfl (by kernel_rfl) (fun _ _ _ h => h) (Or.inl ⟨by rfl, ?_⟩) ?_ ?_
            rotate_left
            · intro w'
              go_simp
              with_reducible rfl
            rotate_left
            · simp only [Act.put, List.setIfInBounds_toArray, List.set_cons_zero, List.set_cons_succ, i64_w, i32_w]
              rfl
            refine pure_ (i := 4) (N := some 81) (v := ?_) (a' := ?_) #[true, false, true, true, true, false, false, false, false, false, false, false, false, false, false, false] rfl rfl (by kernel_rfl) (fun _ _ _ h => h) (Or.inl ⟨by rfl, ?_⟩) ?_ ?_
            rotate_left
            · intro w'
              go_simp
              with_reducible rfl
            rotate_left
            · simp only [Act.put, List.setIfInBounds_toArray, List.set_cons_zero, List.set_cons_succ, i64_w, i32_w]
              rfl
            refine pure_ (i := 5) (N := some 82) (v := ?_) (a' := ?_) #[true, false, true, true, true, true, false, false, false, false, false, false, false, false, false, false] rfl rfl (by kernel_rfl) (fun _ _ _ h => h) (Or.inl ⟨by rfl, ?_⟩) ?_ ?_
            rotate_left
            · intro w'
              go_simp
              with_reducible rfl
            rotate_left
            · simp only [Act.put, List.setIfInBounds_toArray, List.set_cons_zero, List.set_cons_succ, i64_w, i32_w]
              rfl
            refine pure_ (i := 6) (N := some 83) (v := ?_) (a' := ?_) #[true, false, true, true, true, true, true, false, false, false, false, false, false, false, false, false] rfl rfl (by kernel_rfl) (fun _ _ _ h => h) (Or.inl ⟨by rfl, ?_⟩) ?_ ?_
            rotate_left
            · intro w'
              go_simp
              with_reducible rfl
            rotate_left
            · simp only [Act.put, List.setIfInBounds_toArray, List.set_cons_zero, List.set_cons_succ, i64_w, i32_w]
              rfl
            refine take_ (i := 1) (N := some 78) (v := ?_) (a' := ?_) #[true, true, true, true, true, true, true, false, false, false, false, false, false, false, false, false] rfl rfl (by kernel_rfl) (fun _ _ _ h => h) (Or.inl ⟨by rfl, ?_⟩) hHeld ?_ ?_
            rotate_left
            · rintro w' ⟨q0, q1, q2⟩
              go_simp
              with_reducible rfl
            rotate_left
            · simp only [Act.put, List.setIfInBounds_toArray, List.set_cons_zero, List.set_cons_succ, i64_w, i32_w]
              rfl
            refine take_ (i := 7) (N := some 84) (v := ?_) (a' := ?_) #[true, true, true, true, true, true, true, true, false, false, false, false, false, false, false, false] rfl rfl (by kernel_rfl) (fun _ _ _ h => h) (Or.inl ⟨by rfl, ?_⟩) hHeld ?_ ?_
            rotate_left
            · rintro w' ⟨q0, q1, q2⟩
              go_simp
              with_reducible rfl
            rotate_left
            · simp only [Act.put, List.setIfInBounds_toArray, List.set_cons_zero, List.set_cons_succ, i64_w, i32_w]
              rfl
            refine one_ (i := 8) (N := some 85) #[true, true, true, true, true, true, true, true, true, false, false, false, false, false, false, false] rfl rfl (by kernel_rfl) (by decide) (fun KK hK => ?_)
            refine goes_ Tryz.func12 (by kernel_rfl) rfl #[.slice A6 n0 c6] (by rfl) rfl rfl (by simp only [List.map_toArray, List.map_cons, List.map_nil]; rfl) ?_
            refine Calls.mono (HTY.out _ (cthen HB6.out (cthen HB67.out hHeld.1))) ?_
            rintro e4 W4' ⟨v4, rfl, hr4, hb4⟩
            refine ⟨_, rfl, ?_⟩
            obtain ⟨A4, c4, rfl, l4, r4⟩ := Kd.R_reads hr4
            have hS8 := cl1x_blw hHeld hb4
            have HR4 := hid (show BC W4' A4 (tys q0) from r4)
            have HL4 := hid l4
            clear hr4 hb4 r4 l4
            refine hK.out _ _ hS8 (fun hHeld8 => ?_)
            clear hK KK
            refine norm_ (a' := ?_) ?_ ?_
            rotate_left
            · show Act.put _ (some 85) _ = _
              simp only [Act.put, List.setIfInBounds_toArray, List.set_cons_zero, List.set_cons_succ, i64_w, i32_w]
              rfl
            refine one_ (i := 9) (N := some 86) #[true, true, true, true, true, true, true, true, true, true, false, false, false, false, false, false] rfl rfl (by kernel_rfl) (by decide) (fun KK hK => ?_)
            refine goes_ Tryz.func11 (by kernel_rfl) rfl #[.int .u8 x.f0, .slice A4 (tys q0).length c4] (by rfl) rfl rfl (by simp only [List.map_toArray, List.map_cons, List.map_nil]; rfl) ?_
            refine Calls.mono (HMY.out A4 c4 _ HR4.out HL4.out) ?_
            rintro e5 W5 ⟨rfl, hb5⟩
            refine ⟨_, rfl, ?_⟩
            have hS9 := cl1x_blw hHeld8 hb5
            have HB5 := hid hS9.1
            clear hb5
            refine hK.out _ _ hS9 (fun hHeld9 => ?_)
            clear hK KK
            refine norm_ (a' := ?_) ?_ ?_
            rotate_left
            · show Act.put _ (some 86) _ = _
              simp only [Act.put, List.setIfInBounds_toArray, List.set_cons_zero, List.set_cons_succ, i64_w, i32_w]
              rfl
            refine pure_ (i := 10) (N := some 87) (v := ?_) (a' := ?_) #[true, true, true, true, true, true, true, true, true, true, true, false, false, false, false, false] rfl rfl (by kernel_rfl) (fun _ _ _ h => h) (Or.inl ⟨by rfl, ?_⟩) ?_ ?_
            rotate_left
            · intro w'
              go_simp
              with_reducible rfl
            rotate_left
            · simp only [Act.put, List.setIfInBounds_toArray, List.set_cons_zero, List.set_cons_succ, i64_w, i32_w]
              rfl
            refine pure_ (i := 11) (N := some 88) (v := ?_) (a' := ?_) #[true, true, true, true, true, true, true, true, true, true, true, true, false, false, false, false] rfl rfl (by kernel_rfl) (fun _ _ _ h => h) (Or.inl ⟨by rfl, ?_⟩) ?_ ?_
            rotate_left
            · intro w'
              go_simp
              with_reducible rfl
            rotate_left
            · simp only [Act.put, List.setIfInBounds_toArray, List.set_cons_zero, List.set_cons_succ, i64_w, i32_w]
              rfl
            refine pure_ (i := 13) (N := some 90) (v := ?_) (a' := ?_) #[true, true, true, true, true, true, true, true, true, true, true, true, false, true, false, false] rfl rfl (by kernel_rfl) (fun _ _ _ h => h) (Or.inl ⟨by rfl, ?_⟩) ?_ ?_
            rotate_left
            · intro w'
              go_simp
              with_reducible rfl
            rotate_left
            · simp only [Act.put, List.setIfInBounds_toArray, List.set_cons_zero, List.set_cons_succ, i64_w, i32_w]
              rfl
            refine last_ (i := 12) (N := some 89) #[true, true, true, true, true, true, true, true, true, true, true, true, true, true, false, false] rfl rfl (by kernel_rfl) (by decide) (fun KK hK => ?_)
            refine goes_ Tryz.func13 (by kernel_rfl) rfl #[.slice A7 (n0 + 1) c7] (by rfl) rfl rfl (by simp only [List.map_toArray, List.map_cons, List.map_nil]; rfl) ?_
            refine Calls.mono (HSZ.out _ hHeld9.1) ?_
            rintro e8 W8 ⟨rfl, hb8⟩
            refine ⟨_, rfl, ?_⟩
            have HB8 := hid (cthen hHeld9.1 hb8)
            clear hb8
            refine hK.out _ _ ?_
            clear hK KK
            refine norm_ (a' := ?_) ?_ ?_
            rotate_left
            · show Act.put _ (some 89) _ = _
              simp only [Act.put, List.setIfInBounds_toArray, List.set_cons_zero, List.set_cons_succ, i64_w, i32_w]
              rfl
            refine pure_ (i := 14) (N := some 91) (v := ?_) (a' := ?_) #[true, true, true, true, true, true, true, true, true, true, true, true, true, true, true, false] rfl rfl (by kernel_rfl) (fun _ _ _ h => h) (Or.inl ⟨by rfl, ?_⟩) ?_ ?_
            rotate_left
            · intro w'
              go_simp
              with_reducible rfl
            rotate_left
            · simp only [Act.put, List.setIfInBounds_toArray, List.set_cons_zero, List.set_cons_succ, i64_w, i32_w]
              rfl
            refine pure_ (i := 15) (N := some 92) (v := ?_) (a' := ?_) #[true, true, true, true, true, true, true, true, true, true, true, true, true, true, true, true] rfl rfl (by kernel_rfl) (fun _ _ _ h => h) (Or.inl ⟨by rfl, ?_⟩) ?_ ?_
            rotate_left
            · intro w'
              go_simp
              with_reducible rfl
            rotate_left
            · simp only [Act.put, List.setIfInBounds_toArray, List.set_cons_zero, List.set_cons_succ, i64_w, i32_w]
              rfl
            refine done_ (by kernel_rfl) ?_
            have HB9 := hid (cthen HB6.out (cthen HB67.out HB8.out))
            clear hS2 hHeld hHeld8 hHeld9 hlti hwt htn
            go_wp2_with fail
            exact ⟨⟨t + 1, by rw [HWI.out], by omega, hid (cthen hI.out HB9.out)⟩, by rw [HWI.out]; simp only [intOf]; omega⟩
        · have hge : ¬ ((t : Int) + 1 < (no : Int)) := by omega
          go_wp2_with fail
          go_ret
          exact ⟨rfl, HB1.out.trans ((cthen HB4.out hI.out).mono HB1.out.size)⟩
    · obtain rfl := hye er hoe
      have hro := rof_any s d g M l A n c W4 HN.out (Kd.C_below HC.out HB4.out) HCC.out (by have := HL.out; omega) HOK.out
      have hne := err_ne er
      have heg := err_eg er
      have HEN := hid (ofErr_ne hoe)
      have HOE := hid hoe
      obtain ⟨ev, hev⟩ : ∃ ev, eV (some er) = ev := ⟨_, rfl⟩
      rw [hev] at hne heg ⊢
      obtain ⟨⟨x0, x1, x2⟩, -⟩ := three (blk_below HX1.out HB4.out)
      have hfc := field_code
      clear hye hno hoe hev
      go_wp2_with fail
      clear hne heg
      refine hro.mono ?_
      rintro e W5 ⟨hy5, -, hb5⟩
      obtain rfl := hy5 er HOE.out
      have HB5 := hid (cthen HB4.out hb5)
      obtain ⟨code, hcode⟩ : ∃ code, er.1 = code := ⟨_, rfl⟩
      rw [hcode] at HEN ⊢
      have hc0 := HEN.out
      clear hro hy5 hb5 x0 x1 x2 hcode
      go_wp2_with fail
      go_ret
      exact ⟨by simp [hc0], HB1.out.trans (HB5.out.mono HB1.out.size)⟩
end Bn
end Go.Proofs.YtmfmomfhiieilaaGreatDoor
