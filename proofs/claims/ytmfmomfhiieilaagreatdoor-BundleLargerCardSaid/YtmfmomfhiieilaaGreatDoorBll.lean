/- 'wharfref21.First'; the plain law of 'BundleLarger'. -/
import Derived.Test.YtmfmomfhiieilaaGreatDoorBlg
set_option linter.unusedVariables false
set_option linter.unusedSimpArgs false
namespace Go.Proofs.YtmfmomfhiieilaaGreatDoor
open Go.RowKit Go.Shelf Go.Proofs.YtmfmomfhiieilaaGreatDoor.It Go.Proofs.YtmfmomfhiieilaaGreatDoorW.PrintWords Go.Proofs.YtmfmomfhiieilaaGreatDoorW.PrintLast Go.Proofs.YtmfmomfhiieilaaGreatDoorW.PrintMore
namespace Bn
open PBundleSorted
theorem bc_take {w : World} {A : Option Addr} {l : List Int} (h : BC w A l) (i : Nat) : BC w A (l.take i) := by
  refine ⟨rfl, by have := h.2.1; rw [List.length_take]; omega, fun hn => ?_⟩
  obtain ⟨ad, e, hc⟩ := h.2.2 (by rw [List.length_take] at hn; omega)
  refine ⟨ad, e, fun j p hj => hc j p ?_⟩
  rw [List.getElem?_take] at hj
  split at hj
  · exact hj
  · cases hj
/-- Every type may follow those ahead of it. -/
def AllMay (l : List Int) (i : Nat) : Prop := ∀ j y, j < i → l[j]? = some y → mayR y (l.take j) = true
def FirP (l : List Int) (w : World) (e : Ending) (w' : World) : Prop := ∃ r : Int, e = .returned (.int .i64 r) ∧ (r < 0 → AllMay l l.length) ∧ -1 ≤ r ∧ Below w.heap.size w w'
set_option maxRecDepth 100000 in
set_option maxHeartbeats 4000000 in
/-- 'wharfref21.First': a negative answer only where every type may follow. -/
theorem first_any (l : List Int) (A : Option Addr) (n c : Nat) (w : World) (hn : l.length = n) (hC : BC w A l) (hc : n ≤ c) (hl : n ≤ 1000) : Calls Tryz.prog 14 #[.slice A n c] w (FirP l w) := by
  have HN := hid hn
  have HC := hid hC
  have HL := hid hl
  have HI0 := hid (Below.refl w.heap.size w)
  have HM0 := hid (show AllMay l 0 from fun j y h => by omega)
  clear hn hC hl
  go_enter Tryz.func14, Tryz.ntmps14
  go_wp2_with fail
  go_loopw [3] (fun vi W => ∃ (i : Nat), vi = .int .i64 i ∧ i ≤ n ∧ Hid (AllMay l i) ∧ Hid (Below w.heap.size w W)) (fun vi _ => n - (intOf vi).toNat)
  case atStart => exact ⟨0, rfl, by omega, HM0, HI0⟩
  case round =>
    obtain ⟨i, rfl, hi, hT, hI⟩ := hrel
    clear HI0 HM0
    by_cases hlt : i < n
    · have hil : i < l.length := by have := HN.out; omega
      have hbc := HC.out.below hI.out
      obtain ⟨b, off, rfl, k0⟩ := bc_at hbc i hil
      have htk : (l.take i).length = i := by rw [List.length_take]; omega
      have hgj : l[i]? = some l[i] := List.getElem?_eq_getElem hil
      obtain ⟨x, hx⟩ : ∃ x, l[i] = x := ⟨_, rfl⟩
      rw [hx] at k0 hgj
      have HMY := hid (fun W (hW : Below wr.heap.size wr W) => by
        have h := rmay_any x (some ⟨b, off, none⟩) i c (l.take i) W htk (bc_take (hbc.below hW) i) (by omega) (by have := HL.out; omega)
        exact h)
      have HWI := hid (show wrap64 ((i : Int) + 1) = ((i + 1 : Nat) : Int) by have := HL.out; unfold wrap64; omega)
      have hic : i ≤ c := by omega
      have hii : (i : Int) < (n : Int) := by omega
      obtain ⟨mb, hmb⟩ : ∃ mb, mayR x (l.take i) = mb := ⟨_, rfl⟩
      simp only [hmb] at HMY
      have HMB := hid hmb
      have HGJ := hid hgj
      clear hbc htk hgj hx hmb hil
      have hS0 : Below wr.heap.size wr wr.drew ∧ wr.drew.cell? ⟨b, off + i, none⟩ = some (.int .u8 x) := ⟨below_drew (Below.refl _ _) 1, k0⟩
      go_upto_region 4 with fail
      refine start_ (n := 9) (S := (fun W => Below wr.heap.size wr W ∧ W.cell? ⟨b, off + i, none⟩ = some (.int .u8 x))) (ds := [7]) #[false, false, false, false, false, false, false, false, false] (by kernel_rfl) rfl rfl hS0 (fun hHeld => ?_)
      generalize wr.drew = w44 at hS0 hHeld ⊢
      refine pure_ (i := 0) (N := some 10) (v := ?_) (a' := ?_) #[true, false, false, false, false, false, false, false, false] rfl rfl (by kernel_rfl) (fun _ _ _ h => h) (Or.inl ⟨by rfl, ?_⟩) ?_ ?_
      rotate_left
      · intro w'
        go_simp
        with_reducible rfl
      rotate_left
      · simp only [Act.put, List.setIfInBounds_toArray, List.set_cons_zero, List.set_cons_succ, i64_w, i32_w]
        rfl
      refine pure_ (i := 1) (N := some 11) (v := ?_) (a' := ?_) #[true, true, false, false, false, false, false, false, false] rfl rfl (by kernel_rfl) (fun _ _ _ h => h) (Or.inl ⟨by rfl, ?_⟩) ?_ ?_
      rotate_left
      · intro w'
        go_simp
        with_reducible rfl
      rotate_left
      · simp only [Act.put, List.setIfInBounds_toArray, List.set_cons_zero, List.set_cons_succ, i64_w, i32_w]
        rfl
      refine pure_ (i := 2) (N := some 12) (v := ?_) (a' := ?_) #[true, true, true, false, false, false, false, false, false] rfl rfl (by kernel_rfl) (fun _ _ _ h => h) (Or.inl ⟨by rfl, ?_⟩) ?_ ?_
      rotate_left
      · intro w'
        go_simp
        with_reducible rfl
      rotate_left
      · simp only [Act.put, List.setIfInBounds_toArray, List.set_cons_zero, List.set_cons_succ, i64_w, i32_w]
        rfl
      refine pure_ (i := 4) (N := some 14) (v := ?_) (a' := ?_) #[true, true, true, false, true, false, false, false, false] rfl rfl (by kernel_rfl) (fun _ _ _ h => h) (Or.inl ⟨by rfl, ?_⟩) ?_ ?_
      rotate_left
      · intro w'
        go_simp
        with_reducible rfl
      rotate_left
      · simp only [Act.put, List.setIfInBounds_toArray, List.set_cons_zero, List.set_cons_succ, i64_w, i32_w]
        rfl
      refine pure_ (i := 5) (N := some 15) (v := ?_) (a' := ?_) #[true, true, true, false, true, true, false, false, false] rfl rfl (by kernel_rfl) (fun _ _ _ h => h) (Or.inl ⟨by rfl, ?_⟩) ?_ ?_
      rotate_left
      · intro w'
        go_simp
        with_reducible rfl
      rotate_left
      · simp only [Act.put, List.setIfInBounds_toArray, List.set_cons_zero, List.set_cons_succ, i64_w, i32_w]
        rfl
      refine pure_ (i := 6) (N := some 16) (v := ?_) (a' := ?_) #[true, true, true, false, true, true, true, false, false] rfl rfl (by kernel_rfl) (fun _ _ _ h => h) (Or.inl ⟨by rfl, ?_⟩) ?_ ?_
      rotate_left
      · intro w'
        go_simp
        with_reducible rfl
      rotate_left
      · simp only [Act.put, List.setIfInBounds_toArray, List.set_cons_zero, List.set_cons_succ, i64_w, i32_w]
        rfl
      refine take_ (i := 3) (N := some 13) (v := ?_) (a' := ?_) #[true, true, true, true, true, true, true, false, false] rfl rfl (by kernel_rfl) (fun _ _ _ h => h) (Or.inl ⟨by rfl, ?_⟩) hHeld ?_ ?_
      rotate_left
      · rintro w' ⟨q0, q1⟩
        go_simp
        with_reducible rfl
      rotate_left
      · simp only [Act.put, List.setIfInBounds_toArray, List.set_cons_zero, List.set_cons_succ, i64_w, i32_w]
        rfl
      refine last_ (i := 7) (N := some 17) #[true, true, true, true, true, true, true, true, false] rfl rfl (by kernel_rfl) (by decide) (fun KK hK => ?_)
      refine goes_ Tryz.func11 (by kernel_rfl) rfl #[.int .u8 x, .slice (some ⟨b, off, none⟩) i c] (by rfl) rfl rfl (by simp only [List.map_toArray, List.map_cons, List.map_nil]; rfl) ?_
      refine Calls.mono (HMY.out _ hHeld.1) ?_
      rintro e5 W5 ⟨rfl, hb5⟩
      refine ⟨_, rfl, ?_⟩
      have HB5 := hid (cthen hHeld.1 hb5)
      clear hb5
      refine hK.out _ _ ?_
      clear hK KK
      refine norm_ (a' := ?_) ?_ ?_
      rotate_left
      · show Act.put _ (some 17) _ = _
        simp only [Act.put, List.setIfInBounds_toArray, List.set_cons_zero, List.set_cons_succ, i64_w, i32_w]
        rfl
      refine pure_ (i := 8) (N := some 18) (v := ?_) (a' := ?_) #[true, true, true, true, true, true, true, true, true] rfl rfl (by kernel_rfl) (fun _ _ _ h => h) (Or.inl ⟨by rfl, ?_⟩) ?_ ?_
      rotate_left
      · intro w'
        go_simp
        with_reducible rfl
      rotate_left
      · simp only [Act.put, List.setIfInBounds_toArray, List.set_cons_zero, List.set_cons_succ, i64_w, i32_w]
        rfl
      refine done_ (by kernel_rfl) ?_
      clear hS0 hHeld k0 hii
      cases mb with
      | true =>
        have HT2 := hid (show AllMay l (i + 1) from fun j y hj hy => by
          rcases Nat.lt_or_ge j i with h | h
          · exact hT.out j y h hy
          · obtain rfl : j = i := by omega
            rw [HGJ.out] at hy
            injection hy with hy
            subst hy
            exact HMB.out)
        go_wp2_with fail
        exact ⟨⟨i + 1, by rw [HWI.out], hlt, HT2, hid (cthen hI.out HB5.out)⟩, by rw [HWI.out]; simp only [intOf, Int.toNat_natCast]; omega⟩
      | false =>
        go_wp2_with fail
        go_ret
        exact ⟨(i : Int), rfl, fun h => by omega, by omega, cthen hI.out HB5.out⟩
    · obtain rfl : n = i := by omega
      go_wp2_with fail
      go_ret
      exact ⟨-1, rfl, fun _ => by rw [HN.out]; exact hT.out, by decide, hI.out⟩
theorem fit_mono {M M' : Int} (h : M ≤ M') {x : Ck} (hf : fitC M x = true) : fitC M' x = true := by
  unfold fitC at hf ⊢
  have := of_decide_eq_true hf
  exact decide_eq_true (by omega)
theorem rej_mono {M M' : Int} (h : M ≤ M') (l : List Ck) : (rejC M' l).length ≤ (rejC M l).length := by
  unfold rejC
  induction l with
  | nil => simp
  | cons x l ih =>
    by_cases h1 : fitC M x = true
    · have h2 := fit_mono h h1
      simp [h1, h2]
      exact ih
    · by_cases h2 : fitC M' x = true
      · simp [h1, h2]
        omega
      · simp [h1, h2]
        exact ih
theorem psz_take_le (l : List Ck) (i : Nat) : psz (l.take i) ≤ psz l := by
  have h : psz l = psz (l.take i) + psz (l.drop i) := by
    unfold psz
    rw [← List.sum_append, ← List.map_append, List.take_append_drop]
  omega
theorem psz_mem (l : List Ck) (x : Ck) (h : x ∈ l) : up (csz x) ≤ psz l := by
  induction l with
  | nil => cases h
  | cons a l ih =>
    unfold psz at ih ⊢
    rw [List.map_cons, List.sum_cons]
    rcases List.mem_cons.1 h with rfl | h
    · omega
    · have := ih h; omega
/-- What fits in one packet is in one. -/
theorem one_packet (M : Int) (l : List Ck) (h0 : l ≠ []) (hm : AllMay (tys l) (tys l).length) (hs : ((12 + psz l : Nat) : Int) ≤ M) : outsC M l = [l] ∧ rejC M l = [] := by
  have hfit : ∀ y ∈ l, fitC M y = true := fun y hy => by
    have := psz_mem l y hy
    unfold fitC
    exact decide_eq_true (by omega)
  refine ⟨Pkg.packs_one (fitC M) (roomC M) l h0 hfit (fun i hi h => ?_), ?_⟩
  · unfold roomC
    have h1 : mayR (l[i]).f0 (tys (l.take i)) = true := by
      have hl : i < (tys l).length := by rw [tys_len]; exact h
      have := hm i (l[i]).f0 hl (by unfold tys; rw [List.getElem?_map, List.getElem?_eq_getElem h]; rfl)
      unfold tys at this ⊢
      rwa [← List.map_take] at this
    have h2 := psz_take_le l (i + 1)
    rw [List.take_succ_eq_append_getElem h] at h2
    rw [h1, decide_eq_true (show ((12 + psz (l.take i ++ [l[i]]) : Nat) : Int) ≤ M by omega)]
    rfl
  · unfold rejC
    rw [List.filter_eq_nil_iff]
    intro y hy
    simp [hfit y hy]
end Bn
end Go.Proofs.YtmfmomfhiieilaaGreatDoor
/- The walk of the law 'BundleLarger'. -/
set_option linter.unusedVariables false
set_option linter.unusedSimpArgs false
namespace Go.Proofs.YtmfmomfhiieilaaGreatDoor
open Go.RowKit Go.Shelf Go.Proofs.YtmfmomfhiieilaaGreatDoor.It Go.Proofs.YtmfmomfhiieilaaGreatDoorW.PrintWords Go.Proofs.YtmfmomfhiieilaaGreatDoorW.PrintLast Go.Proofs.YtmfmomfhiieilaaGreatDoorW.PrintMore
namespace Bn
open PBundleSorted
theorem ofErr_none {M : Int} {l : List Ck} (h : ofErr M l = none) : 64 ≤ M ∧ M ≤ 65535 ∧ fstBad 0 l = none := by
  unfold ofErr at h
  split at h
  · cases h
  · split at h
    · cases h
    · exact ⟨by omega, by omega, h⟩
theorem ofErr_of {M : Int} {l : List Ck} (h1 : 64 ≤ M) (h2 : M ≤ 65535) (h3 : fstBad 0 l = none) : ofErr M l = none := by
  unfold ofErr
  rw [if_neg (by omega), if_neg (by omega), h3]
set_option maxRecDepth 100000 in
set_option maxHeartbeats 1000000 in
theorem larger_any (s d g M a2 : Int) (l : List Ck) (A : Option Addr) (n c : Nat) (w : World) (hg : GTab w) (hgl : GLg w) (hM : -9223372036854775808 ≤ M ∧ M ≤ 9223372036854775807) (ha : 0 ≤ a2 ∧ a2 ≤ 65535) (hn : l.length = n) (hC : CsC w A n l) (hc : n ≤ c) (hR : ∀ x ∈ l, CkR x) :
    Calls Tryz.prog 4 #[.agg #[.int .u16 s, .int .u16 d, .int .u32 g], .int .i64 M, .int .u16 a2, .slice A n c] w (IsPost (.bool true) w) := by
  obtain ⟨w1, hw1⟩ : ∃ w1, w.alloc (.cells #[.int .u16 s, .int .u16 d, .int .u32 g] 25) = w1 := ⟨_, rfl⟩
  have hb1 : Below w.heap.size w w1 := by rw [← hw1]; exact below_alloc (Below.refl _ _) _
  have HX1 := hid (show w1.heap[w.heap.size]? = some (.cells #[.int .u16 s, .int .u16 d, .int .u32 g] 25 (0, 0)) by rw [← hw1]; exact blk_new w _)
  have HW := hid hw1
  have HB1 := hid hb1
  have HG := hid (hg.below hb1)
  have HGL := hid (hgl.below hb1)
  have HC := hid (Kd.C_below hC hb1)
  have HN := hid hn
  have HCC := hid hc
  have HR := hid hR
  have HM := hid hM
  have HA := hid ha
  have HFIN := hid (fun W (h : Below w1.heap.size w1 W) => show IsPost (.bool true) w (.returned (.bool true)) W from ⟨rfl, HB1.out.trans (h.mono HB1.out.size)⟩)
  obtain ⟨sm, hsm⟩ : ∃ sm, wrap64 (M + a2) = sm := ⟨_, rfl⟩
  have HSM := hid hsm
  have hwa : wrap64 a2 = a2 := by unfold wrap64; omega
  have HWA := hid hwa
  have HAW := hid (fun W (hW : Below w1.heap.size w1 W) => bawake_any W (HG.out.below hW) (HGL.out.below hW))
  clear hg hgl hn hC hR hw1 hb1 hM ha
  have haw := HAW.out w1 (Below.refl _ _)
  go_enter Tryz.func4, Tryz.ntmps4
  go_wp2_with fail
  rw [HW.out]
  refine haw.mono ?_
  rintro e W2 ⟨rfl, hb2⟩
  have HB2 := hid hb2
  obtain ⟨fb, hfb, hft⟩ := few_any A n c l W2 HN.out (Kd.C_below HC.out hb2) HCC.out
  have HFT := hid hft
  clear haw hb2 hft
  cases fb with
  | false =>
    go_wp2_with fail
    refine hfb.mono ?_
    rintro e W3 ⟨rfl, hb3⟩
    have HB3 := hid (cthen HB2.out hb3)
    have haw := HAW.out W3 HB3.out
    clear hb3 hfb hsm
    go_wp2_with fail
    refine haw.mono ?_
    rintro e W4 ⟨rfl, hb4⟩
    have HB4 := hid (cthen HB3.out hb4)
    clear hb4 haw
    go_wp2_with fail
    go_ret
    exact HFIN.out _ HB4.out
  | true =>
    have HOK := hid (show ∀ x ∈ l, CkOk x from fun x hx => ckOk_of (HR.out x hx) ((HFT.out rfl).2 x hx))
    have hl20 := (HFT.out rfl).1
    have HL := hid (show n ≤ 20 by have := HN.out; omega)
    clear hl20
    by_cases hM1 : M < 64
    · go_wp2_with fail
      refine hfb.mono ?_
      rintro e W3 ⟨rfl, hb3⟩
      have HB3 := hid (cthen HB2.out hb3)
      have haw := HAW.out W3 HB3.out
      clear hb3 hfb hsm
      go_wp2_with fail
      refine haw.mono ?_
      rintro e W4 ⟨rfl, hb4⟩
      have HB4 := hid (cthen HB3.out hb4)
      clear hb4 haw
      go_wp2_with fail
      go_ret
      exact HFIN.out _ HB4.out
    by_cases hM2 : 65535 < sm
    · go_wp2_with fail
      refine hfb.mono ?_
      rintro e W3 ⟨rfl, hb3⟩
      have HB3 := hid (cthen HB2.out hb3)
      have haw := HAW.out W3 HB3.out
      clear hb3 hfb
      go_wp2_with fail
      clear hsm
      refine haw.mono ?_
      rintro e W4 ⟨rfl, hb4⟩
      have HB4 := hid (cthen HB3.out hb4)
      clear hb4 haw
      go_wp2_with fail
      go_ret
      exact HFIN.out _ HB4.out
    go_wp2_with fail
    refine hfb.mono ?_
    rintro e W3 ⟨rfl, hb3⟩
    have HB3 := hid (cthen HB2.out hb3)
    clear hb3 hfb
    have hro := rof_any s d g M l A n c W3 HN.out (Kd.C_below HC.out HB3.out) HCC.out (by have := HL.out; omega) HOK.out
    obtain ⟨⟨x0, x1, x2⟩, -⟩ := three (blk_below HX1.out HB3.out)
    have hfc := field_code
    go_wp2_with fail
    refine hro.mono ?_
    rintro e W4 ⟨hye, hno, hb4⟩
    have HB4 := hid (cthen HB3.out hb4)
    clear hb4 hro x0 x1 x2
    obtain ⟨oe, hoe⟩ : ∃ oe, ofErr M l = oe := ⟨_, rfl⟩
    rcases oe with _ | er
    · obtain ⟨A1, c1, A2, c2, rfl, -⟩ := hno hoe
      obtain ⟨h64, h65, hfst⟩ := ofErr_none hoe
      have hsme : sm = M + a2 := by
        have h := HSM.out
        have := HA.out
        rw [← h]
        unfold wrap64
        omega
      have HOE2 := hid (show ofErr sm l = none from ofErr_of (by have := HA.out; omega) (by omega) hfst)
      have HOE := hid hoe
      have HSE := hid hsme
      have HLE := hid (show M ≤ sm by have := HA.out; omega)
      obtain ⟨no1, hno1⟩ : ∃ n, (outsC M l).length = n := ⟨_, rfl⟩
      obtain ⟨nr1, hnr1⟩ : ∃ n, (rejC M l).length = n := ⟨_, rfl⟩
      rw [hno1, hnr1]
      have HNR1 := hid hnr1
      have hof := of_any s d g M l A n c W4 (HG.out.below HB4.out) (HGL.out.below HB4.out) HN.out (Kd.C_below HC.out HB4.out) HCC.out (by have := HL.out; omega) HOK.out
      obtain ⟨⟨x0, x1, x2⟩, -⟩ := three (blk_below HX1.out HB4.out)
      clear hye hno hoe hfst h64 h65 hsme hno1 hnr1
      go_wp2_with fail
      clear hfc
      refine hof.mono ?_
      rintro e W5 ⟨-, hno5, hb5⟩
      have HB5 := hid (cthen HB4.out hb5)
      obtain ⟨A3, c3, A4, c4, rfl, -⟩ := hno5 HOE.out
      obtain ⟨no2, hno2⟩ : ∃ n, (outsC M l).length = n := ⟨_, rfl⟩
      rw [hno2, HNR1.out]
      have hof2 := of_any s d g sm l A n c W5 (HG.out.below HB5.out) (HGL.out.below HB5.out) HN.out (Kd.C_below HC.out HB5.out) HCC.out (by have := HL.out; omega) HOK.out
      obtain ⟨⟨x0, x1, x2⟩, -⟩ := three (blk_below HX1.out HB5.out)
      clear hof hno5 hb5 hno2
      go_wp2_with fail
      refine hof2.mono ?_
      rintro e W6 ⟨-, hno6, hb6⟩
      have HB6 := hid (cthen HB5.out hb6)
      obtain ⟨A5, c5, A6, c6, rfl, l5, r5, l6, -⟩ := hno6 HOE2.out
      have hrl := rej_mono HLE.out l
      have HONE := hid (fun (h0 : l ≠ []) (hm : AllMay (tys l) (tys l).length) (hs : ((12 + psz l : Nat) : Int) ≤ sm) => one_packet sm l h0 hm hs)
      obtain ⟨outs, houts⟩ : ∃ o, outsC sm l = o := ⟨_, rfl⟩
      obtain ⟨rej, hrej⟩ : ∃ o, rejC sm l = o := ⟨_, rfl⟩
      simp only [houts, hrej] at HONE
      rw [houts] at l5 r5 ⊢
      rw [hrej] at hrl ⊢
      rw [HNR1.out] at hrl
      obtain ⟨no3, hno3⟩ : ∃ n, outs.length = n := ⟨_, rfl⟩
      obtain ⟨nr3, hnr3⟩ : ∃ n, rej.length = n := ⟨_, rfl⟩
      rw [hno3] at l5 r5 ⊢
      rw [hnr3] at hrl ⊢
      have HR5 := hid r5
      have HNO3 := hid hno3
      have HNR3 := hid hnr3
      have hle : ¬ ((nr1 : Int) < (nr3 : Int)) := by omega
      have HTY := hid (fun W (hW : Below w1.heap.size w1 W) => rtypes_any A n c l W HN.out (Kd.C_below HC.out hW) HCC.out (by have := HL.out; omega))
      have HOKS := hid (show OkS l from ⟨by have := HL.out; have := HN.out; omega, fun x hx => ⟨(HOK.out x hx).len, (HOK.out x hx).cnt⟩⟩)
      have HRS := hid (fun W (hW : Below w1.heap.size w1 W) => rpsize_any A n c l W HN.out (Kd.C_below HC.out hW) HCC.out HOKS.out)
      have HFI := hid (fun A7 c7 W (r : BC W A7 (tys l)) (hle7 : (tys l).length ≤ c7) => first_any (tys l) A7 (tys l).length c7 W rfl r hle7 (by rw [tys_len, HN.out]; have := HL.out; omega))
      obtain ⟨z, hz⟩ : ∃ z, 12 + psz l = z := ⟨_, rfl⟩
      simp only [hz] at HRS HONE
      have HZ := hid hz
      clear hof2 hno6 hb6 x0 x1 x2 houts hrej hno3 hnr3 hrl l5 r5 hz
      by_cases hn0 : n = 0
      · subst hn0
        go_wp2_with fail
        go_ret
        exact HFIN.out _ HB6.out
      have hn1 : (0 : Int) < (n : Int) := by omega
      have hlne : l ≠ [] := by
        rintro rfl
        have h := HN.out
        simp at h
        omega
      have HLNE := hid hlne
      clear hlne
      go_wp2_with fail
      refine (HTY.out W6 HB6.out).mono ?_
      rintro e W7 ⟨v7, rfl, hr7, hb7⟩
      obtain ⟨A7, c7, rfl, l7, r7⟩ := Kd.R_reads hr7
      have HB7 := hid (cthen HB6.out hb7)
      have HB67 := hid hb7
      have hfi := HFI.out A7 c7 W7 r7 l7
      clear hr7 hb7 l7 r7
      go_wp2_with fail
      refine hfi.mono ?_
      rintro e W8 ⟨r, rfl, hr, hrb, hb8⟩
      have HB8 := hid (cthen HB7.out hb8)
      have HB68 := hid (cthen HB67.out hb8)
      have HRR := hid hr
      clear hfi hr hb8 hrb
      by_cases hr0 : r < 0
      · have HALL := hid (HRR.out hr0)
        go_wp2_with fail
        refine (HRS.out W8 HB8.out).mono ?_
        rintro e W9 ⟨rfl, hb9⟩
        have HB9 := hid (cthen HB8.out hb9)
        have HB69 := hid (cthen HB68.out hb9)
        clear hb9
        by_cases hzs : (z : Int) ≤ sm
        · obtain ⟨ho1, ho2⟩ := HONE.out HLNE.out HALL.out hzs
          obtain rfl : no3 = 1 := by have := HNO3.out; rw [ho1] at this; exact this.symm
          obtain rfl : nr3 = 0 := by have := HNR3.out; rw [ho2] at this; exact this.symm
          have hr5 := Kd.C_below HR5.out HB69.out
          rw [ho1] at hr5
          obtain ⟨b, off, A9, c9, rfl, -, -, -, p3, l9, g9⟩ := pk_at hr5 0 (by simp)
          change _ = some (Value.slice A9 l.length c9) at p3
          change CsC W9 A9 l.length l at g9
          rw [HN.out] at p3 g9
          rw [Nat.zero_mul, Nat.add_zero] at p3
          have hps := psize_any A9 n c9 l W9 HN.out g9 HOKS.out
          rw [HZ.out] at hps
          clear ho1 ho2 hr5 l9 g9
          go_wp2_with fail
          refine hps.mono ?_
          rintro e W10 ⟨rfl, hb10⟩
          have HB10 := hid (cthen HB9.out hb10)
          clear hps hb10 p3
          go_wp2_with fail
          refine (HRS.out W10 HB10.out).mono ?_
          rintro e W11 ⟨rfl, hb11⟩
          have HB11 := hid (cthen HB10.out hb11)
          clear hb11
          go_wp2_with fail
          go_ret
          exact HFIN.out _ HB11.out
        · go_wp2_with fail
          go_ret
          exact HFIN.out _ HB9.out
      · go_wp2_with fail
        go_ret
        exact HFIN.out _ HB8.out
    · obtain rfl := hye er hoe
      have HEN := hid (ofErr_ne hoe)
      obtain ⟨code, hcode⟩ : ∃ code, er.1 = code := ⟨_, rfl⟩
      rw [hcode] at HEN ⊢
      have hcb : (code != 0) = true := by simpa using HEN.out
      have haw := HAW.out W4 HB4.out
      clear hye hno hoe hcode
      go_wp2_with fail
      refine haw.mono ?_
      rintro e W5 ⟨rfl, hb5⟩
      have HB5 := hid (cthen HB4.out hb5)
      clear hb5 haw
      go_wp2_with fail
      go_ret
      exact HFIN.out _ HB5.out
end Bn
end Go.Proofs.YtmfmomfhiieilaaGreatDoor
