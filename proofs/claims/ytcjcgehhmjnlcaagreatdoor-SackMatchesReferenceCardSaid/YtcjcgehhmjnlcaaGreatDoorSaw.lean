/- 'awake' of layer 14. -/
import Derived.Test.YtcjcgehhmjnlcaaGreatDoorSof
import Derived.Test.YtcjcgehhmjnlcaaGreatDoorSbd
import Derived.Test.YtcjcgehhmjnlcaaGreatDoorQsa
set_option linter.unusedVariables false
set_option linter.unusedSimpArgs false
namespace Go.Proofs.YtcjcgehhmjnlcaaGreatDoor
open Go.RowKit Go.Shelf Go.Proofs.YtcjcgehhmjnlcaaGreatDoor.It Go.Proofs.YtcjcgehhmjnlcaaGreatDoorW.PrintWords Go.Proofs.YtcjcgehhmjnlcaaGreatDoorW.PrintLast Go.Proofs.YtcjcgehhmjnlcaaGreatDoorW.PrintMore
namespace Sk14
open PSackMatchesReference
theorem aw_fold : bFold 10 [11, 13, 14, 11] = ([1, 3, 4], [11]) := by decide
theorem aw_mv : Mv [1, 3, 4] 1 := by
  refine ⟨by decide, fun i h1 h2 => ?_, by decide⟩
  obtain rfl : i = 1 := by omega
  simp
theorem aw_near : Near [1, 3, 4] 1 [2, 3] := by
  refine ⟨by unfold Srt.Asc; simp, fun y => ?_⟩
  simp
  omega
theorem aw_of : sW (sMd 11 0 [⟨2, 3⟩] [11]) = [11, 0, 65537, 131075, 11] := by kernel_rfl
theorem aw_0 : (sW (sMd 11 0 [⟨2, 3⟩] [11])).getD 0 0 = 11 := by kernel_rfl
theorem aw_1 : (sW (sMd 11 0 [⟨2, 3⟩] [11])).getD 1 0 = 0 := by kernel_rfl
theorem aw_gs : sGs (sMd 11 0 [⟨2, 3⟩] [11]) (sN (sMd 11 0 [⟨2, 3⟩] [11])) = [⟨2, 3⟩] := by kernel_rfl
theorem aw_us : (sW (sMd 11 0 [⟨2, 3⟩] [11])).drop (3 + sN (sMd 11 0 [⟨2, 3⟩] [11])) = [11] := by kernel_rfl
theorem aw_e3 : E3 0 (sMd 11 0 [⟨2, 3⟩] [11]) 0 = none := by kernel_rfl
theorem aw_len : (sMd 11 0 [⟨2, 3⟩] [11]).length = 20 := by kernel_rfl
theorem aw_same : sack_Same.f 9 11 0 [⟨2, 3⟩] [11] 11 0 [⟨2, 3⟩] [11] = some true := by kernel_rfl
theorem aw_byt : Byt (sMd 11 0 [⟨2, 3⟩] [11]) := by
  have h : (sMd 11 0 [⟨2, 3⟩] [11]).all (fun x => decide (0 ≤ x) && decide (x ≤ 255)) = true := by kernel_rfl
  intro x hx
  have := List.all_eq_true.1 h x hx
  simpa using this
set_option maxRecDepth 100000 in
set_option maxHeartbeats 8000000 in
theorem sawake_any (w : World) (hg : GTab w) : Calls Tryz.prog 19 #[] w (IsPost (.bool true) w) := by
  have hU0 : UC (w.alloc (.cells #[.int .u32 11, .int .u32 13, .int .u32 14, .int .u32 11] 23)) (some ⟨w.heap.size, 0, none⟩) [11, 13, 14, 11] := row_put _ _ [11, 13, 14, 11] (by simp) (blk_new _ _)
  have hB := hid (build_any 10 0 (some ⟨w.heap.size, 0, none⟩) 4 [11, 13, 14, 11] _ (by omega) hU0 (by simp) (by simp))
  have HB0 := hid (below_alloc (Below.refl w.heap.size w) (.cells #[.int .u32 11, .int .u32 13, .int .u32 14, .int .u32 11] 23))
  have HGT := hid hg
  clear hU0 hg
  go_enter Tryz.func19, Tryz.ntmps19
  go_wp2_with fail
  refine hB.out.mono ?_
  rintro e w1 ⟨m, B, v, u, rfl, hmv, hnr, hG, hU, hb⟩
  rw [aw_fold] at hmv hnr hU
  obtain rfl : m = 1 := Mv.unique hmv aw_mv
  obtain rfl : B = [2, 3] := Near.unique hnr aw_near
  rw [show gOf [2, 3] = [⟨2, 3⟩] from rfl] at hG
  rw [show ((10 : Int) + 1) % 4294967296 = 11 by decide]
  obtain ⟨A1, c1, rfl, hc1, hg1, -⟩ := ownG_read hG
  obtain ⟨A2, c2, rfl, hc2, hu2⟩ := ownU_read hU
  have HB1 := hid (cthen HB0.out hb)
  have HG1 := hid hg1
  have HU2 := hid hu2
  have HC1 := hid hc1
  have HC2 := hid hc2
  clear hmv hnr hG hU hb hc1 hc2 hg1 hu2 hB
  simp only [List.length_singleton]
  go_wp2_with fail
  obtain ⟨S1, hS1⟩ : ∃ S1, w1.alloc (.cells #[.int .u32 11, .int .u32 0, .slice A1 1 c1, .slice A2 1 c2] 49) = S1 := ⟨_, rfl⟩
  have HP1 := hid (show S1.heap[w1.heap.size]? = some (.cells #[.int .u32 11, .int .u32 0, .slice A1 1 c1, .slice A2 1 c2] 49 (0, 0)) by rw [← hS1]; exact blk_new w1 _)
  have HBS1 := hid (show Below w1.heap.size w1 S1 by rw [← hS1]; exact below_alloc (Below.refl _ _) _)
  rw [hS1]
  clear hS1
  have hm := smake_yes 11 0 A1 A2 c1 c2 [⟨2, 3⟩] [11] S1 (HG1.out.below HBS1.out) HC1.out (HU2.out.below HBS1.out) HC2.out (by decide)
  refine hm.mono ?_
  rintro e w2 ⟨vd, rfl, hD, hb2⟩
  obtain ⟨Ad, cd, rfl, hcd, hbc, -⟩ := own_slice hD
  have HB2 := hid (cthen HBS1.out hb2)
  have HBC := hid hbc
  have HCD := hid hcd
  obtain ⟨Dt, hDt⟩ : ∃ Dt, sMd 11 0 [⟨2, 3⟩] [11] = Dt := ⟨_, rfl⟩
  rw [hDt] at HBC HCD ⊢
  have hL := aw_len
  rw [hDt] at hL
  rw [hL]
  have HDT := hid hDt
  have HP2 := hid (blk_below HP1.out hb2)
  clear hm hD hb2 hbc hcd hDt
  go_wp2_with fail
  obtain ⟨S2, hS2⟩ : ∃ S2, w2.alloc (.cells #[.int .u8 3, .int .u8 0, .slice Ad 20 cd, .slice none 0 0] 35) = S2 := ⟨_, rfl⟩
  have HBS2 := hid (show Below w2.heap.size w2 S2 by rw [← hS2]; exact below_alloc (Below.refl _ _) _)
  have HPC := hid (show S2.heap[w2.heap.size]? = some (.cells #[.int .u8 3, .int .u8 0, .slice Ad 20 cd, .slice none 0 0] 35 (0, 0)) by rw [← hS2]; exact blk_new w2 _)
  have HB3 := hid (cthen (cthen HB1.out HB2.out) HBS2.out)
  have HP3 := hid (blk_below HP2.out HBS2.out)
  rw [hS2]
  clear hS2
  have hof := sof_yes 0 Ad none cd 0 0 Dt S2 (HBC.out.below HBS2.out) (by rw [← HDT.out]; exact aw_byt) HCD.out (by omega) (by omega) (by rw [← HDT.out]; decide) (fun W hW => by
    have := check_3 0 Ad none cd 0 0 Dt W (HGT.out.below (cthen HB3.out hW)) (by omega) ((HBC.out.below HBS2.out).below hW) (by rw [← HDT.out]; exact aw_byt) HCD.out (by omega)
    rw [← HDT.out, aw_e3] at this
    rw [← HDT.out]
    exact this)
  rw [hL] at hof
  unfold ckV at hof
  refine hof.mono ?_
  rintro e w3 ⟨xv, xu, rfl, hxG, hxU, hb3⟩
  rw [← HDT.out] at hxG hxU
  rw [aw_gs] at hxG
  rw [aw_us] at hxU
  rw [← HDT.out, aw_0, aw_1]
  obtain ⟨A3, c3, rfl, hc3, hg3, -⟩ := ownG_read hxG
  obtain ⟨A4, c4, rfl, hc4, hu4⟩ := ownU_read hxU
  have HB4 := hid (cthen HB3.out hb3)
  have HP4 := hid (blk_below HP3.out hb3)
  have HG3 := hid hg3
  have HU4 := hid hu4
  have HC3 := hid hc3
  have HC4 := hid hc4
  have HBS3 := hid hb3
  clear hof hxG hxU hb3 hc3 hc4 hg3 hu4
  simp only [List.length_singleton]
  go_wp2_with fail
  obtain ⟨S3, hS3⟩ : ∃ S3, w3.alloc (.cells #[.int .u32 11, .int .u32 0, .slice A3 1 c3, .slice A4 1 c4] 49) = S3 := ⟨_, rfl⟩
  have HBS4 := hid (show Below w3.heap.size w3 S3 by rw [← hS3]; exact below_alloc (Below.refl _ _) _)
  have HX3 := hid (show S3.heap[w3.heap.size]? = some (.cells #[.int .u32 11, .int .u32 0, .slice A3 1 c3, .slice A4 1 c4] 49 (0, 0)) by rw [← hS3]; exact blk_new w3 _)
  have HS3 := hid (blk_below HP4.out HBS4.out)
  rw [hS3]
  clear hS3
  have hz := sof_other 0 0 none none 0 0 0 0 S3 (by decide)
  unfold ckV at hz
  refine hz.mono ?_
  rintro e w4 ⟨rfl, hb4⟩
  have HBZ := hid (cthen (cthen HB4.out HBS4.out) hb4)
  have HB34 := hid (cthen HBS4.out hb4)
  have HS4 := hid (blk_below HS3.out hb4)
  have HX4 := hid (blk_below HX3.out hb4)
  clear hz hb4
  go_upto_region 7 with fail
  obtain ⟨S4, hS4⟩ : ∃ S4, w4.alloc (.cells #[.int .u32 0, .int .u32 0, .slice none 0 0, .slice none 0 0] 49) = S4 := ⟨_, rfl⟩
  have hb5 : Below w4.heap.size w4 S4 := by rw [← hS4]; exact below_alloc (Below.refl _ _) _
  have HB5 := hid (cthen HBZ.out hb5)
  have HB35 := hid (cthen HB34.out hb5)
  have HB15 := hid (cthen (cthen (cthen HB2.out HBS2.out) HBS3.out) HB35.out)
  have HS5 := hid (blk_below HS4.out hb5)
  have HX5 := hid (blk_below HX4.out hb5)
  rw [hS4]
  clear hS4 hb5
  have HG5 := hid (HG1.out.below HB15.out)
  have HU5 := hid (HU2.out.below HB15.out)
  have HH5 := hid (HG3.out.below HB35.out)
  have HV5 := hid (HU4.out.below HB35.out)
  rcases HG5.out with h | ⟨bg, og, eg, hcg⟩
  · exact absurd h (by simp)
  rcases ints_cells HU5.out with h | ⟨bu, ou, eu, -, hcu⟩
  · exact absurd h (by simp)
  subst eg
  subst eu
  have g0 : S4.cell? ⟨bg, og, none⟩ = some (.int .u16 2) := (hcg 0 (by simp)).1
  have g1 : S4.cell? ⟨bg, og + 1, none⟩ = some (.int .u16 3) := (hcg 0 (by simp)).2
  have u0 : S4.cell? ⟨bu, ou, none⟩ = some (.int .u32 11) := hcu 0 (by simp)
  obtain ⟨⟨p0, p1, p2, p3⟩, -⟩ := four HS5.out
  obtain ⟨⟨x0, x1, x2, x3⟩, -⟩ := four HX5.out
  have hsame := sack_Same.calls 9 11 0 A3 c3 [⟨2, 3⟩] A4 c4 [11] 11 0 (some ⟨bg, og, none⟩) c1 [⟨2, 3⟩] (some ⟨bu, ou, none⟩) c2 [11] true S4 (kc_of_gpc HH5.out (by simp)) HC3.out HV5.out HC4.out (kc_of_gpc HG5.out (by simp)) HC1.out HU5.out HC2.out aw_same
  clear hcg hcu
  go_wp2_with fail
  refine hsame.mono ?_
  rintro e w5 ⟨rfl, hb6⟩
  have HB6 := hid (cthen HB5.out hb6)
  have HG6 := hid (HG5.out.below hb6)
  obtain ⟨⟨p0, p1, p2, p3⟩, -⟩ := four (blk_below HS5.out hb6)
  have HS6 := hid (blk_below HS5.out hb6)
  have hcov := covers_any 11 0 13 (some ⟨bg, og, none⟩) (some ⟨bu, ou, none⟩) c1 1 c2 [⟨2, 3⟩] w5 HG6.out HC1.out (by simp)
  clear hb6 hsame x0 x1 x2 x3 g0 g1 u0
  go_wp2_with fail
  refine hcov.mono ?_
  rw [show covV 11 [⟨2, 3⟩] 13 = true by decide]
  rintro e w6 ⟨rfl, hb7⟩
  have HB7 := hid (cthen HB6.out hb7)
  have HG7 := hid (HG6.out.below hb7)
  obtain ⟨⟨p0, p1, p2, p3⟩, -⟩ := four (blk_below HS6.out hb7)
  have HS7 := hid (blk_below HS6.out hb7)
  have hcov2 := covers_any 11 0 12 (some ⟨bg, og, none⟩) (some ⟨bu, ou, none⟩) c1 1 c2 [⟨2, 3⟩] w6 HG7.out HC1.out (by simp)
  clear hb7 hcov
  go_wp2_with fail
  refine hcov2.mono ?_
  rw [show covV 11 [⟨2, 3⟩] 12 = false by decide]
  rintro e w7 ⟨rfl, hb8⟩
  have HB8 := hid (cthen HB7.out hb8)
  have HG8 := hid (HG7.out.below hb8)
  obtain ⟨⟨p0, p1, p2, p3⟩, -⟩ := four (blk_below HS7.out hb8)
  have hcov3 := covers_any 11 0 9 (some ⟨bg, og, none⟩) (some ⟨bu, ou, none⟩) c1 1 c2 [⟨2, 3⟩] w7 HG8.out HC1.out (by simp)
  clear hb8 hcov2
  go_wp2_with fail
  refine hcov3.mono ?_
  rw [show covV 11 [⟨2, 3⟩] 9 = true by decide]
  rintro e w8 ⟨rfl, hb9⟩
  have HB9 := hid (cthen HB8.out hb9)
  clear hb9 hcov3
  go_wp2_with fail
  go_ret
  exact ⟨rfl, HB9.out⟩
end Sk14
end Go.Proofs.YtcjcgehhmjnlcaaGreatDoor
