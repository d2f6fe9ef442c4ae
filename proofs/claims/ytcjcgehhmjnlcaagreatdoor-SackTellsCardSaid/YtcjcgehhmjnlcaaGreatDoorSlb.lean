/- The walk of SackBuilds. -/
import Derived.Test.YtcjcgehhmjnlcaaGreatDoorSaw
import Derived.Test.YtcjcgehhmjnlcaaGreatDoorSbr
set_option linter.unusedVariables false
set_option linter.unusedSimpArgs false
namespace Go.Proofs.YtcjcgehhmjnlcaaGreatDoor
open Go.RowKit Go.Shelf Go.Proofs.YtcjcgehhmjnlcaaGreatDoor.It Go.Proofs.YtcjcgehhmjnlcaaGreatDoorW.PrintWords Go.Proofs.YtcjcgehhmjnlcaaGreatDoorW.PrintLast Go.Proofs.YtcjcgehhmjnlcaaGreatDoorW.PrintMore
namespace Sk14
open PSackMatchesReference
theorem near_len {H A : List Int} {m : Int} (h : Near H m A) : (gOf A).length ≤ 65535 := by
  have h1 := asc_len h.1 (lo := 0) (hi := 65535) (by omega) (fun y hy => ((h.2 y).1 hy).2.1) (fun y hy => ((h.2 y).1 hy).2.2)
  have := gOf_len A
  omega
set_option maxRecDepth 100000 in
set_option maxHeartbeats 8000000 in
theorem law8_any (cum win : Int) (A : Option Addr) (c : Nat) (l : List Int) (w : World) (hcu : 0 ≤ cum ∧ cum < 4294967296) (hU : UC w A l) (hc : l.length ≤ c) (hx : ∀ x ∈ l, 0 ≤ x ∧ x < 4294967296) (hl : (l.length : Int) ≤ 9223372036854775807) (hg : GTab w) :
    Calls Tryz.prog 8 #[.int .u32 cum, .int .u32 win, .slice A l.length c] w (IsPost (.bool true) w) := by
  have HU := hid hU
  have HG := hid hg
  have HC := hid hc
  have HX := hid hx
  have HCU := hid hcu
  have hA := sawake_any w hg
  clear hU hg hc hx hcu
  go_enter Tryz.func8, Tryz.ntmps8
  go_wp2_with fail
  refine hA.mono ?_
  rintro e w1 ⟨rfl, hb⟩
  have HB1 := hid hb
  clear hA hb
  by_cases hlong : (l.length : Int) > 100
  · have hA := sawake_any _ (HG.out.below HB1.out)
    go_wp2_with fail
    refine hA.mono ?_
    rintro e w3 ⟨rfl, hb⟩
    have HB3 := hid (cthen HB1.out hb)
    clear hb hA
    go_wp2_with fail
    go_ret
    exact ⟨rfl, HB3.out⟩
  · have HLL := hid (show l.length ≤ 100 by omega)
    have hBd := build_any cum win A c l w1 HCU.out (HU.out.below HB1.out) HC.out (by omega)
    go_wp2_with fail
    refine hBd.mono ?_
    rintro e w2 ⟨m, B, v, u, rfl, hmv, hnr, hG, hUU, hb2⟩
    obtain ⟨Ag, cg, rfl, -, hGp, -⟩ := ownG_read hG
    obtain ⟨Au, du, rfl, hdu, huu⟩ := ownU_read hUU
    have HMV := hid hmv
    have HNR := hid hnr
    have HGL := hid (near_len hnr)
    have HB12 := hid hb2
    obtain ⟨D, hD⟩ : ∃ D, (bFold cum l).2 = D := ⟨_, rfl⟩
    rw [hD] at huu hdu ⊢
    have HD := hid hD
    have HUU := hid huu
    have HDU := hid hdu
    have HDL := hid (show D.length ≤ 100 by have := bFold_len cum l; rw [hD] at this; have := HLL.out; omega)
    obtain ⟨q, hq⟩ : ∃ q, (cum + m) % 4294967296 = q := ⟨_, rfl⟩
    rw [hq]
    have HQ := hid hq
    have hbk := sbk_any q win Ag Au cg D.length du (gOf B) w2 hGp (by have := HGL.out; omega)
    clear hBd hmv hnr hG hUU hb2 hq hD hGp huu hdu
    go_wp2_with fail
    refine hbk.mono ?_
    rintro e w3 ⟨A3, c3, rfl, hG3, hb23⟩
    have HB13 := hid (cthen HB12.out hb23)
    obtain ⟨A3', c3', e3, hc3, hg3, -⟩ := ownG_read hG3
    injection e3 with e31 e32 e33
    subst e31
    subst e33
    clear e32
    have HC3 := hid hc3
    have HG3 := hid hg3
    have HU3 := hid (HUU.out.below hb23)
    have hrb := rbuild_any cum win A c l w3 HCU.out ((HU.out.below HB1.out).below HB13.out) HC.out (by have := HLL.out; omega) HX.out
    clear hbk hc3 hg3 hG3 hb23
    go_wp2_with fail
    refine hrb.mono ?_
    rintro e w4 ⟨m', B', v4, u4, rfl, hmv, hnr, hG, hUU, hb4⟩
    obtain rfl : m' = m := Mv.unique hmv HMV.out
    obtain rfl : B' = B := Near.unique hnr HNR.out
    rw [HD.out] at hUU
    rw [HQ.out]
    obtain ⟨A4, c4, rfl, hc4, hg4, -⟩ := ownG_read hG
    obtain ⟨B4, d4, rfl, hd4, hu4⟩ := ownU_read hUU
    have hsm := rsame_any q win A3 A4 Au B4 c3 c4 du d4 (gOf B').length D.length (gOf B') D w4 rfl rfl (HG3.out.below hb4) hg4 (HU3.out.below hb4) hu4 (by have := HGL.out; omega) (by have := HDL.out; omega)
    have HB4 := hid (cthen (cthen HB1.out HB13.out) hb4)
    clear hrb hmv hnr hG hUU hb4 hc4 hg4 hd4 hu4
    go_wp2_with fail
    refine hsm.mono ?_
    rintro e w5 ⟨rfl, hb5⟩
    have HB5 := hid (cthen HB4.out hb5)
    clear hb5 hsm
    go_wp2_with fail
    go_ret
    exact ⟨rfl, HB5.out⟩
end Sk14
end Go.Proofs.YtcjcgehhmjnlcaaGreatDoor
