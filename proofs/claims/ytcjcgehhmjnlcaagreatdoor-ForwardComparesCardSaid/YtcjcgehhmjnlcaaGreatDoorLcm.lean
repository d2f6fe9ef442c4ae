/- The walk of ForwardCompares. -/
import Derived.Test.YtcjcgehhmjnlcaaGreatDoorMh
import Derived.Test.YtcjcgehhmjnlcaaGreatDoorPForwardComparesx3
set_option linter.unusedVariables false
set_option linter.unusedSimpArgs false
namespace Go.Proofs.YtcjcgehhmjnlcaaGreatDoor
open Go.RowKit Go.Shelf Go.Sort Go.Proofs.YtcjcgehhmjnlcaaGreatDoorW.PrintWords

theorem grow_below {w W : World} (h : GrowOf w W) : Below w.heap.size w W := by
  obtain ⟨q, os, rfl⟩ := h
  refine ⟨rfl, rfl, rfl, by simp, fun b hb => ?_⟩
  rw [heap_grow_old _ _ (by simpa using hb)]
  rfl
theorem cmp_below (a b : Sk) (w : World) : Calls Tryz.prog 14 #[.agg a.cells.toArray, .agg b.cells.toArray] w (IsPost (.int .i64 (cmpS a b)) w) := (compare_any a b w).mono (fun e w' h => ⟨h.1, grow_below h.2⟩)
theorem cmpS_bd (a b : Sk) : cmpS a b = -1 ∨ cmpS a b = 0 ∨ cmpS a b = 1 := by
  unfold cmpS orI c3
  repeat' split
  all_goals omega
theorem cmpS_flip (a b : Sk) : cmpS b a = - cmpS a b := by
  unfold cmpS orI c3
  repeat' split
  all_goals omega
theorem refcmp_any (a b : Sk) (w : World) : Calls Tryz.prog 15 #[.agg a.cells.toArray, .agg b.cells.toArray] w (IsPost (.int .i64 (cmpS a b)) w) := by
  refine (PForwardCompares.wharfref16_Compare.calls a.st a.un a.sq b.st b.un b.sq (cmpS a b) w ?_).mono (fun e w' h => h)
  unfold PForwardCompares.wharfref16_Compare.f cmpS orI c3 ofB
  cases a.un <;> cases b.un <;> simp <;> (repeat' split) <;> first | rfl | omega
theorem cmpS_seq (a b : Sk) (q : Int) : cmpS ⟨a.st, a.un, q⟩ b = cmpS a b := rfl
set_option maxRecDepth 100000 in
set_option maxHeartbeats 4000000 in
theorem law3_any (a b : Sk) (q : Int) (w : World) (hg : GTab w) : Calls Tryz.prog 3 #[.agg a.cells.toArray, .agg b.cells.toArray, .int .u32 q] w (IsPost (.bool true) w) := by
  have B0 : Below w.heap.size w ((w.alloc (.cells a.cells.toArray 25)).alloc (.cells b.cells.toArray 25)) := below_alloc (below_alloc (Below.refl _ _) _) _
  have hA := awake_any _ (hg.below B0)
  have HB0 := hid B0
  have K0 := hid (blk_alloc (x := .cells b.cells.toArray 25) (blk_new w (.cells a.cells.toArray 25)))
  have K1 := hid (blk_new1 w (.cells a.cells.toArray 25) (.cells b.cells.toArray 25))
  obtain ⟨N, hN⟩ : ∃ N, N = cmpS a b := ⟨_, rfl⟩
  have hf : cmpS b a = -N := by rw [hN]; exact cmpS_flip a b
  have hbd := cmpS_bd a b
  rw [← hN] at hbd
  have c1 := fun W => cmp_below a b W
  have c2 := fun W => cmp_below b a W
  have c3' := fun W => cmp_below ⟨a.st, a.un, q⟩ b W
  have c4 := fun W => refcmp_any a b W
  simp only [cmpS_seq] at c3'
  rw [← hN] at c1 c3' c4
  rw [hf] at c2
  have C1 := hid c1
  have C2 := hid c2
  have C3 := hid c3'
  have C4 := hid c4
  have hwn : wrap64 (-N) = -N := by unfold wrap64; omega
  clear c1 c2 c3' c4 hf B0 hg hN
  go_enter Tryz.func3, Tryz.ntmps3
  go_wp2_with fail
  refine hA.mono ?_
  rintro e w1 ⟨rfl, hb⟩
  have B1 := hid (cthen HB0.out hb)
  have M0 := hid (blk_below K0.out hb)
  have M1 := hid (blk_below K1.out hb)
  obtain ⟨⟨x0, x1, x2⟩, -⟩ := three M0.out
  obtain ⟨⟨y0, y1, y2⟩, -⟩ := three M1.out
  clear hb hA K0 K1
  go_wp2_with fail
  refine (C1.out _).mono ?_
  rintro e w2 ⟨rfl, hb⟩
  have B2 := hid (cthen B1.out hb)
  have M2 := hid (blk_below M0.out hb)
  have M3 := hid (blk_below M1.out hb)
  clear hb x0 x1 x2 y0 y1 y2
  obtain ⟨cx, hcx⟩ : ∃ cx : Obj, cx = .cells #[.int .u16 a.st, .bool a.un, .int .u32 q] 25 (0, 0) := ⟨_, rfl⟩
  have M4 := hid (blk_alloc (x := cx) M2.out)
  have M5 := hid (blk_alloc (x := cx) M3.out)
  have M6 := hid (blk_new w2 cx)
  have B4 := hid (below_alloc B2.out cx)
  subst hcx
  obtain ⟨⟨x0, x1, x2⟩, -⟩ := three M4.out
  obtain ⟨⟨y0, y1, y2⟩, -⟩ := three M5.out
  obtain ⟨⟨u0, u1, u2⟩, -⟩ := three M2.out
  go_wp2_with fail
  refine (C4.out _).mono ?_
  rintro e w5 ⟨rfl, hb⟩
  have B5 := hid (cthen B4.out hb)
  have N0 := hid (blk_below M4.out hb)
  have N1 := hid (blk_below M5.out hb)
  have N2 := hid (blk_below M6.out hb)
  clear hb x0 x1 x2 y0 y1 y2 u0 u1 u2
  obtain ⟨⟨x0, x1, x2⟩, -⟩ := three N0.out
  obtain ⟨⟨y0, y1, y2⟩, -⟩ := three N1.out
  go_wp2_with fail
  refine (C2.out _).mono ?_
  rintro e w6 ⟨rfl, hb⟩
  have B6 := hid (cthen B5.out hb)
  have P1 := hid (blk_below N1.out hb)
  have P2 := hid (blk_below N2.out hb)
  clear hb x0 x1 x2 y0 y1 y2
  obtain ⟨⟨x0, x1, x2⟩, -⟩ := three P2.out
  obtain ⟨⟨y0, y1, y2⟩, -⟩ := three P1.out
  go_wp2_with fail
  refine (C3.out _).mono ?_
  rintro e w7 ⟨rfl, hb⟩
  have B7 := hid (cthen B6.out hb)
  go_wp2_with fail
  go_ret
  exact ⟨by simp, B7.out⟩
end Go.Proofs.YtcjcgehhmjnlcaaGreatDoor
