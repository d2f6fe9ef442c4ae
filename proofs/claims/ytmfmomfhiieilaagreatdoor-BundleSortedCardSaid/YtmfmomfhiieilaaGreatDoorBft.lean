/- 'bundle.Fits': one chunk in a packet. -/
import Derived.Test.YtmfmomfhiieilaaGreatDoorBfw
set_option linter.unusedVariables false
set_option linter.unusedSimpArgs false
namespace Go.Proofs.YtmfmomfhiieilaaGreatDoor
open Go.RowKit Go.Shelf Go.Proofs.YtmfmomfhiieilaaGreatDoor.It Go.Proofs.YtmfmomfhiieilaaGreatDoorW.PrintWords Go.Proofs.YtmfmomfhiieilaaGreatDoorW.PrintLast Go.Proofs.YtmfmomfhiieilaaGreatDoorW.PrintMore
namespace Bn
open PBundleSorted
/-- A row of one chunk that was just made. -/
theorem cs_one {w : World} {x : Ck} {A K : Option Addr} {n c m d : Nat} {b : Nat} (hn : x.f2.length = n) (hm : x.f3.length = m) (hb : w.heap[b]? = some (.cells #[.int .u8 x.f0, .int .u8 x.f1, .slice A n c, .slice K m d] 42 (0, 0))) (h1 : BC w A x.f2) (h2 : n ≤ c) (h3 : Kd.C k87 w K m x.f3) (h4 : m ≤ d) : CsC w (some ⟨b, 0, none⟩) 1 [x] := by
  subst hn
  subst hm
  refine ⟨rfl, by omega, fun _ => ⟨_, rfl, fun j p hj => ?_⟩⟩
  cases j with
  | succ j => simp at hj
  | zero =>
    simp at hj
    subst hj
    refine ⟨_, rfl, k42_mk w x h2 h1 h4 h3, fun t u hu => ?_⟩
    obtain ⟨⟨c0, c1, c2, c3⟩, -⟩ := four hb
    rw [Go.WideShapes.add_plain]
    match t, hu with
    | 0, hu => simp at hu; subst hu; simpa using c0
    | 1, hu => simp at hu; subst hu; simpa using c1
    | 2, hu => simp at hu; subst hu; simpa using c2
    | 3, hu => simp at hu; subst hu; simpa using c3
    | t + 4, hu => simp at hu
set_option maxRecDepth 100000 in
set_option maxHeartbeats 400000 in
/-- 'bundle.Fits'. -/
theorem fits_any (M : Int) (x : Ck) (A K : Option Addr) (n c m d : Nat) (w : World) (hn : x.f2.length = n) (hm : x.f3.length = m) (h1 : BC w A x.f2) (h2 : n ≤ c) (h3 : Kd.C k87 w K m x.f3) (h4 : m ≤ d) (hok : x.f2.length ≤ 1000000 ∧ cnts x.f3 ≤ 900) :
    Calls Tryz.prog 21 #[.int .i64 M, ckV x.f0 x.f1 A n c K m d] w (IsPost (.bool (decide (((12 + up (csz x) : Nat) : Int) ≤ M))) w) := by
  obtain ⟨w1, hw1⟩ : ∃ w1, w.alloc (.cells #[.int .u8 x.f0, .int .u8 x.f1, .slice A n c, .slice K m d] 42) = w1 := ⟨_, rfl⟩
  have hb1 : Below w.heap.size w w1 := by rw [← hw1]; exact below_alloc (Below.refl _ _) _
  have HX := hid (show w1.heap[w.heap.size]? = some (.cells #[.int .u8 x.f0, .int .u8 x.f1, .slice A n c, .slice K m d] 42 (0, 0)) by rw [← hw1]; exact blk_new w _)
  obtain ⟨w2, hw2⟩ : ∃ w2, w1.alloc (.cells #[.int .u8 x.f0, .int .u8 x.f1, .slice A n c, .slice K m d] 42) = w2 := ⟨_, rfl⟩
  have hb2 : Below w.heap.size w w2 := by rw [← hw2]; exact below_alloc hb1 _
  have hcs := psize_any (some ⟨w1.heap.size, 0, none⟩) 1 1 [x] w2 rfl (cs_one hn hm (by rw [← hw2]; exact blk_new w1 _) (h1.below hb2) h2 (Kd.C_below h3 hb2) h4) ⟨by simp, fun y hy => by simp at hy; subst hy; exact hok⟩
  have e : psz [x] = up (csz x) := by simp [psz]
  rw [e] at hcs
  rw [← hw2] at hcs
  have HB2 := hid hb2
  have HW2 := hid hw2
  obtain ⟨⟨x0, x1, x2, x3⟩, -⟩ := four HX.out
  rw [← hw1] at hcs x0 x1 x2 x3
  rw [World.size_alloc] at hcs
  have HW1 := hid hw1
  obtain ⟨z, hz⟩ : ∃ z, 12 + up (csz x) = z := ⟨_, rfl⟩
  rw [hz] at hcs ⊢
  clear hn hm h1 h2 h3 h4 hok hb1 hb2 hw1 hw2 e hz HX
  unfold ckV
  go_enter Tryz.func21, Tryz.ntmps21
  go_wp2_with fail
  refine hcs.mono ?_
  rintro e w3 ⟨rfl, hb3⟩
  rw [HW1.out, HW2.out] at hb3
  have HB3 := hid (cthen HB2.out hb3)
  clear hcs hb3 x0 x1 x2 x3
  go_wp2_with fail
  go_ret
  exact ⟨rfl, HB3.out⟩
end Bn
end Go.Proofs.YtmfmomfhiieilaaGreatDoor
