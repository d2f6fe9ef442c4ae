/- 'wharfref12.Check' at the forms without nodes, and its parts. -/
import Derived.Test.YtcjcgehhmjnlcaaGreatDoorMd
import Derived.Test.YtcjcgehhmjnlcaaGreatDoorQfc
set_option linter.unusedVariables false
set_option linter.unusedSimpArgs false
namespace Go.Proofs.YtcjcgehhmjnlcaaGreatDoor
open Go.RowKit Go.Shelf Go.Proofs.YtcjcgehhmjnlcaaGreatDoor.It Go.Proofs.YtcjcgehhmjnlcaaGreatDoorW.PrintWords Go.Proofs.YtcjcgehhmjnlcaaGreatDoorW.PrintLast Go.Proofs.YtcjcgehhmjnlcaaGreatDoorW.PrintMore
theorem nat_eq0 (m : Nat) : ((m : Int) == 0) = (m == 0) := by
  rw [Bool.eq_iff_iff]
  simp
set_option maxHeartbeats 1000000 in
theorem rwanted_0 (r : KR) (K : Option Addr) (m d : Nat) (hk : r.kids = 0) (w : World) : Calls Tryz.prog 72 #[r.val, .slice K m d] w (IsPost (.bool (m == 0)) w) := by
  unfold KR.val
  rw [hk]
  go_enter Tryz.func72, Tryz.ntmps72
  go_wp2_with fail
  go_ret
  exact ⟨by rw [← nat_eq0]; rfl, below_alloc (Below.refl _ _) _⟩
set_option maxHeartbeats 1000000 in
theorem rclass_0 (w : World) : Calls Tryz.prog 76 #[.int .i64 0] w fun e w' => e = .returned (.int .i64 0) ∧ w' = w := by
  go_enter Tryz.func76, Tryz.ntmps76
  go_wp2_with fail
  go_ret
  exact ⟨rfl, rfl⟩
set_option maxHeartbeats 1000000 in
theorem rall_0 (k : Int) (K : Option Addr) (d : Nat) (w : World) : Calls Tryz.prog 75 #[.int .i64 k, .slice K 0 d] w fun e w' => e = .returned (.int .i64 0) ∧ w' = w := by
  go_enter Tryz.func75, Tryz.ntmps75
  go_wp2_with fail
  go_loop [5] (fun vi => vi = .int .i64 0) (fun vi => 0)
  case atStart => exact rfl
  case round =>
    obtain rfl := hrel
    go_wp2_with fail
    go_ret
    exact ⟨rfl, rfl⟩
set_option maxHeartbeats 1000000 in
theorem rsize08_0 (K : Option Addr) (d : Nat) (w : World) : Calls Tryz.prog 111 #[.slice K 0 d] w fun e w' => e = .returned (.int .i64 0) ∧ w' = w := by
  go_enter Tryz.func111, Tryz.ntmps111
  go_wp2_with fail
  go_loop [3, 4] (fun vn vi => vn = .int .i64 0 ∧ vi = .int .i64 0) (fun vn vi => 0)
  case atStart => exact ⟨rfl, rfl⟩
  case round =>
    obtain ⟨rfl, rfl⟩ := hrel
    go_wp2_with fail
    go_ret
    exact ⟨rfl, rfl⟩
set_option maxHeartbeats 1000000 in
theorem rsize_0 (t f : Int) (A K : Option Addr) (n c d : Nat) (w : World) (hn : n ≤ 1099511627776) : Calls Tryz.prog 77 #[ckV t f A n c K 0 d] w (IsPost (.int .i64 (4 + n)) w) := by
  have hw : IntKind.i64.wrap (IntKind.i64.wrap (4 + (n : Int)) + 0) = 4 + n := by rw [IntWalk.i64_in (4 + (n : Int)) (by omega), IntWalk.i64_in _ (by omega)]; omega
  obtain ⟨⟨x0, x1, x2, x3⟩, -⟩ := four (blk_new w (.cells #[.int .u8 t, .int .u8 f, .slice A n c, .slice K 0 d] 35))
  have HW := hid hw
  clear hw
  unfold ckV
  go_enter Tryz.func77, Tryz.ntmps77
  go_wp2_with fail
  go_quiet ((go_at_call 111; exact Calls.quiet_of_same (rsize08_0 _ _ _)))
  go_wp2_with fail
  go_ret
  exact ⟨by rw [← HW.out]; simp, below_drew (below_alloc (Below.refl _ _) _) _⟩
/-- The code that the reference implementation gives, at a form without nodes. -/
def rchk (bf ft : Bool) (m : Nat) (cn : Bool) (od : Int) : Int := if bf = true then 6 else if ft = false ∨ m ≠ 0 then 7 else if cn = false then 8 else if 0 ≤ od then 11 else 0
section
variable (r : KR) (t f : Int) (A K : Option Addr) (n c m d : Nat) (w : World) (hkd : r.kids = 0)
  (hOf : ∀ W, Calls Tryz.prog 70 #[.int .u8 t] W (IsPost (.tuple #[r.val, .bool true]) W))
set_option maxRecDepth 100000 in
set_option maxHeartbeats 2000000 in
include hkd hOf in
theorem rck_6 (hmk : r.mask = 0) (hf0 : 0 ≤ f) (hf1 : f ≤ 255) (hbf : (bits .and .i64 f 255 != 0) = true) : Calls Tryz.prog 31 #[ckV t f A n c K m d] w (IsPost (.int .i64 6) w) := by
  obtain ⟨ty, nm, mask, least, most, unit, kids⟩ := r
  simp only at hkd hmk
  subst hkd hmk
  have HOF := hid hOf
  clear hOf
  unfold KR.val at *
  unfold ckV at *
  simp only at *
  go_enter Tryz.func31, Tryz.ntmps31
  go_wp2_with fail
  refine (HOF.out _).mono ?_
  rintro e w1 ⟨rfl, hb⟩
  have B1 := hid (cthen (below_alloc (Below.refl w.heap.size w) _) hb)
  have K1 := hid (new_blk hb)
  have K2 := hid (blk_alloc (x := .cells #[.int .u8 ty, .string nm, .int .u8 0, .int .i64 least, .int .i64 most, .int .i64 unit, .int .i64 0] 117) K1.out)
  have Q2 := hid (blk_new w1 (.cells #[.int .u8 ty, .string nm, .int .u8 0, .int .i64 least, .int .i64 most, .int .i64 unit, .int .i64 0] 117))
  have B2 := hid (below_alloc B1.out (.cells #[.int .u8 ty, .string nm, .int .u8 0, .int .i64 least, .int .i64 most, .int .i64 unit, .int .i64 0] 117))
  obtain ⟨⟨x0, x1, x2, x3⟩, -⟩ := four K2.out
  clear hb HOF
  obtain ⟨⟨y0, y1, y2, y3, y4, y5, y6⟩, -⟩ := seven Q2.out
  go_wp2_with fail
  go_ret
  exact ⟨rfl, B2.out⟩
set_option maxRecDepth 100000 in
set_option maxHeartbeats 2000000 in
include hkd hOf in
theorem rck_7a (hmk : r.mask = 0) (hf0 : 0 ≤ f) (hf1 : f ≤ 255) (hbf : (bits .and .i64 f 255 != 0) = false) (hft : ∀ W, Calls Tryz.prog 71 #[r.val, .int .i64 n] W (IsPost (.bool false) W)) : Calls Tryz.prog 31 #[ckV t f A n c K m d] w (IsPost (.int .i64 7) w) := by
  obtain ⟨ty, nm, mask, least, most, unit, kids⟩ := r
  simp only at hkd hmk
  subst hkd hmk
  have HOF := hid hOf
  have HFT := hid hft
  clear hOf hft
  unfold KR.val at *
  unfold ckV at *
  simp only at *
  go_enter Tryz.func31, Tryz.ntmps31
  go_wp2_with fail
  refine (HOF.out _).mono ?_
  rintro e w1 ⟨rfl, hb⟩
  have B1 := hid (cthen (below_alloc (Below.refl w.heap.size w) _) hb)
  have K1 := hid (new_blk hb)
  have K2 := hid (blk_alloc (x := .cells #[.int .u8 ty, .string nm, .int .u8 0, .int .i64 least, .int .i64 most, .int .i64 unit, .int .i64 0] 117) K1.out)
  have Q2 := hid (blk_new w1 (.cells #[.int .u8 ty, .string nm, .int .u8 0, .int .i64 least, .int .i64 most, .int .i64 unit, .int .i64 0] 117))
  have B2 := hid (below_alloc B1.out (.cells #[.int .u8 ty, .string nm, .int .u8 0, .int .i64 least, .int .i64 most, .int .i64 unit, .int .i64 0] 117))
  obtain ⟨⟨x0, x1, x2, x3⟩, -⟩ := four K2.out
  clear hb HOF
  obtain ⟨⟨y0, y1, y2, y3, y4, y5, y6⟩, -⟩ := seven Q2.out
  go_wp2_with fail
  refine (HFT.out _).mono ?_
  rintro e w3 ⟨rfl, hb⟩
  have B3 := hid (cthen B2.out hb)
  have K3 := hid (blk_below K2.out hb)
  have Q3 := hid (blk_below Q2.out hb)
  obtain ⟨⟨x0, x1, x2, x3⟩, -⟩ := four K3.out
  clear hb K2 Q2
  go_wp2_with fail
  go_ret
  exact ⟨rfl, B3.out⟩
set_option maxRecDepth 100000 in
set_option maxHeartbeats 2000000 in
include hkd hOf in
theorem rck_7b (hmk : r.mask = 0) (hf0 : 0 ≤ f) (hf1 : f ≤ 255) (hbf : (bits .and .i64 f 255 != 0) = false) (hft : ∀ W, Calls Tryz.prog 71 #[r.val, .int .i64 n] W (IsPost (.bool true) W)) (hm : m ≠ 0) : Calls Tryz.prog 31 #[ckV t f A n c K m d] w (IsPost (.int .i64 7) w) := by
  obtain ⟨ty, nm, mask, least, most, unit, kids⟩ := r
  simp only at hkd hmk
  subst hkd hmk
  have HOF := hid hOf
  have HFT := hid hft
  clear hOf hft
  unfold KR.val at *
  unfold ckV at *
  simp only at *
  go_enter Tryz.func31, Tryz.ntmps31
  go_wp2_with fail
  refine (HOF.out _).mono ?_
  rintro e w1 ⟨rfl, hb⟩
  have B1 := hid (cthen (below_alloc (Below.refl w.heap.size w) _) hb)
  have K1 := hid (new_blk hb)
  have K2 := hid (blk_alloc (x := .cells #[.int .u8 ty, .string nm, .int .u8 0, .int .i64 least, .int .i64 most, .int .i64 unit, .int .i64 0] 117) K1.out)
  have Q2 := hid (blk_new w1 (.cells #[.int .u8 ty, .string nm, .int .u8 0, .int .i64 least, .int .i64 most, .int .i64 unit, .int .i64 0] 117))
  have B2 := hid (below_alloc B1.out (.cells #[.int .u8 ty, .string nm, .int .u8 0, .int .i64 least, .int .i64 most, .int .i64 unit, .int .i64 0] 117))
  obtain ⟨⟨x0, x1, x2, x3⟩, -⟩ := four K2.out
  clear hb HOF
  obtain ⟨⟨y0, y1, y2, y3, y4, y5, y6⟩, -⟩ := seven Q2.out
  go_wp2_with fail
  refine (HFT.out _).mono ?_
  rintro e w3 ⟨rfl, hb⟩
  have B3 := hid (cthen B2.out hb)
  have K3 := hid (blk_below K2.out hb)
  have Q3 := hid (blk_below Q2.out hb)
  obtain ⟨⟨x0, x1, x2, x3⟩, -⟩ := four K3.out
  clear hb K2 Q2
  obtain ⟨⟨y0, y1, y2, y3, y4, y5, y6⟩, -⟩ := seven Q3.out
  have hmz : (m == 0) = false := by simpa using hm
  go_wp2_with fail
  refine (rwanted_0 ⟨ty, nm, 0, least, most, unit, 0⟩ K m d rfl _).mono ?_
  rintro e w4 ⟨rfl, hb⟩
  have B4 := hid (cthen B3.out hb)
  have K4 := hid (blk_below K3.out hb)
  have Q4 := hid (blk_below Q3.out hb)
  obtain ⟨⟨x0, x1, x2, x3⟩, -⟩ := four K4.out
  clear hb K3 Q3
  go_wp2_with fail
  go_ret
  exact ⟨rfl, B4.out⟩
set_option maxRecDepth 100000 in
set_option maxHeartbeats 2000000 in
include hkd hOf in
theorem rck_8 (hmk : r.mask = 0) (hf0 : 0 ≤ f) (hf1 : f ≤ 255) (hbf : (bits .and .i64 f 255 != 0) = false) (hft : ∀ W, Calls Tryz.prog 71 #[r.val, .int .i64 n] W (IsPost (.bool true) W)) (hcn : ∀ W, Below w.heap.size w W → Calls Tryz.prog 73 #[.int .u8 t, .slice A n c] W (IsPost (.bool false) W)) : Calls Tryz.prog 31 #[ckV t f A n c K 0 d] w (IsPost (.int .i64 8) w) := by
  obtain ⟨ty, nm, mask, least, most, unit, kids⟩ := r
  simp only at hkd hmk
  subst hkd hmk
  have HOF := hid hOf
  have HFT := hid hft
  have HCN := hid hcn
  clear hOf hft hcn
  unfold KR.val at *
  unfold ckV at *
  simp only at *
  go_enter Tryz.func31, Tryz.ntmps31
  go_wp2_with fail
  refine (HOF.out _).mono ?_
  rintro e w1 ⟨rfl, hb⟩
  have B1 := hid (cthen (below_alloc (Below.refl w.heap.size w) _) hb)
  have K1 := hid (new_blk hb)
  have K2 := hid (blk_alloc (x := .cells #[.int .u8 ty, .string nm, .int .u8 0, .int .i64 least, .int .i64 most, .int .i64 unit, .int .i64 0] 117) K1.out)
  have Q2 := hid (blk_new w1 (.cells #[.int .u8 ty, .string nm, .int .u8 0, .int .i64 least, .int .i64 most, .int .i64 unit, .int .i64 0] 117))
  have B2 := hid (below_alloc B1.out (.cells #[.int .u8 ty, .string nm, .int .u8 0, .int .i64 least, .int .i64 most, .int .i64 unit, .int .i64 0] 117))
  obtain ⟨⟨x0, x1, x2, x3⟩, -⟩ := four K2.out
  clear hb HOF
  obtain ⟨⟨y0, y1, y2, y3, y4, y5, y6⟩, -⟩ := seven Q2.out
  go_wp2_with fail
  refine (HFT.out _).mono ?_
  rintro e w3 ⟨rfl, hb⟩
  have B3 := hid (cthen B2.out hb)
  have K3 := hid (blk_below K2.out hb)
  have Q3 := hid (blk_below Q2.out hb)
  obtain ⟨⟨x0, x1, x2, x3⟩, -⟩ := four K3.out
  clear hb K2 Q2
  obtain ⟨⟨y0, y1, y2, y3, y4, y5, y6⟩, -⟩ := seven Q3.out
  go_wp2_with fail
  refine (rwanted_0 ⟨ty, nm, 0, least, most, unit, 0⟩ K 0 d rfl _).mono ?_
  rintro e w4 ⟨rfl, hb⟩
  have B4 := hid (cthen B3.out hb)
  have K4 := hid (blk_below K3.out hb)
  have Q4 := hid (blk_below Q3.out hb)
  obtain ⟨⟨x0, x1, x2, x3⟩, -⟩ := four K4.out
  clear hb K3 Q3
  go_wp2_with fail
  refine (HCN.out _ B4.out).mono ?_
  rintro e w5 ⟨rfl, hb⟩
  have B5 := hid (cthen B4.out hb)
  have K5 := hid (blk_below K4.out hb)
  have Q5 := hid (blk_below Q4.out hb)
  obtain ⟨⟨x0, x1, x2, x3⟩, -⟩ := four K5.out
  clear hb K4 Q4
  go_wp2_with fail
  go_ret
  exact ⟨rfl, B5.out⟩
set_option maxRecDepth 100000 in
set_option maxHeartbeats 2000000 in
include hkd hOf in
theorem rck_11 (hmk : r.mask = 0) (hf0 : 0 ≤ f) (hf1 : f ≤ 255) (hbf : (bits .and .i64 f 255 != 0) = false) (hft : ∀ W, Calls Tryz.prog 71 #[r.val, .int .i64 n] W (IsPost (.bool true) W)) (hcn : ∀ W, Below w.heap.size w W → Calls Tryz.prog 73 #[.int .u8 t, .slice A n c] W (IsPost (.bool true) W)) (od : Int) (hod : ∀ W, Below w.heap.size w W → Calls Tryz.prog 74 #[.int .u8 t, .slice A n c] W (IsPost (.int .i64 od) W)) (ho : 0 ≤ od) : Calls Tryz.prog 31 #[ckV t f A n c K 0 d] w (IsPost (.int .i64 11) w) := by
  obtain ⟨ty, nm, mask, least, most, unit, kids⟩ := r
  simp only at hkd hmk
  subst hkd hmk
  have HOF := hid hOf
  have HFT := hid hft
  have HCN := hid hcn
  have HOD := hid hod
  clear hOf hft hcn hod
  unfold KR.val at *
  unfold ckV at *
  simp only at *
  go_enter Tryz.func31, Tryz.ntmps31
  go_wp2_with fail
  refine (HOF.out _).mono ?_
  rintro e w1 ⟨rfl, hb⟩
  have B1 := hid (cthen (below_alloc (Below.refl w.heap.size w) _) hb)
  have K1 := hid (new_blk hb)
  have K2 := hid (blk_alloc (x := .cells #[.int .u8 ty, .string nm, .int .u8 0, .int .i64 least, .int .i64 most, .int .i64 unit, .int .i64 0] 117) K1.out)
  have Q2 := hid (blk_new w1 (.cells #[.int .u8 ty, .string nm, .int .u8 0, .int .i64 least, .int .i64 most, .int .i64 unit, .int .i64 0] 117))
  have B2 := hid (below_alloc B1.out (.cells #[.int .u8 ty, .string nm, .int .u8 0, .int .i64 least, .int .i64 most, .int .i64 unit, .int .i64 0] 117))
  obtain ⟨⟨x0, x1, x2, x3⟩, -⟩ := four K2.out
  clear hb HOF
  obtain ⟨⟨y0, y1, y2, y3, y4, y5, y6⟩, -⟩ := seven Q2.out
  go_wp2_with fail
  refine (HFT.out _).mono ?_
  rintro e w3 ⟨rfl, hb⟩
  have B3 := hid (cthen B2.out hb)
  have K3 := hid (blk_below K2.out hb)
  have Q3 := hid (blk_below Q2.out hb)
  obtain ⟨⟨x0, x1, x2, x3⟩, -⟩ := four K3.out
  clear hb K2 Q2
  obtain ⟨⟨y0, y1, y2, y3, y4, y5, y6⟩, -⟩ := seven Q3.out
  go_wp2_with fail
  refine (rwanted_0 ⟨ty, nm, 0, least, most, unit, 0⟩ K 0 d rfl _).mono ?_
  rintro e w4 ⟨rfl, hb⟩
  have B4 := hid (cthen B3.out hb)
  have K4 := hid (blk_below K3.out hb)
  have Q4 := hid (blk_below Q3.out hb)
  obtain ⟨⟨x0, x1, x2, x3⟩, -⟩ := four K4.out
  clear hb K3 Q3
  go_wp2_with fail
  refine (HCN.out _ B4.out).mono ?_
  rintro e w5 ⟨rfl, hb⟩
  have B5 := hid (cthen B4.out hb)
  have K5 := hid (blk_below K4.out hb)
  have Q5 := hid (blk_below Q4.out hb)
  obtain ⟨⟨x0, x1, x2, x3⟩, -⟩ := four K5.out
  clear hb K4 Q4
  go_wp2_with fail
  refine (HOD.out _ B5.out).mono ?_
  rintro e w6 ⟨rfl, hb⟩
  have B6 := hid (cthen B5.out hb)
  have K6 := hid (blk_below K5.out hb)
  have Q6 := hid (blk_below Q5.out hb)
  obtain ⟨⟨x0, x1, x2, x3⟩, -⟩ := four K6.out
  clear hb K5 Q5
  go_wp2_with fail
  go_ret
  exact ⟨rfl, B6.out⟩
set_option maxRecDepth 100000 in
set_option maxHeartbeats 2000000 in
include hkd hOf in
theorem rck_0 (hmk : r.mask = 0) (hf0 : 0 ≤ f) (hf1 : f ≤ 255) (hbf : (bits .and .i64 f 255 != 0) = false) (hft : ∀ W, Calls Tryz.prog 71 #[r.val, .int .i64 n] W (IsPost (.bool true) W)) (hcn : ∀ W, Below w.heap.size w W → Calls Tryz.prog 73 #[.int .u8 t, .slice A n c] W (IsPost (.bool true) W)) (od : Int) (hod : ∀ W, Below w.heap.size w W → Calls Tryz.prog 74 #[.int .u8 t, .slice A n c] W (IsPost (.int .i64 od) W)) (ho : od < 0) (hn : n ≤ 65531) : Calls Tryz.prog 31 #[ckV t f A n c K 0 d] w (IsPost (.int .i64 0) w) := by
  obtain ⟨ty, nm, mask, least, most, unit, kids⟩ := r
  simp only at hkd hmk
  subst hkd hmk
  have HOF := hid hOf
  have HFT := hid hft
  have HCN := hid hcn
  have HOD := hid hod
  clear hOf hft hcn hod
  unfold KR.val at *
  unfold ckV at *
  simp only at *
  go_enter Tryz.func31, Tryz.ntmps31
  go_wp2_with fail
  refine (HOF.out _).mono ?_
  rintro e w1 ⟨rfl, hb⟩
  have B1 := hid (cthen (below_alloc (Below.refl w.heap.size w) _) hb)
  have K1 := hid (new_blk hb)
  have K2 := hid (blk_alloc (x := .cells #[.int .u8 ty, .string nm, .int .u8 0, .int .i64 least, .int .i64 most, .int .i64 unit, .int .i64 0] 117) K1.out)
  have Q2 := hid (blk_new w1 (.cells #[.int .u8 ty, .string nm, .int .u8 0, .int .i64 least, .int .i64 most, .int .i64 unit, .int .i64 0] 117))
  have B2 := hid (below_alloc B1.out (.cells #[.int .u8 ty, .string nm, .int .u8 0, .int .i64 least, .int .i64 most, .int .i64 unit, .int .i64 0] 117))
  obtain ⟨⟨x0, x1, x2, x3⟩, -⟩ := four K2.out
  clear hb HOF
  obtain ⟨⟨y0, y1, y2, y3, y4, y5, y6⟩, -⟩ := seven Q2.out
  go_wp2_with fail
  refine (HFT.out _).mono ?_
  rintro e w3 ⟨rfl, hb⟩
  have B3 := hid (cthen B2.out hb)
  have K3 := hid (blk_below K2.out hb)
  have Q3 := hid (blk_below Q2.out hb)
  obtain ⟨⟨x0, x1, x2, x3⟩, -⟩ := four K3.out
  clear hb K2 Q2
  obtain ⟨⟨y0, y1, y2, y3, y4, y5, y6⟩, -⟩ := seven Q3.out
  go_wp2_with fail
  refine (rwanted_0 ⟨ty, nm, 0, least, most, unit, 0⟩ K 0 d rfl _).mono ?_
  rintro e w4 ⟨rfl, hb⟩
  have B4 := hid (cthen B3.out hb)
  have K4 := hid (blk_below K3.out hb)
  have Q4 := hid (blk_below Q3.out hb)
  obtain ⟨⟨x0, x1, x2, x3⟩, -⟩ := four K4.out
  clear hb K3 Q3
  go_wp2_with fail
  refine (HCN.out _ B4.out).mono ?_
  rintro e w5 ⟨rfl, hb⟩
  have B5 := hid (cthen B4.out hb)
  have K5 := hid (blk_below K4.out hb)
  have Q5 := hid (blk_below Q4.out hb)
  obtain ⟨⟨x0, x1, x2, x3⟩, -⟩ := four K5.out
  clear hb K4 Q4
  go_wp2_with fail
  refine (HOD.out _ B5.out).mono ?_
  rintro e w6 ⟨rfl, hb⟩
  have B6 := hid (cthen B5.out hb)
  have K6 := hid (blk_below K5.out hb)
  have Q6 := hid (blk_below Q5.out hb)
  obtain ⟨⟨x0, x1, x2, x3⟩, -⟩ := four K6.out
  clear hb K5 Q5
  obtain ⟨⟨y0, y1, y2, y3, y4, y5, y6⟩, -⟩ := seven Q6.out
  go_wp2_with fail
  go_quiet ((first | (go_at_call 76; exact Calls.quiet_of_same (rclass_0 _)) | (go_at_call 75; exact Calls.quiet_of_same (rall_0 _ _ _ _))))
  have hsz := fun W => rsize_0 t f A K n c d W (by omega)
  have HSZ := hid hsz
  unfold ckV at HSZ
  clear hsz
  have hn4 : (4 : Int) + (n : Int) ≤ 65535 := by omega
  go_wp2_with fail
  refine (HSZ.out _).mono ?_
  rintro e w7 ⟨rfl, hb⟩
  have B7 := hid (cthen (below_drew B6.out _) hb)
  clear hb
  go_wp2_with fail
  go_ret
  exact ⟨rfl, B7.out⟩
end
end Go.Proofs.YtcjcgehhmjnlcaaGreatDoor
