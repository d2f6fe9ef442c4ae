/- 'chunk.kids' at any form; 'chunk.value' at data of the second kind. -/
import Derived.Test.YtmfmomfhiieilaaGreatDoorBkd
set_option linter.unusedVariables false
set_option linter.unusedSimpArgs false
namespace Go.Proofs.YtmfmomfhiieilaaGreatDoor
open Go.RowKit Go.Shelf Go.Proofs.YtmfmomfhiieilaaGreatDoor.It Go.Proofs.YtmfmomfhiieilaaGreatDoorW.PrintWords Go.Proofs.YtmfmomfhiieilaaGreatDoorW.PrintLast Go.Proofs.YtmfmomfhiieilaaGreatDoorW.PrintMore
namespace Bn
open PBundleSorted
set_option maxRecDepth 100000 in
set_option maxHeartbeats 1000000 in
theorem kf_any (p q b0 off m d L bb : Nat) (R : Bool) (hd : Int) (x0 x1 x2 : Value) (W : World) (hm : 0 < m) (hp : W.heap[p]? = some (.cells #[.int .i64 m] 3 (0, 0))) (hq : W.heap[q]? = some (.cells #[x0, x1, x2, .slice (some ⟨b0, off, none⟩) m d] 42 (0, 0)))
    (hc : W.cell? ⟨b0, off, none⟩ = some (.int .u16 hd)) (hcont : ∀ W', Below W.heap.size W W' → Calls Tryz.prog 83 #[.slice (some ⟨bb, 0, none⟩) L L, .int .u16 hd] W' (IsPost (.bool R) W')) :
    Calls Tryz.prog 82 #[.slice (some ⟨bb, 0, none⟩) L L, .pointer (some ⟨p, 0, none⟩), .pointer (some ⟨q, 0, none⟩)] W (IsPost (.bool R) W) := by
  obtain ⟨q0, -⟩ := one hp
  obtain ⟨⟨-, -, -, q4⟩, -⟩ := four hq
  have hm0 : ((m : Int) == 0) = false := by simp; omega
  have hm1 : (0 : Int) < (m : Int) := by omega
  have HC := hid hcont
  clear hcont hp hq hm
  cases R
  all_goals
    go_enter Tryz.func82, Tryz.ntmps82
    go_wp2_with fail
    refine (HC.out _ (by first | exact Below.refl _ _ | exact below_drew (Below.refl _ _) _)).mono ?_
    rintro e w1 ⟨rfl, hb⟩
    have B := hid hb
    clear hb
    go_wp2_with fail
    go_ret
    exact ⟨rfl, B.out⟩
def kErr (b : Bool) : Option (Int × Option Int) := if b = true then none else some (7, some 0)
/-- Whether the nodes inside are as a chunk's form wants them. -/
def wantK (kd : Int) (xs : List Nd) : Bool := decide ((iR kd).2.1 ≤ (xs.length : Int)) && decide ((xs.length : Int) ≤ (iR kd).2.2) && (kd != 1 || hd0 xs == 1) && (kd != 6 || hd0 xs == 5 || hd0 xs == 6)
set_option maxRecDepth 100000 in
set_option maxHeartbeats 2000000 in
theorem ckids_few (t f ty mask lo hi un kd C L H : Int) (nm : ByteArray) (A K : Option Addr) (n c m d : Nat) (w : World) (hg : GTab w) (hk0 : 0 ≤ kd) (hk6 : kd ≤ 6) (hin : iR kd = (C, L, H)) (h : (m : Int) < L) :
    Calls Tryz.prog 49 #[.agg #[.int .u8 t, .int .u8 f, .slice A n c, .slice K m d], .agg #[.int .u8 ty, .string nm, .int .u8 mask, .int .i64 lo, .int .i64 hi, .int .i64 un, .int .i64 kd]] w (ErrPost (some (7, some 0)) w) := by
  have B0 := hid (below_alloc (below_alloc (Below.refl w.heap.size w) (.cells #[.int .u8 t, .int .u8 f, .slice A n c, .slice K m d] 42)) (.cells #[.int .u8 ty, .string nm, .int .u8 mask, .int .i64 lo, .int .i64 hi, .int .i64 un, .int .i64 kd] 79))
  have C0 := hid (blk_alloc (x := .cells #[.int .u8 ty, .string nm, .int .u8 mask, .int .i64 lo, .int .i64 hi, .int .i64 un, .int .i64 kd] 79) (blk_new w (.cells #[.int .u8 t, .int .u8 f, .slice A n c, .slice K m d] 42)))
  have F0 := hid (by have h := blk_new (w.alloc (.cells #[.int .u8 t, .int .u8 f, .slice A n c, .slice K m d] 42)) (.cells #[.int .u8 ty, .string nm, .int .u8 mask, .int .i64 lo, .int .i64 hi, .int .i64 un, .int .i64 kd] 79); rw [World.size_alloc] at h; exact h)
  have hI := kinside_any kd _ hk0 hk6 (hg.below B0.out)
  rw [hin] at hI
  clear hg hk0 hk6 hin
  obtain ⟨⟨-, -, -, -, -, -, d6⟩, -⟩ := seven F0.out
  go_enter Tryz.func49, Tryz.ntmps49
  go_wp2_with fail
  refine hI.mono ?_
  rintro e w1 ⟨rfl, hb⟩
  have B1 := hid (cthen B0.out hb)
  have C1 := hid (blk_below C0.out hb)
  have F1 := hid (blk_below F0.out hb)
  have hs1 : w.heap.size + 1 < w1.heap.size := (Array.getElem?_eq_some_iff.1 F1.out).1
  have hs0 : w.heap.size < w1.heap.size := by omega
  clear hb hI C0 F0 d6 B0
  obtain ⟨⟨-, -, -, c3⟩, -⟩ := four C1.out
  obtain ⟨⟨-, -, -, -, -, -, d6⟩, -⟩ := seven F1.out
  go_wp2_with fail
  refine (new_any _ _ _).mono ?_
  rintro e w' ⟨rfl, rfl⟩
  go_wp2_with fail
  go_ret
  exact ⟨rfl, below_alloc B1.out _⟩
set_option maxRecDepth 100000 in
set_option maxHeartbeats 2000000 in
theorem ckids_many (t f ty mask lo hi un kd C L H : Int) (nm : ByteArray) (A K : Option Addr) (n c m d : Nat) (w : World) (hg : GTab w) (hk0 : 0 ≤ kd) (hk6 : kd ≤ 6) (hin : iR kd = (C, L, H)) (h : ¬ (m : Int) < L) (h2 : (m : Int) > H) :
    Calls Tryz.prog 49 #[.agg #[.int .u8 t, .int .u8 f, .slice A n c, .slice K m d], .agg #[.int .u8 ty, .string nm, .int .u8 mask, .int .i64 lo, .int .i64 hi, .int .i64 un, .int .i64 kd]] w (ErrPost (some (7, some 0)) w) := by
  have B0 := hid (below_alloc (below_alloc (Below.refl w.heap.size w) (.cells #[.int .u8 t, .int .u8 f, .slice A n c, .slice K m d] 42)) (.cells #[.int .u8 ty, .string nm, .int .u8 mask, .int .i64 lo, .int .i64 hi, .int .i64 un, .int .i64 kd] 79))
  have C0 := hid (blk_alloc (x := .cells #[.int .u8 ty, .string nm, .int .u8 mask, .int .i64 lo, .int .i64 hi, .int .i64 un, .int .i64 kd] 79) (blk_new w (.cells #[.int .u8 t, .int .u8 f, .slice A n c, .slice K m d] 42)))
  have F0 := hid (by have h := blk_new (w.alloc (.cells #[.int .u8 t, .int .u8 f, .slice A n c, .slice K m d] 42)) (.cells #[.int .u8 ty, .string nm, .int .u8 mask, .int .i64 lo, .int .i64 hi, .int .i64 un, .int .i64 kd] 79); rw [World.size_alloc] at h; exact h)
  have hI := kinside_any kd _ hk0 hk6 (hg.below B0.out)
  rw [hin] at hI
  clear hg hk0 hk6 hin
  obtain ⟨⟨-, -, -, -, -, -, d6⟩, -⟩ := seven F0.out
  go_enter Tryz.func49, Tryz.ntmps49
  go_wp2_with fail
  refine hI.mono ?_
  rintro e w1 ⟨rfl, hb⟩
  have B1 := hid (cthen B0.out hb)
  have C1 := hid (blk_below C0.out hb)
  have F1 := hid (blk_below F0.out hb)
  have hs1 : w.heap.size + 1 < w1.heap.size := (Array.getElem?_eq_some_iff.1 F1.out).1
  have hs0 : w.heap.size < w1.heap.size := by omega
  clear hb hI C0 F0 d6 B0
  obtain ⟨⟨-, -, -, c3⟩, -⟩ := four C1.out
  obtain ⟨⟨-, -, -, -, -, -, d6⟩, -⟩ := seven F1.out
  go_wp2_with fail
  refine (new_any _ _ _).mono ?_
  rintro e w' ⟨rfl, rfl⟩
  go_wp2_with fail
  go_ret
  exact ⟨rfl, below_alloc B1.out _⟩
set_option maxRecDepth 100000 in
set_option maxHeartbeats 2000000 in
theorem ckids_plain (t f ty mask lo hi un kd C L H : Int) (nm : ByteArray) (A K : Option Addr) (n c m d : Nat) (w : World) (hg : GTab w) (hk0 : 0 ≤ kd) (hk6 : kd ≤ 6) (hin : iR kd = (C, L, H)) (h : ¬ (m : Int) < L) (h2 : ¬ (m : Int) > H) (h3 : (kd == 1) = false) (h4 : (kd == 6) = false) :
    Calls Tryz.prog 49 #[.agg #[.int .u8 t, .int .u8 f, .slice A n c, .slice K m d], .agg #[.int .u8 ty, .string nm, .int .u8 mask, .int .i64 lo, .int .i64 hi, .int .i64 un, .int .i64 kd]] w (ErrPost none w) := by
  have B0 := hid (below_alloc (below_alloc (Below.refl w.heap.size w) (.cells #[.int .u8 t, .int .u8 f, .slice A n c, .slice K m d] 42)) (.cells #[.int .u8 ty, .string nm, .int .u8 mask, .int .i64 lo, .int .i64 hi, .int .i64 un, .int .i64 kd] 79))
  have C0 := hid (blk_alloc (x := .cells #[.int .u8 ty, .string nm, .int .u8 mask, .int .i64 lo, .int .i64 hi, .int .i64 un, .int .i64 kd] 79) (blk_new w (.cells #[.int .u8 t, .int .u8 f, .slice A n c, .slice K m d] 42)))
  have F0 := hid (by have h := blk_new (w.alloc (.cells #[.int .u8 t, .int .u8 f, .slice A n c, .slice K m d] 42)) (.cells #[.int .u8 ty, .string nm, .int .u8 mask, .int .i64 lo, .int .i64 hi, .int .i64 un, .int .i64 kd] 79); rw [World.size_alloc] at h; exact h)
  have hI := kinside_any kd _ hk0 hk6 (hg.below B0.out)
  rw [hin] at hI
  clear hg hk0 hk6 hin
  obtain ⟨⟨-, -, -, -, -, -, d6⟩, -⟩ := seven F0.out
  go_enter Tryz.func49, Tryz.ntmps49
  go_wp2_with fail
  refine hI.mono ?_
  rintro e w1 ⟨rfl, hb⟩
  have B1 := hid (cthen B0.out hb)
  have C1 := hid (blk_below C0.out hb)
  have F1 := hid (blk_below F0.out hb)
  have hs1 : w.heap.size + 1 < w1.heap.size := (Array.getElem?_eq_some_iff.1 F1.out).1
  have hs0 : w.heap.size < w1.heap.size := by omega
  clear hb hI C0 F0 d6 B0
  obtain ⟨⟨-, -, -, c3⟩, -⟩ := four C1.out
  obtain ⟨⟨-, -, -, -, -, -, d6⟩, -⟩ := seven F1.out
  go_wp2_with fail
  go_ret
  exact ⟨rfl, below_alloc B1.out _⟩
set_option maxRecDepth 100000 in
set_option maxHeartbeats 2000000 in
theorem ckids_info (t f ty mask lo hi un kd C L H : Int) (nm : ByteArray) (A K : Option Addr) (n c m d : Nat) (w : World) (hg : GTab w) (hk0 : 0 ≤ kd) (hk6 : kd ≤ 6) (hin : iR kd = (C, L, H)) (b0 off : Nat) (hd : Int) (hA : K = some ⟨b0, off, none⟩) (hc : w.cell? ⟨b0, off, none⟩ = some (.int .u16 hd)) (hm : 0 < m) (h : ¬ (m : Int) < L) (h2 : ¬ (m : Int) > H) (hkv : kd = 1) (hres : (hd == 1) = true) :
    Calls Tryz.prog 49 #[.agg #[.int .u8 t, .int .u8 f, .slice A n c, .slice K m d], .agg #[.int .u8 ty, .string nm, .int .u8 mask, .int .i64 lo, .int .i64 hi, .int .i64 un, .int .i64 kd]] w (ErrPost none w) := by
  have B0 := hid (below_alloc (below_alloc (Below.refl w.heap.size w) (.cells #[.int .u8 t, .int .u8 f, .slice A n c, .slice K m d] 42)) (.cells #[.int .u8 ty, .string nm, .int .u8 mask, .int .i64 lo, .int .i64 hi, .int .i64 un, .int .i64 kd] 79))
  have C0 := hid (blk_alloc (x := .cells #[.int .u8 ty, .string nm, .int .u8 mask, .int .i64 lo, .int .i64 hi, .int .i64 un, .int .i64 kd] 79) (blk_new w (.cells #[.int .u8 t, .int .u8 f, .slice A n c, .slice K m d] 42)))
  have F0 := hid (by have h := blk_new (w.alloc (.cells #[.int .u8 t, .int .u8 f, .slice A n c, .slice K m d] 42)) (.cells #[.int .u8 ty, .string nm, .int .u8 mask, .int .i64 lo, .int .i64 hi, .int .i64 un, .int .i64 kd] 79); rw [World.size_alloc] at h; exact h)
  have hI := kinside_any kd _ hk0 hk6 (hg.below B0.out)
  rw [hin] at hI
  clear hg hk0 hk6 hin
  subst hA
  subst hkv
  have HC := hid hc
  have HM := hid hm
  have HRES := hid hres
  clear hc hm hres
  obtain ⟨⟨-, -, -, -, -, -, d6⟩, -⟩ := seven F0.out
  go_enter Tryz.func49, Tryz.ntmps49
  go_wp2_with fail
  refine hI.mono ?_
  rintro e w1 ⟨rfl, hb⟩
  have B1 := hid (cthen B0.out hb)
  have C1 := hid (blk_below C0.out hb)
  have F1 := hid (blk_below F0.out hb)
  have hs1 : w.heap.size + 1 < w1.heap.size := (Array.getElem?_eq_some_iff.1 F1.out).1
  have hs0 : w.heap.size < w1.heap.size := by omega
  clear hb hI C0 F0 d6 B0
  obtain ⟨⟨-, -, -, c3⟩, -⟩ := four C1.out
  obtain ⟨⟨-, -, -, -, -, -, d6⟩, -⟩ := seven F1.out
  obtain ⟨S2, hS2⟩ : ∃ S2, (w1.alloc (.cells #[.int .i64 m] 3)).alloc (.cells #[.int .u16 1] 22) = S2 := ⟨_, rfl⟩
  have hbS : Below w1.heap.size w1 S2 := by rw [← hS2]; exact below_alloc (below_alloc (Below.refl _ _) _) _
  have P2 := hid (show S2.heap[w1.heap.size]? = some (.cells #[.int .i64 m] 3 (0, 0)) by rw [← hS2]; exact blk_alloc (blk_new w1 _))
  have L2 := hid (show S2.heap[w1.heap.size + 1]? = some (.cells #[.int .u16 1] 22 (0, 0)) by rw [← hS2]; have h := blk_new (w1.alloc (.cells #[.int .i64 m] 3)) (.cells #[.int .u16 1] 22); rw [World.size_alloc] at h; exact h)
  have hcall := kf_any w1.heap.size w.heap.size b0 off m d 1 (w1.heap.size + 1) (hd == 1) hd (.int .u8 t) (.int .u8 f) (.slice A n c) S2 HM.out P2.out (blk_below C1.out hbS) (pw_cell_below (cthen B1.out hbS) HC.out) (fun W' hW' => by
    have hl := one (blk_below L2.out hW')
    exact cont16_one (w1.heap.size + 1) hd 1 W' hl.1)
  have B2 := hid (cthen B1.out hbS)
  have Q2 := hid (blk_below F1.out hbS)
  rw [HRES.out] at hcall
  have HS2 := hid hS2
  have HCL := hid hcall
  clear hbS P2 hS2 hcall
  go_wp2_with fail
  rw [HS2.out]
  refine HCL.out.mono ?_
  rintro e w3 ⟨rfl, hb⟩
  have B3 := hid (cthen B2.out hb)
  have F3 := hid (blk_below Q2.out hb)
  clear hb c3 d6 F1
  obtain ⟨⟨-, -, -, -, -, -, d6⟩, -⟩ := seven F3.out
  go_wp2_with fail
  go_ret
  exact ⟨rfl, B3.out⟩
set_option maxRecDepth 100000 in
set_option maxHeartbeats 2000000 in
theorem ckids_info_no (t f ty mask lo hi un kd C L H : Int) (nm : ByteArray) (A K : Option Addr) (n c m d : Nat) (w : World) (hg : GTab w) (hk0 : 0 ≤ kd) (hk6 : kd ≤ 6) (hin : iR kd = (C, L, H)) (b0 off : Nat) (hd : Int) (hA : K = some ⟨b0, off, none⟩) (hc : w.cell? ⟨b0, off, none⟩ = some (.int .u16 hd)) (hm : 0 < m) (h : ¬ (m : Int) < L) (h2 : ¬ (m : Int) > H) (hkv : kd = 1) (hres : (hd == 1) = false) :
    Calls Tryz.prog 49 #[.agg #[.int .u8 t, .int .u8 f, .slice A n c, .slice K m d], .agg #[.int .u8 ty, .string nm, .int .u8 mask, .int .i64 lo, .int .i64 hi, .int .i64 un, .int .i64 kd]] w (ErrPost (some (7, some 0)) w) := by
  have B0 := hid (below_alloc (below_alloc (Below.refl w.heap.size w) (.cells #[.int .u8 t, .int .u8 f, .slice A n c, .slice K m d] 42)) (.cells #[.int .u8 ty, .string nm, .int .u8 mask, .int .i64 lo, .int .i64 hi, .int .i64 un, .int .i64 kd] 79))
  have C0 := hid (blk_alloc (x := .cells #[.int .u8 ty, .string nm, .int .u8 mask, .int .i64 lo, .int .i64 hi, .int .i64 un, .int .i64 kd] 79) (blk_new w (.cells #[.int .u8 t, .int .u8 f, .slice A n c, .slice K m d] 42)))
  have F0 := hid (by have h := blk_new (w.alloc (.cells #[.int .u8 t, .int .u8 f, .slice A n c, .slice K m d] 42)) (.cells #[.int .u8 ty, .string nm, .int .u8 mask, .int .i64 lo, .int .i64 hi, .int .i64 un, .int .i64 kd] 79); rw [World.size_alloc] at h; exact h)
  have hI := kinside_any kd _ hk0 hk6 (hg.below B0.out)
  rw [hin] at hI
  clear hg hk0 hk6 hin
  subst hA
  subst hkv
  have HC := hid hc
  have HM := hid hm
  have HRES := hid hres
  clear hc hm hres
  obtain ⟨⟨-, -, -, -, -, -, d6⟩, -⟩ := seven F0.out
  go_enter Tryz.func49, Tryz.ntmps49
  go_wp2_with fail
  refine hI.mono ?_
  rintro e w1 ⟨rfl, hb⟩
  have B1 := hid (cthen B0.out hb)
  have C1 := hid (blk_below C0.out hb)
  have F1 := hid (blk_below F0.out hb)
  have hs1 : w.heap.size + 1 < w1.heap.size := (Array.getElem?_eq_some_iff.1 F1.out).1
  have hs0 : w.heap.size < w1.heap.size := by omega
  clear hb hI C0 F0 d6 B0
  obtain ⟨⟨-, -, -, c3⟩, -⟩ := four C1.out
  obtain ⟨⟨-, -, -, -, -, -, d6⟩, -⟩ := seven F1.out
  obtain ⟨S2, hS2⟩ : ∃ S2, (w1.alloc (.cells #[.int .i64 m] 3)).alloc (.cells #[.int .u16 1] 22) = S2 := ⟨_, rfl⟩
  have hbS : Below w1.heap.size w1 S2 := by rw [← hS2]; exact below_alloc (below_alloc (Below.refl _ _) _) _
  have P2 := hid (show S2.heap[w1.heap.size]? = some (.cells #[.int .i64 m] 3 (0, 0)) by rw [← hS2]; exact blk_alloc (blk_new w1 _))
  have L2 := hid (show S2.heap[w1.heap.size + 1]? = some (.cells #[.int .u16 1] 22 (0, 0)) by rw [← hS2]; have h := blk_new (w1.alloc (.cells #[.int .i64 m] 3)) (.cells #[.int .u16 1] 22); rw [World.size_alloc] at h; exact h)
  have hcall := kf_any w1.heap.size w.heap.size b0 off m d 1 (w1.heap.size + 1) (hd == 1) hd (.int .u8 t) (.int .u8 f) (.slice A n c) S2 HM.out P2.out (blk_below C1.out hbS) (pw_cell_below (cthen B1.out hbS) HC.out) (fun W' hW' => by
    have hl := one (blk_below L2.out hW')
    exact cont16_one (w1.heap.size + 1) hd 1 W' hl.1)
  have B2 := hid (cthen B1.out hbS)
  have Q2 := hid (blk_below F1.out hbS)
  rw [HRES.out] at hcall
  have HS2 := hid hS2
  have HCL := hid hcall
  clear hbS P2 hS2 hcall
  go_wp2_with fail
  rw [HS2.out]
  refine HCL.out.mono ?_
  rintro e w3 ⟨rfl, hb⟩
  have B3 := hid (cthen B2.out hb)
  have F3 := hid (blk_below Q2.out hb)
  clear hb c3 d6 F1
  obtain ⟨⟨-, -, -, -, -, -, d6⟩, -⟩ := seven F3.out
  go_wp2_with fail
  refine (new_any _ _ _).mono ?_
  rintro e w' ⟨rfl, rfl⟩
  go_wp2_with fail
  go_ret
  exact ⟨rfl, B3.out⟩
set_option maxRecDepth 100000 in
set_option maxHeartbeats 2000000 in
theorem ckids_change (t f ty mask lo hi un kd C L H : Int) (nm : ByteArray) (A K : Option Addr) (n c m d : Nat) (w : World) (hg : GTab w) (hk0 : 0 ≤ kd) (hk6 : kd ≤ 6) (hin : iR kd = (C, L, H)) (b0 off : Nat) (hd : Int) (hA : K = some ⟨b0, off, none⟩) (hc : w.cell? ⟨b0, off, none⟩ = some (.int .u16 hd)) (hm : 0 < m) (h : ¬ (m : Int) < L) (h2 : ¬ (m : Int) > H) (hkv : kd = 6) (hres : (hd == 5 || hd == 6) = true) :
    Calls Tryz.prog 49 #[.agg #[.int .u8 t, .int .u8 f, .slice A n c, .slice K m d], .agg #[.int .u8 ty, .string nm, .int .u8 mask, .int .i64 lo, .int .i64 hi, .int .i64 un, .int .i64 kd]] w (ErrPost none w) := by
  have B0 := hid (below_alloc (below_alloc (Below.refl w.heap.size w) (.cells #[.int .u8 t, .int .u8 f, .slice A n c, .slice K m d] 42)) (.cells #[.int .u8 ty, .string nm, .int .u8 mask, .int .i64 lo, .int .i64 hi, .int .i64 un, .int .i64 kd] 79))
  have C0 := hid (blk_alloc (x := .cells #[.int .u8 ty, .string nm, .int .u8 mask, .int .i64 lo, .int .i64 hi, .int .i64 un, .int .i64 kd] 79) (blk_new w (.cells #[.int .u8 t, .int .u8 f, .slice A n c, .slice K m d] 42)))
  have F0 := hid (by have h := blk_new (w.alloc (.cells #[.int .u8 t, .int .u8 f, .slice A n c, .slice K m d] 42)) (.cells #[.int .u8 ty, .string nm, .int .u8 mask, .int .i64 lo, .int .i64 hi, .int .i64 un, .int .i64 kd] 79); rw [World.size_alloc] at h; exact h)
  have hI := kinside_any kd _ hk0 hk6 (hg.below B0.out)
  rw [hin] at hI
  clear hg hk0 hk6 hin
  subst hA
  subst hkv
  have HC := hid hc
  have HM := hid hm
  have HRES := hid hres
  clear hc hm hres
  obtain ⟨⟨-, -, -, -, -, -, d6⟩, -⟩ := seven F0.out
  go_enter Tryz.func49, Tryz.ntmps49
  go_wp2_with fail
  refine hI.mono ?_
  rintro e w1 ⟨rfl, hb⟩
  have B1 := hid (cthen B0.out hb)
  have C1 := hid (blk_below C0.out hb)
  have F1 := hid (blk_below F0.out hb)
  have hs1 : w.heap.size + 1 < w1.heap.size := (Array.getElem?_eq_some_iff.1 F1.out).1
  have hs0 : w.heap.size < w1.heap.size := by omega
  clear hb hI C0 F0 d6 B0
  obtain ⟨⟨-, -, -, c3⟩, -⟩ := four C1.out
  obtain ⟨⟨-, -, -, -, -, -, d6⟩, -⟩ := seven F1.out
  obtain ⟨S2, hS2⟩ : ∃ S2, (w1.alloc (.cells #[.int .i64 m] 3)).alloc (.cells #[.int .u16 5, .int .u16 6] 22) = S2 := ⟨_, rfl⟩
  have hbS : Below w1.heap.size w1 S2 := by rw [← hS2]; exact below_alloc (below_alloc (Below.refl _ _) _) _
  have P2 := hid (show S2.heap[w1.heap.size]? = some (.cells #[.int .i64 m] 3 (0, 0)) by rw [← hS2]; exact blk_alloc (blk_new w1 _))
  have L2 := hid (show S2.heap[w1.heap.size + 1]? = some (.cells #[.int .u16 5, .int .u16 6] 22 (0, 0)) by rw [← hS2]; have h := blk_new (w1.alloc (.cells #[.int .i64 m] 3)) (.cells #[.int .u16 5, .int .u16 6] 22); rw [World.size_alloc] at h; exact h)
  have hcall := kf_any w1.heap.size w.heap.size b0 off m d 2 (w1.heap.size + 1) (hd == 5 || hd == 6) hd (.int .u8 t) (.int .u8 f) (.slice A n c) S2 HM.out P2.out (blk_below C1.out hbS) (pw_cell_below (cthen B1.out hbS) HC.out) (fun W' hW' => by
    obtain ⟨⟨l0, l1⟩, -⟩ := two (blk_below L2.out hW')
    exact cont16_two (w1.heap.size + 1) hd 5 6 W' l0 l1)
  have B2 := hid (cthen B1.out hbS)
  have Q2 := hid (blk_below F1.out hbS)
  rw [HRES.out] at hcall
  have HS2 := hid hS2
  have HCL := hid hcall
  clear hbS P2 hS2 hcall
  go_wp2_with fail
  rw [HS2.out]
  refine HCL.out.mono ?_
  rintro e w3 ⟨rfl, hb⟩
  have B3 := hid (cthen B2.out hb)
  have F3 := hid (blk_below Q2.out hb)
  clear hb c3 d6 F1
  obtain ⟨⟨-, -, -, -, -, -, d6⟩, -⟩ := seven F3.out
  go_wp2_with fail
  go_ret
  exact ⟨rfl, B3.out⟩
set_option maxRecDepth 100000 in
set_option maxHeartbeats 2000000 in
theorem ckids_change_no (t f ty mask lo hi un kd C L H : Int) (nm : ByteArray) (A K : Option Addr) (n c m d : Nat) (w : World) (hg : GTab w) (hk0 : 0 ≤ kd) (hk6 : kd ≤ 6) (hin : iR kd = (C, L, H)) (b0 off : Nat) (hd : Int) (hA : K = some ⟨b0, off, none⟩) (hc : w.cell? ⟨b0, off, none⟩ = some (.int .u16 hd)) (hm : 0 < m) (h : ¬ (m : Int) < L) (h2 : ¬ (m : Int) > H) (hkv : kd = 6) (hres : (hd == 5 || hd == 6) = false) :
    Calls Tryz.prog 49 #[.agg #[.int .u8 t, .int .u8 f, .slice A n c, .slice K m d], .agg #[.int .u8 ty, .string nm, .int .u8 mask, .int .i64 lo, .int .i64 hi, .int .i64 un, .int .i64 kd]] w (ErrPost (some (7, some 0)) w) := by
  have B0 := hid (below_alloc (below_alloc (Below.refl w.heap.size w) (.cells #[.int .u8 t, .int .u8 f, .slice A n c, .slice K m d] 42)) (.cells #[.int .u8 ty, .string nm, .int .u8 mask, .int .i64 lo, .int .i64 hi, .int .i64 un, .int .i64 kd] 79))
  have C0 := hid (blk_alloc (x := .cells #[.int .u8 ty, .string nm, .int .u8 mask, .int .i64 lo, .int .i64 hi, .int .i64 un, .int .i64 kd] 79) (blk_new w (.cells #[.int .u8 t, .int .u8 f, .slice A n c, .slice K m d] 42)))
  have F0 := hid (by have h := blk_new (w.alloc (.cells #[.int .u8 t, .int .u8 f, .slice A n c, .slice K m d] 42)) (.cells #[.int .u8 ty, .string nm, .int .u8 mask, .int .i64 lo, .int .i64 hi, .int .i64 un, .int .i64 kd] 79); rw [World.size_alloc] at h; exact h)
  have hI := kinside_any kd _ hk0 hk6 (hg.below B0.out)
  rw [hin] at hI
  clear hg hk0 hk6 hin
  subst hA
  subst hkv
  have HC := hid hc
  have HM := hid hm
  have HRES := hid hres
  clear hc hm hres
  obtain ⟨⟨-, -, -, -, -, -, d6⟩, -⟩ := seven F0.out
  go_enter Tryz.func49, Tryz.ntmps49
  go_wp2_with fail
  refine hI.mono ?_
  rintro e w1 ⟨rfl, hb⟩
  have B1 := hid (cthen B0.out hb)
  have C1 := hid (blk_below C0.out hb)
  have F1 := hid (blk_below F0.out hb)
  have hs1 : w.heap.size + 1 < w1.heap.size := (Array.getElem?_eq_some_iff.1 F1.out).1
  have hs0 : w.heap.size < w1.heap.size := by omega
  clear hb hI C0 F0 d6 B0
  obtain ⟨⟨-, -, -, c3⟩, -⟩ := four C1.out
  obtain ⟨⟨-, -, -, -, -, -, d6⟩, -⟩ := seven F1.out
  obtain ⟨S2, hS2⟩ : ∃ S2, (w1.alloc (.cells #[.int .i64 m] 3)).alloc (.cells #[.int .u16 5, .int .u16 6] 22) = S2 := ⟨_, rfl⟩
  have hbS : Below w1.heap.size w1 S2 := by rw [← hS2]; exact below_alloc (below_alloc (Below.refl _ _) _) _
  have P2 := hid (show S2.heap[w1.heap.size]? = some (.cells #[.int .i64 m] 3 (0, 0)) by rw [← hS2]; exact blk_alloc (blk_new w1 _))
  have L2 := hid (show S2.heap[w1.heap.size + 1]? = some (.cells #[.int .u16 5, .int .u16 6] 22 (0, 0)) by rw [← hS2]; have h := blk_new (w1.alloc (.cells #[.int .i64 m] 3)) (.cells #[.int .u16 5, .int .u16 6] 22); rw [World.size_alloc] at h; exact h)
  have hcall := kf_any w1.heap.size w.heap.size b0 off m d 2 (w1.heap.size + 1) (hd == 5 || hd == 6) hd (.int .u8 t) (.int .u8 f) (.slice A n c) S2 HM.out P2.out (blk_below C1.out hbS) (pw_cell_below (cthen B1.out hbS) HC.out) (fun W' hW' => by
    obtain ⟨⟨l0, l1⟩, -⟩ := two (blk_below L2.out hW')
    exact cont16_two (w1.heap.size + 1) hd 5 6 W' l0 l1)
  have B2 := hid (cthen B1.out hbS)
  have Q2 := hid (blk_below F1.out hbS)
  rw [HRES.out] at hcall
  have HS2 := hid hS2
  have HCL := hid hcall
  clear hbS P2 hS2 hcall
  go_wp2_with fail
  rw [HS2.out]
  refine HCL.out.mono ?_
  rintro e w3 ⟨rfl, hb⟩
  have B3 := hid (cthen B2.out hb)
  have F3 := hid (blk_below Q2.out hb)
  clear hb c3 d6 F1
  obtain ⟨⟨-, -, -, -, -, -, d6⟩, -⟩ := seven F3.out
  go_wp2_with fail
  refine (new_any _ _ _).mono ?_
  rintro e w' ⟨rfl, rfl⟩
  go_wp2_with fail
  go_ret
  exact ⟨rfl, B3.out⟩
end Bn
end Go.Proofs.YtmfmomfhiieilaaGreatDoor
