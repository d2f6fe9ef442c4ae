/- 'chunk.kids' and 'chunk.value' at any right form; the error of a chunk in plain words. -/
import Derived.Test.YtmfmomfhiieilaaGreatDoorBkk
set_option linter.unusedVariables false
set_option linter.unusedSimpArgs false
namespace Go.Proofs.YtmfmomfhiieilaaGreatDoor
open Go.RowKit Go.Shelf Go.Proofs.YtmfmomfhiieilaaGreatDoor.It Go.Proofs.YtmfmomfhiieilaaGreatDoorW.PrintWords Go.Proofs.YtmfmomfhiieilaaGreatDoorW.PrintLast Go.Proofs.YtmfmomfhiieilaaGreatDoorW.PrintMore
namespace Bn
open PBundleSorted
theorem ckids_any (t f : Int) (r : KR) (hr : r.ok) (A K : Option Addr) (n c m d : Nat) (xs : List Nd) (w : World) (hg : GTab w) (hm : xs.length = m) (hC : Kd.C k87 w K m xs) :
    Calls Tryz.prog 49 #[ckV t f A n c K m d, r.val] w (ErrPost (kErr (wantK r.kids xs)) w) := by
  obtain ⟨ty, nm, mask, lo, hi, un, kd⟩ := r
  unfold KR.ok at hr
  simp only at hr
  obtain ⟨-, -, -, -, hk0, hk6, -⟩ := hr
  unfold ckV KR.val wantK kErr
  simp only
  obtain ⟨C, L, H, hin⟩ : ∃ C L H, iR kd = (C, L, H) := ⟨_, _, _, rfl⟩
  rw [hin, hm]
  simp only
  by_cases h1 : (m : Int) < L
  · rw [decide_eq_false (show ¬ L ≤ (m : Int) by omega)]
    exact ckids_few t f ty mask lo hi un kd C L H nm A K n c m d w hg hk0 hk6 hin h1
  · by_cases h2 : (m : Int) > H
    · rw [decide_eq_true (show L ≤ (m : Int) by omega), decide_eq_false (show ¬ (m : Int) ≤ H by omega)]
      exact ckids_many t f ty mask lo hi un kd C L H nm A K n c m d w hg hk0 hk6 hin h1 h2
    · rw [decide_eq_true (show L ≤ (m : Int) by omega), decide_eq_true (show (m : Int) ≤ H by omega)]
      have hx : 0 < m → ∃ b off, K = some ⟨b, off, none⟩ ∧ w.cell? ⟨b, off, none⟩ = some (.int .u16 (hd0 xs)) := fun h0 => by
        have h0' : 0 < xs.length := by omega
        obtain ⟨b, off, B1, d1, B2, d2, rfl, k0, -⟩ := node_at hC 0 h0'
        rw [Nat.zero_mul, Nat.add_zero] at k0
        have hx : hd0 xs = (xs[0]).f0 := by
          unfold hd0
          cases xs with
          | nil => simp at h0'
          | cons y l => rfl
        exact ⟨b, off, rfl, by rw [hx]; exact k0⟩
      by_cases k1 : kd = 1
      · have hL : L = 1 := by
          subst k1
          have e : iR 1 = (1, 1, 1) := rfl
          rw [e] at hin
          injection hin with _ hin
          injection hin with hin _
          exact hin.symm
        obtain ⟨b, off, hA, hc⟩ := hx (by omega)
        cases hres : (hd0 xs == 1)
        · have := ckids_info_no t f ty mask lo hi un kd C L H nm A K n c m d w hg hk0 hk6 hin b off _ hA hc (by omega) h1 h2 k1 hres
          subst k1
          simpa using this
        · have := ckids_info t f ty mask lo hi un kd C L H nm A K n c m d w hg hk0 hk6 hin b off _ hA hc (by omega) h1 h2 k1 hres
          subst k1
          simpa using this
      · have k1' : (kd == 1) = false := by simpa using k1
        have k1n : (kd != 1) = true := by simpa using k1
        by_cases k6 : kd = 6
        · have hL : L = 2 := by
            subst k6
            have e : iR 6 = (1, 2, 16384) := rfl
            rw [e] at hin
            injection hin with _ hin
            injection hin with hin _
            exact hin.symm
          obtain ⟨b, off, hA, hc⟩ := hx (by omega)
          cases hres : (hd0 xs == 5 || hd0 xs == 6)
          · have := ckids_change_no t f ty mask lo hi un kd C L H nm A K n c m d w hg hk0 hk6 hin b off _ hA hc (by omega) h1 h2 k6 hres
            subst k6
            rw [k1n, Bool.or_assoc, hres]
            simpa using this
          · have := ckids_change t f ty mask lo hi un kd C L H nm A K n c m d w hg hk0 hk6 hin b off _ hA hc (by omega) h1 h2 k6 hres
            subst k6
            rw [k1n, Bool.or_assoc, hres]
            simpa using this
        · have k6' : (kd == 6) = false := by simpa using k6
          have k6n : (kd != 6) = true := by simpa using k6
          rw [k1n, k6n]
          exact ckids_plain t f ty mask lo hi un kd C L H nm A K n c m d w hg hk0 hk6 hin h1 h2 k1' k6'
/-! ### data of the second kind -/
theorem or_zero_iff (a b : Int) (h0 : 0 ≤ a) (h1 : a ≤ 255) (h2 : 0 ≤ b) (h3 : b ≤ 255) : (bits .or .u8 a b != 0) = !(a == 0 && b == 0) := by
  have e := u8_or a b h0 (by omega) h2 (by omega)
  rw [e, Bool.eq_iff_iff]
  simp only [bne_iff_ne, ne_eq, Bool.not_eq_true', Bool.and_eq_false_imp, beq_iff_eq]
  constructor
  · intro h ha
    rw [beq_eq_false_iff_ne]
    intro hb
    subst ha
    subst hb
    exact h rfl
  · intro h hz
    have hz' : a.toNat ||| b.toNat = 0 := by omega
    rw [Nat.or_eq_zero_iff] at hz'
    have ha : a = 0 := by omega
    have := h ha
    rw [beq_eq_false_iff_ne] at this
    omega
def val64E (l : List Int) : Option (Int × Option Int) := if (l.getD 6 0 == 0 && l.getD 7 0 == 0) = true then none else some (11, some 10)
set_option maxRecDepth 100000 in
set_option maxHeartbeats 2000000 in
theorem value_64 (f : Int) (A K : Option Addr) (c m d : Nat) (l : List Int) (r : KR) (w : World) (hC : BC w A l) (hB : Byt l) (hc : l.length ≤ c) (hl : 17 ≤ l.length) (hl2 : l.length ≤ 1000000) :
    Calls Tryz.prog 51 #[ckV 64 f A l.length c K m d, r.val] w (ErrPost (val64E l) w) := by
  rcases ints_cells hC with rfl | ⟨b, off, rfl, hlt, hcell⟩
  · simp at hl
  have hby : ∀ i, i < l.length → 0 ≤ l.getD i 0 ∧ l.getD i 0 ≤ 255 := fun i hi => by
    rw [List.getD_eq_getElem?_getD, List.getElem?_eq_getElem hi]
    exact hB _ (List.getElem_mem hi)
  have h6 := hcell 6 (by omega)
  have h7 := hcell 7 (by omega)
  have b6 := hby 6 (by omega)
  have b7 := hby 7 (by omega)
  obtain ⟨x, hx⟩ : ∃ x, l.getD 6 0 = x := ⟨_, rfl⟩
  obtain ⟨y, hy⟩ : ∃ y, l.getD 7 0 = y := ⟨_, rfl⟩
  have hE : val64E l = if (x == 0 && y == 0) = true then none else some (11, some 10) := by unfold val64E; rw [hx, hy]
  rw [hE]
  rw [hx] at h6 b6
  rw [hy] at h7 b7
  have hor := or_zero_iff x y b6.1 b6.2 b7.1 b7.2
  obtain ⟨z, hz⟩ : ∃ z, (x == 0 && y == 0) = z := ⟨_, rfl⟩
  rw [hz] at hor ⊢
  obtain ⟨n, hn⟩ : ∃ n, l.length = n := ⟨_, rfl⟩
  rw [hn] at hl ⊢
  have i6 : (6 : Int) < (n : Int) := by omega
  have i7 : (7 : Int) < (n : Int) := by omega
  unfold ckV KR.val
  obtain ⟨S, hS⟩ : ∃ S, (w.alloc (.cells #[.int .u8 64, .int .u8 f, .slice (some ⟨b, off, none⟩) n c, .slice K m d] 42)).alloc (.cells #[.int .u8 r.ty, .string r.nm, .int .u8 r.mask, .int .i64 r.least, .int .i64 r.most, .int .i64 r.unit, .int .i64 r.kids] 79) = S := ⟨_, rfl⟩
  have HS := hid hS
  have hBS : Below w.heap.size w S := by rw [← hS]; exact below_alloc (below_alloc (Below.refl _ _) _) _
  have hCS : S.heap[w.heap.size]? = some (.cells #[.int .u8 64, .int .u8 f, .slice (some ⟨b, off, none⟩) n c, .slice K m d] 42 (0, 0)) := by rw [← hS]; exact blk_alloc (blk_new w _)
  obtain ⟨⟨-, -, c2, -⟩, -⟩ := four hCS
  replace h6 := pw_cell_below hBS h6
  replace h7 := pw_cell_below hBS h7
  have HB := hid hBS
  clear hS hBS hCS hcell hby hx hy hE hz hC hB hc hl hl2 hn hlt b6 b7
  cases z
  · have hor1 : (bits .or .u8 x y != 0) = true := hor
    clear hor
    go_enter Tryz.func51, Tryz.ntmps51
    go_upto_region 4 with fail
    rw [HS.out]
    have hS0 : Below S.heap.size S S.drew ∧ S.drew.cell? ⟨w.heap.size, 2, none⟩ = some (.slice (some ⟨b, off, none⟩) n c) ∧ S.drew.cell? ⟨b, off + 6, none⟩ = some (.int .u8 x) ∧ S.drew.cell? ⟨b, off + 7, none⟩ = some (.int .u8 y) := ⟨below_drew (Below.refl _ _) 1, c2, h6, h7⟩
    go_region_held3 (fun W => Below S.heap.size S W ∧ W.cell? ⟨w.heap.size, 2, none⟩ = some (.slice (some ⟨b, off, none⟩) n c) ∧ W.cell? ⟨b, off + 6, none⟩ = some (.int .u8 x) ∧ W.cell? ⟨b, off + 7, none⟩ = some (.int .u8 y))
      (first | with_reducible assumption)
      (fail)
    all_goals
      have HBW := hid (cthen HB.out (show Below S.heap.size S S.drew from below_drew (Below.refl _ _) 1))
      go_wp2_with fail
      refine (new_any _ _ _).mono ?_
      rintro e w' ⟨rfl, rfl⟩
      go_wp2_with fail
      go_ret
      exact ⟨rfl, HBW.out⟩
  · have hor1 : (bits .or .u8 x y != 0) = false := hor
    clear hor
    go_enter Tryz.func51, Tryz.ntmps51
    go_upto_region 4 with fail
    rw [HS.out]
    have hS0 : Below S.heap.size S S.drew ∧ S.drew.cell? ⟨w.heap.size, 2, none⟩ = some (.slice (some ⟨b, off, none⟩) n c) ∧ S.drew.cell? ⟨b, off + 6, none⟩ = some (.int .u8 x) ∧ S.drew.cell? ⟨b, off + 7, none⟩ = some (.int .u8 y) := ⟨below_drew (Below.refl _ _) 1, c2, h6, h7⟩
    go_region_held3 (fun W => Below S.heap.size S W ∧ W.cell? ⟨w.heap.size, 2, none⟩ = some (.slice (some ⟨b, off, none⟩) n c) ∧ W.cell? ⟨b, off + 6, none⟩ = some (.int .u8 x) ∧ W.cell? ⟨b, off + 7, none⟩ = some (.int .u8 y))
      (first | with_reducible assumption)
      (fail)
    all_goals
      have HBW := hid (cthen HB.out (show Below S.heap.size S S.drew from below_drew (Below.refl _ _) 1))
      go_wp2_with fail
      go_ret
      exact ⟨rfl, HBW.out⟩
end Bn
end Go.Proofs.YtmfmomfhiieilaaGreatDoor
