/- 'wharfref08.All', 'wharfref12.Size', and the flags of the reference implementation. -/
import Derived.Test.YtmfmomfhiieilaaGreatDoorBrc
set_option linter.unusedVariables false
set_option linter.unusedSimpArgs false
namespace Go.Proofs.YtmfmomfhiieilaaGreatDoor
open Go.RowKit Go.Shelf Go.Proofs.YtmfmomfhiieilaaGreatDoor.It Go.Proofs.YtmfmomfhiieilaaGreatDoorW.PrintWords Go.Proofs.YtmfmomfhiieilaaGreatDoorW.PrintLast Go.Proofs.YtmfmomfhiieilaaGreatDoorW.PrintMore
namespace Bn
open PBundleSorted
set_option maxRecDepth 100000 in
set_option maxHeartbeats 2000000 in
theorem rall_any (C : Int) (K : Option Addr) (m d : Nat) (xs : List Nd) (w : World) (hm : xs.length = m) (hcn : cnts xs ≤ 1000) (hok : okL xs) (hK : Kd.C k87 w K m xs) :
    Calls Tryz.prog 62 #[.int .i64 C, .slice K m d] w (IsPost (.int .i64 (fstE (xs.map (pchk 4 C)))) w) := by
  have HM := hid hm
  have HCN := hid hcn
  have HOKL := hid hok
  have HK := hid hK
  have HB0 := hid (Below.refl w.heap.size w)
  obtain ⟨R, hR⟩ : ∃ R, fstE (xs.map (pchk 4 C)) = R := ⟨_, rfl⟩
  rw [hR]
  have HRR := hid hR
  clear hm hcn hok hK hR
  go_enter Tryz.func62, Tryz.ntmps62
  go_wp2_with fail
  go_loopw [5] (fun vi W => ∃ i : Nat, vi = .int .i64 i ∧ i ≤ m ∧ Hid (fstE ((xs.take i).map (pchk 4 C)) = 0) ∧ Hid (Below w.heap.size w W)) (fun vi _ => m - (intOf vi).toNat)
  case atStart => exact ⟨0, rfl, by omega, hid rfl, HB0⟩
  case round =>
    obtain ⟨i, rfl, hi, hF, hI⟩ := hrel
    by_cases hlt : i < m
    · have hil : i < xs.length := by have := HM.out; omega
      obtain ⟨b, off, E1, e1, E2, e2, rfl, k0, k1, k2, l1, g1, l2, g2⟩ := node_at (Kd.C_below HK.out hI.out) i hil
      have hoky := okL_at _ HOKL.out _ (List.getElem_mem hil)
      have hcy := cnts_at _ _ (List.getElem_mem hil)
      have hcn := HCN.out
      have hft := fst_take (pchk 4 C) xs i hil
      have hfs := fst_stop (pchk 4 C) xs i hil hF.out
      rw [if_pos hF.out] at hft
      obtain ⟨y, hy⟩ : ∃ y, xs[i] = y := ⟨_, rfl⟩
      rw [hy] at k0 k1 k2 l1 g1 l2 g2 hoky hcy hft hfs
      obtain ⟨n1, hn1⟩ : ∃ m, y.f1.length = m := ⟨_, rfl⟩
      obtain ⟨n2, hn2⟩ : ∃ m, y.f2.length = m := ⟨_, rfl⟩
      rw [hn1] at k1 l1
      rw [hn2] at k2 l2 g2
      have hml : m ≤ 1000 := by have := len_cnts xs; have := HM.out; omega
      have HWI := hid (show wrap64 ((i : Int) + 1) = ((i + 1 : Nat) : Int) by unfold wrap64; omega)
      have hcall := rcheck_any 4 (by omega) C y E1 E2 n1 e1 n2 e2 wr hn1 hn2 (by omega) hoky g1 l1 g2 l2
      have e1' : (5 : Int) - ((4 : Nat) : Int) = 1 := by omega
      rw [e1'] at hcall
      obtain ⟨r, hr⟩ : ∃ r, pchk 4 C y = r := ⟨_, rfl⟩
      rw [hr] at hcall hft hfs
      have HFT := hid hft
      have HFS := hid hfs
      clear hy hn1 hn2 hml hoky hcy hcn hft hfs l1 l2 g1 g2 hr hil e1'
      go_wp2_with fail
      refine hcall.mono ?_
      rintro e w9 ⟨rfl, hb⟩
      have B9 := hid (cthen hI.out hb)
      clear hb hcall k0 k1 k2
      by_cases hr0 : r = 0
      · subst hr0
        go_wp2_with fail
        exact ⟨⟨i + 1, by rw [HWI.out], hlt, hid HFT.out, hid B9.out⟩, by rw [HWI.out]; simp only [intOf, Int.toNat_natCast]; omega⟩
      · have hrb : (r != 0) = true := by simpa using hr0
        have HP := hid (HFS.out hr0)
        clear hr0
        go_wp2_with fail
        go_ret
        exact ⟨by rw [← HRR.out, HP.out]; rfl, B9.out⟩
    · obtain rfl : i = m := by omega
      have hall := hF.out
      rw [← HM.out, List.take_length] at hall
      have HZ := hid (show R = 0 by rw [← HRR.out]; exact hall)
      clear hall
      go_wp2_with fail
      go_ret
      exact ⟨by rw [HZ.out]; rfl, hI.out⟩
theorem rsize12_any (t f : Int) (A K : Option Addr) (n c m d : Nat) (D : List Int) (xs : List Nd) (w : World) (hn : D.length = n) (hm : xs.length = m) (hC : BC w A D) (hc : n ≤ c) (hK : Kd.C k87 w K m xs) (hd : m ≤ d) (hcn : cnts xs ≤ 1000) (hl : n ≤ 1000000) : Calls Tryz.prog 32 #[ckV t f A n c K m d] w (IsPost (.int .i64 ((4 + n + szs (nszs xs) : Nat) : Int)) w) := by
  subst hn
  subst hm
  have hbd := nszs_bd xs
  have hev : Ev (fun k => wharfref12_Size.f k t f D xs) ((4 + D.length + szs (nszs xs) : Nat) : Int) := by
    unfold wharfref12_Size.f
    refine Ev.bind (f := fun k t213 => some (wrap64 ((wrap64 (4 + (D.length : Int))) + t213))) (rsize_ev 1000 xs hcn (Nat.le_refl _)) ?_
    rw [wrap_sum (x := D.length) (y := szs (nszs xs)) (N := 4 + D.length + szs (nszs xs)) (by omega) (by omega)]
    exact Ev.now _
  obtain ⟨k, hk⟩ := hev.rounds
  exact (wharfref12_Size.calls k t f A c D K d xs _ w hC hc hK hd hk).mono (fun e w' h => h)
/-- The flags of a chunk. -/
theorem flags_iff (f m : Int) (hf0 : 0 ≤ f) (hf1 : f ≤ 255) (hm : m = 0 ∨ m = 1 ∨ m = 15) : (bits .and .i64 f (255 - m) != 0) = (flagsE f m).isSome := by
  have key : ∀ x : Fin 256, ∀ m : Fin 3, (bits .and .i64 (x.val : Int) (255 - ([0, 1, 15] : List Int).getD m.val 0) != 0) = (flagsE (x.val : Int) (([0, 1, 15] : List Int).getD m.val 0)).isSome := by decide +kernel
  obtain ⟨x, rfl⟩ := Int.eq_ofNat_of_zero_le hf0
  rcases hm with rfl | rfl | rfl
  · exact key ⟨x, by omega⟩ 0
  · exact key ⟨x, by omega⟩ 1
  · exact key ⟨x, by omega⟩ 2
theorem kRows_mask : ∀ r ∈ kRows, r.mask = 0 ∨ r.mask = 1 ∨ r.mask = 15 := by decide
theorem kOf_mask (t : Int) : (kOf t).mask = 0 ∨ (kOf t).mask = 1 ∨ (kOf t).mask = 15 := by
  unfold kOf
  cases hf : kRows.find? (kIs t) with
  | none => exact Or.inl rfl
  | some r => exact kRows_mask r (List.mem_of_find?_eq_some hf)
end Bn
end Go.Proofs.YtmfmomfhiieilaaGreatDoor
