/- Sizes of the reference implementation: 'wharfref08.Size', 'wharfref12.Size'. -/
import Derived.Test.YtmfmomfhiieilaaGreatDoorBns
import Derived.Test.YtmfmomfhiieilaaGreatDoorBqs
set_option linter.unusedVariables false
set_option linter.unusedSimpArgs false
namespace Go.Proofs.YtmfmomfhiieilaaGreatDoor
open Go.RowKit Go.Shelf Go.Proofs.YtmfmomfhiieilaaGreatDoor.It Go.Proofs.YtmfmomfhiieilaaGreatDoorW.PrintWords Go.Proofs.YtmfmomfhiieilaaGreatDoorW.PrintLast Go.Proofs.YtmfmomfhiieilaaGreatDoorW.PrintMore
namespace Bn
open PBundleSorted
theorem rgap_ev (n : Nat) (hn : n ≤ 1099511627776) : ∀ (d j : Nat), up n - n - j = d → n + j ≤ up n → Ev (fun k => wharfref03_Gap.l0 k (n : Int) (j : Int)) ((up n - n : Nat) : Int) := by
  intro d
  induction d with
  | zero =>
    intro j hd hj
    obtain rfl : j = up n - n := by omega
    refine Ev.step (f := fun _ => some ((up n - n : Nat) : Int)) (fun k => ?_) (Ev.now _)
    have hw : wrap64 ((n : Int) + ((up n - n : Nat) : Int)) = ((up n : Nat) : Int) := by have := up_lt n; have := up_ge n; unfold wrap64; omega
    have h4 : (((up n : Nat) : Int).tmod 4) = 0 := by rw [Int.tmod_eq_emod_of_nonneg (by omega)]; unfold up; omega
    simp only [wharfref03_Gap.l0]
    rw [hw, h4]
    simp [wrap64]
  | succ d ih =>
    intro j hd hj
    have hlt := up_lt n
    have hw : wrap64 ((n : Int) + (j : Int)) = ((n + j : Nat) : Int) := by unfold wrap64; omega
    have h4 : (((n + j : Nat) : Int).tmod 4) ≠ 0 := by rw [Int.tmod_eq_emod_of_nonneg (by omega)]; unfold up at hd hj; omega
    have hb : 0 ≤ (((n + j : Nat) : Int).tmod 4) ∧ (((n + j : Nat) : Int).tmod 4) < 4 := by rw [Int.tmod_eq_emod_of_nonneg (by omega)]; omega
    have hw1 : wrap64 ((j : Int) + 1) = ((j + 1 : Nat) : Int) := by unfold wrap64; omega
    refine Ev.step (fun k => ?_) (ih (j + 1) (by omega) (by omega))
    simp only [wharfref03_Gap.l0]
    rw [hw, hw1, if_neg h4]
theorem rgap_f (n : Nat) (hn : n ≤ 1099511627776) : Ev (fun k => wharfref03_Gap.f k (n : Int)) ((up n - n : Nat) : Int) := rgap_ev n hn _ 0 rfl (by have := up_ge n; omega)
theorem up_up (s n : Nat) : up (up s + n) = up s + up n := by unfold up; omega
theorem rd_nd (l : List Nd) (i : Nat) (h : i < l.length) : rd_T87 l (i : Int) = l[i] := by
  unfold rd_T87
  simp [List.getD_eq_getElem?_getD, List.getElem?_eq_getElem h]
theorem nszs_len (l : List Nd) : (nszs l).length = l.length := by rw [nszs_map, List.length_map]
/-- What the reference implementation has summed ahead of node i. -/
def part (l : List Nd) (i : Nat) : Nat := if i < l.length then up (szs ((nszs l).take i)) else szs (nszs l)
theorem part_le (l : List Nd) (i : Nat) (hc : cnts l ≤ 1000) : part l i ≤ 1010003 := by
  have h1 := szs_take (nszs l) i
  have h2 := nszs_bd l
  have h3 := up_lt (szs ((nszs l).take i))
  unfold part
  split <;> omega
theorem wrap_sum {x y N : Nat} (hN : N = 4 + (x + y)) (hb : N ≤ 1099511627776) : wrap64 ((wrap64 (4 + (x : Int))) + (y : Int)) = (N : Int) := by
  have e1 : wrap64 (4 + (x : Int)) = 4 + (x : Int) := by unfold wrap64; omega
  rw [e1]
  clear e1
  unfold wrap64
  omega
theorem rsize_ev : ∀ (m : Nat) (l : List Nd), cnts l ≤ m → m ≤ 1000 → Ev (fun k => wharfref08_Size.f k l) ((szs (nszs l) : Nat) : Int) := by
  intro m
  induction m using Nat.strongRecOn with
  | _ m ihm =>
  intro l hl hm
  have loop : ∀ (d i : Nat), l.length - i = d → i ≤ l.length → Ev (fun k => wharfref08_Size.l0 k l ((part l i : Nat) : Int) (i : Int)) ((szs (nszs l) : Nat) : Int) := by
    intro d
    induction d with
    | zero =>
      intro i hd hi
      have e : part l i = szs (nszs l) := by unfold part; rw [if_neg (by omega)]
      rw [e]
      refine Ev.step (f := fun _ => some ((szs (nszs l) : Nat) : Int)) (fun k => ?_) (Ev.now _)
      simp only [wharfref08_Size.l0]
      rw [if_neg (by omega)]
    | succ d ihd =>
      intro i hd hi
      have hil : i < l.length := by omega
      have hcx := cnts_at l l[i] (List.getElem_mem hil)
      have hce := cnt_eq l[i]
      have hkid := ihm (cnts (l[i]).f2) (by omega) (l[i]).f2 (Nat.le_refl _) (by omega)
      have hnx := ihd (i + 1) (by omega) (by omega)
      have hns := nsz_eq l[i]
      have hnl := nsz_le l[i]
      have hst := szs_step (nszs l) i (by rw [nszs_len]; exact hil)
      rw [nszs_getD l i hil] at hst
      have hpl := part_le l i (by omega)
      have hpe : part l i = up (szs ((nszs l).take i)) := by unfold part; rw [if_pos hil]
      obtain ⟨N, hN⟩ : ∃ N, nsz l[i] = N := ⟨_, rfl⟩
      obtain ⟨P, hP⟩ : ∃ P, part l i = P := ⟨_, rfl⟩
      rw [hP] at hpl hpe ⊢
      rw [hN] at hns hnl hst
      have hw := hid (wrap_sum (x := (l[i]).f1.length) (y := szs (nszs (l[i]).f2)) (N := N) (by omega) (by omega))
      have hw1 := hid (show wrap64 ((l.length : Int) - 1) = (l.length : Int) - 1 by have := len_cnts l; unfold wrap64; omega)
      have hw2 := hid (show wrap64 ((P : Int) + (N : Int)) = ((P + N : Nat) : Int) by unfold wrap64; omega)
      have hwi := hid (show wrap64 ((i : Int) + 1) = ((i + 1 : Nat) : Int) by have := len_cnts l; unfold wrap64; omega)
      by_cases hlast : i < l.length - 1
      · have hg := rgap_f N (by omega)
        have hul := up_lt N
        have hug := up_ge N
        have hpn : part l (i + 1) = P + up N := by
          unfold part
          rw [if_pos (by omega), hst, up_up, ← hpe]
        have hw3 := hid (show wrap64 (((P + N : Nat) : Int) + ((up N - N : Nat) : Int)) = ((P + up N : Nat) : Int) by unfold wrap64; omega)
        rw [hpn] at hnx
        refine Ev.step (fun k => ?_) (Ev.bind (f := fun k t => if (i : Int) < (l.length : Int) - 1 then ((wharfref03_Gap.f k (wrap64 ((wrap64 (4 + (((l[i]).f1).length : Int))) + t))).bind fun t211 => (wharfref08_Size.l0 k l (wrap64 ((wrap64 ((P : Int) + (wrap64 ((wrap64 (4 + (((l[i]).f1).length : Int))) + t)))) + t211)) ((i + 1 : Nat) : Int))) else (wharfref08_Size.l0 k l (wrap64 ((P : Int) + (wrap64 ((wrap64 (4 + (((l[i]).f1).length : Int))) + t)))) ((i + 1 : Nat) : Int))) hkid ?_)
        · simp only [wharfref08_Size.l0]
          rw [if_pos (by omega), if_pos (by omega), rd_nd l i hil, hw1.out, hwi.out]
        · rw [hw.out, hw2.out]
          refine Ev.congr (f := fun k => ((wharfref03_Gap.f k (N : Int)).bind fun t211 => (wharfref08_Size.l0 k l (wrap64 (((P + N : Nat) : Int) + t211)) ((i + 1 : Nat) : Int)))) (fun k => ?_) ?_
          · exact if_pos (by omega)
          · exact Ev.bind (f := fun k t211 => (wharfref08_Size.l0 k l (wrap64 (((P + N : Nat) : Int) + t211)) ((i + 1 : Nat) : Int))) hg (by rw [hw3.out]; exact hnx)
      · have hpn : part l (i + 1) = P + N := by
          unfold part
          have e : (nszs l).take (i + 1) = nszs l := List.take_of_length_le (by rw [nszs_len]; omega)
          rw [e] at hst
          rw [if_neg (by omega), hst, ← hpe]
        rw [hpn] at hnx
        refine Ev.step (fun k => ?_) (Ev.bind (f := fun k t => (wharfref08_Size.l0 k l (wrap64 ((P : Int) + (wrap64 ((wrap64 (4 + (((l[i]).f1).length : Int))) + t)))) ((i + 1 : Nat) : Int))) hkid ?_)
        · simp only [wharfref08_Size.l0]
          rw [if_pos (by omega), if_pos (by omega), rd_nd l i hil, hw1.out, hwi.out]
          congr 1
          funext t
          exact if_neg (by omega)
        · rw [hw.out, hw2.out]
          exact hnx
  have h0 := loop l.length 0 (by omega) (by omega)
  have e0 : part l 0 = 0 := by
    unfold part
    split
    · rw [List.take_zero]; rfl
    · have : l = [] := List.eq_nil_of_length_eq_zero (by omega)
      rw [this]
      rfl
  rw [e0] at h0
  refine Ev.step (fun k => ?_) h0
  simp only [wharfref08_Size.f]
  rfl
theorem rsize_any (l : List Nd) (hc : cnts l ≤ 1000) (A : Option Addr) (c n : Nat) (w : World) (hn : l.length = n) (hC : Kd.C k87 w A n l) (hcn : n ≤ c) : Calls Tryz.prog 64 #[.slice A n c] w (IsPost (.int .i64 ((szs (nszs l) : Nat) : Int)) w) := by
  subst hn
  obtain ⟨k, hk⟩ := (rsize_ev 1000 l hc (Nat.le_refl _)).rounds
  exact (wharfref08_Size.calls k A c l _ w hC hcn hk).mono (fun e w' h => h)
end Bn
end Go.Proofs.YtmfmomfhiieilaaGreatDoor
