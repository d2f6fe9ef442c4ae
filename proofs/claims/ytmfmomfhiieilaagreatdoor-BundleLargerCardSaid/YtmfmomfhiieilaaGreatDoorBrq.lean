/- 'wharfref12.counted' and 'wharfref12.odd' against the package's checks. -/
import Derived.Test.YtmfmomfhiieilaaGreatDoorBrp
set_option linter.unusedVariables false
set_option linter.unusedSimpArgs false
namespace Go.Proofs.YtmfmomfhiieilaaGreatDoor
open Go.RowKit Go.Shelf Go.Proofs.YtmfmomfhiieilaaGreatDoor.It Go.Proofs.YtmfmomfhiieilaaGreatDoorW.PrintWords Go.Proofs.YtmfmomfhiieilaaGreatDoorW.PrintLast Go.Proofs.YtmfmomfhiieilaaGreatDoorW.PrintMore
namespace Bn
open PBundleSorted
theorem num_peek {D : List Int} (i : Nat) (h : i + 2 ≤ D.length) : numAt (fun t => D.getD t 0) i 2 = peekV 2 D i := by
  unfold peekV
  rw [if_pos (by omega)]
theorem fits_sk {n : Nat} (h : dataE (kR 3) n = none) : ∃ q, n = 12 + 4 * q ∧ n ≤ 65531 := by
  unfold dataE at h
  by_cases hf : fits (kR 3).least (kR 3).most (kR 3).unit n = true
  · have : (decide ((n : Int) ≥ 12) && decide ((n : Int) ≤ 65531) && (((n : Int) - 12) % 4 == 0)) = true := hf
    simp at this
    exact ⟨(n - 12) / 4, by omega, by omega⟩
  · rw [if_neg hf] at h; cases h
theorem rcnt_any (t : Int) (A : Option Addr) (c n : Nat) (D : List Int) (hk : kHas t = true) (hd : dataE (kOf t) D.length = none) (hn : D.length = n) (hB : Byt D) (hc : n ≤ c) (hl : n ≤ 1000000) :
    ∃ b : Bool, (b = true ↔ countE t D = none) ∧ ∀ w, BC w A D → Calls Tryz.prog 60 #[.int .u8 t, .slice A n c] w (IsPost (.bool b) w) := by
  subst hn
  by_cases h3 : t = 3
  · subst h3
    have e : kOf 3 = kR 3 := (kOf_at 3 (by decide) 3 rfl).1
    rw [e] at hd
    obtain ⟨q, hq, -⟩ := fits_sk hd
    have a8 := number_f hB 8 (by omega) hl
    have a10 := number_f hB 10 (by omega) hl
    rw [← peek_2 (by omega) rfl rfl] at a8 a10
    have p8 := peek_bd hB 2 8
    have p10 := peek_bd hB 2 10
    have p8' := p8.2 rfl
    have p10' := p10.2 rfl
    refine ⟨decide (4 * (peekV 2 D 8 + peekV 2 D 10) = (D.length : Int) - 12), ?_, fun w hC => (wharfref12_counted.calls 3 A c D _ w hC hc ?_).mono (fun e w' h => ⟨h.1, h.2.below⟩)⟩
    · rw [decide_eq_true_eq]
      unfold countE countB
      rw [if_pos rfl, num_peek 8 (by omega), num_peek 10 (by omega), show ((D.length : Int) - 12) / 4 = (q : Int) by omega]
      constructor
      · intro h
        have : peekV 2 D 8 + peekV 2 D 10 = (q : Int) := by omega
        rw [this]
        simp
      · intro h
        by_cases h2 : peekV 2 D 8 + peekV 2 D 10 = (q : Int)
        · omega
        · rw [if_pos (by simpa using h2)] at h; cases h
    · unfold wharfref12_counted.f
      rw [if_pos rfl]
      have e8 : wharfref12_number.f D 8 = some (peekV 2 D 8) := a8
      have e10 : wharfref12_number.f D 10 = some (peekV 2 D 10) := a10
      rw [e8, e10, Option.bind_some, Option.bind_some]
      have w1 : wrap64 (peekV 2 D 8 + peekV 2 D 10) = peekV 2 D 8 + peekV 2 D 10 := by unfold wrap64; omega
      rw [w1]
      clear w1
      have w2 : wrap64 (4 * (peekV 2 D 8 + peekV 2 D 10)) = 4 * (peekV 2 D 8 + peekV 2 D 10) := by unfold wrap64; omega
      have w3 : wrap64 ((D.length : Int) - 12) = (D.length : Int) - 12 := by unfold wrap64; omega
      rw [w2, w3]
      congr 1
  · refine ⟨true, ⟨fun _ => by unfold countE; rw [if_neg h3], fun _ => rfl⟩, fun w hC => rcounted_not t A c D w h3 hC hc⟩
theorem rodd_any (t : Int) (A : Option Addr) (c n : Nat) (D : List Int) (hk : kHas t = true) (hd : dataE (kOf t) D.length = none) (hn : D.length = n) (hB : Byt D) (hc : n ≤ c) (hl : n ≤ 1000000) :
    ∃ r : Int, (0 ≤ r ↔ valueE t D ≠ none) ∧ ∀ w, BC w A D → Calls Tryz.prog 61 #[.int .u8 t, .slice A n c] w (IsPost (.int .i64 r) w) := by
  subst hn
  by_cases h64 : t = 64
  · subst h64
    have e : kOf 64 = kR 16 := (kOf_at 16 (by decide) 64 rfl).1
    have hl2 := dataE_len hk hd
    rw [e] at hl2
    have h17 : (kR 16).least = 17 := rfl
    have a6 := number_f hB 6 (by omega) hl
    have b6 := byt_at hB 6 (by omega)
    have b7 := byt_at hB 7 (by omega)
    have e6 : wharfref12_number.f D 6 = some (D.getD 6 0 * 256 + D.getD 7 0) := a6
    by_cases hz : D.getD 6 0 * 256 + D.getD 7 0 = 0
    · refine ⟨-1, ⟨fun h => by omega, fun h => absurd ?_ h⟩, fun w hC => (wharfref12_odd.calls 5 64 A c D (-1) w hC hc ?_).mono (fun e w' h => ⟨h.1, h.2.below⟩)⟩
      · unfold valueE val64E
        rw [if_pos rfl, show D.getD 6 0 = 0 by omega, show D.getD 7 0 = 0 by omega]
        rfl
      · unfold wharfref12_odd.f
        rw [if_pos rfl, e6, Option.bind_some, hz]
        simp [wharfref12_odd.j0, wharfref12_odd.l0, wharfref12_odd.j2]
    · refine ⟨6, ⟨fun _ => ?_, fun _ => by decide⟩, fun w hC => (wharfref12_odd.calls 5 64 A c D 6 w hC hc ?_).mono (fun e w' h => ⟨h.1, h.2.below⟩)⟩
      · unfold valueE val64E
        rw [if_pos rfl]
        have : (D.getD 6 0 == 0 && D.getD 7 0 == 0) = false := by
          rw [Bool.eq_false_iff]
          intro h
          rw [Bool.and_eq_true, beq_iff_eq, beq_iff_eq] at h
          omega
        rw [this]
        simp
      · unfold wharfref12_odd.f
        rw [if_pos rfl, e6, Option.bind_some]
        have : ((D.getD 6 0 * 256 + D.getD 7 0) != 0) = true := by simpa using hz
        rw [this]
        simp [wharfref12_odd.j0]
  · by_cases h194 : t = 194
    · subst h194
      have e : kOf 194 = kR 22 := (kOf_at 22 (by decide) 194 rfl).1
      rw [e] at hd
      obtain ⟨q, hq, h31⟩ := fits_22 hd
      obtain ⟨r, hiff, hr⟩ := rodd_194 A c D q hB hq hl hc
      refine ⟨r, ?_, hr⟩
      rw [hiff]
      unfold valueE
      rw [if_neg (by decide), if_pos rfl]
      have hqe : (D.length - 4) / 8 = q := by omega
      unfold valE
      rw [hqe]
      split
      · rename_i h; exact ⟨fun _ => by simp, fun _ => h⟩
      · rename_i h; exact ⟨fun h2 => absurd h2 h, fun h2 => absurd rfl h2⟩
    · refine ⟨-1, ⟨fun h => by omega, fun h => absurd ?_ h⟩, fun w hC => rodd_not t A c D w h64 h194 hC hc⟩
      unfold valueE
      rw [if_neg h64, if_neg h194]
end Bn
end Go.Proofs.YtmfmomfhiieilaaGreatDoor
