/- Joined: Fst, Chp, Ckf. -/
import Derived.Test.YtmfmomfhiieilaaGreatDoorMc
/- 'chunk.first': the first error of some checks. -/
set_option linter.unusedVariables false
namespace Go.Proofs.YtmfmomfhiieilaaGreatDoor
open Go.RowKit Go.Proofs.YtmfmomfhiieilaaGreatDoor.It Go.Proofs.YtmfmomfhiieilaaGreatDoorW.PrintWords

/-- The checks by their numbers. -/
def chkF : Nat → Nat
  | 0 => 47
  | 1 => 48
  | 2 => 49
  | 3 => 50
  | _ => 51
/-- The first error of the first n. -/
def FirstIs (X : Nat → Option (Int × Option Int)) (n : Nat) (R : Option (Int × Option Int)) : Prop := (∃ i, i < n ∧ (∀ j, j < i → X j = none) ∧ X i ≠ none ∧ R = X i) ∨ ((∀ i, i < n → X i = none) ∧ R = none)
theorem FirstIs.at {X : Nat → Option (Int × Option Int)} {n i : Nat} {R : Option (Int × Option Int)} (h : FirstIs X n R) (hi : i < n) (hn : ∀ j, j < i → X j = none) (hx : X i ≠ none) : R = X i := by
  rcases h with ⟨k, hk, hkn, hkx, hR⟩ | ⟨hk, hR⟩
  · rcases Nat.lt_trichotomy k i with h | h | h
    · exact absurd (hn k h) hkx
    · rw [hR, h]
    · exact absurd (hkn i h) hx
  · exact absurd (hk i hi) hx
theorem FirstIs.end {X : Nat → Option (Int × Option Int)} {n : Nat} {R : Option (Int × Option Int)} (h : FirstIs X n R) (hn : ∀ j, j < n → X j = none) : R = none := by
  rcases h with ⟨k, hk, hkn, hkx, hR⟩ | ⟨hk, hR⟩
  · exact absurd (hn k hk) hkx
  · exact hR
def FstI (w : World) (t f : Int) (A K : Option Addr) (n c m d : Nat) (r : KR) (W : World) : Prop := Below w.heap.size w W ∧ W.heap[w.heap.size]? = some (.cells #[.int .u8 t, .int .u8 f, .slice A n c, .slice K m d] 42 (0, 0)) ∧ W.heap[w.heap.size + 1]? = some (.cells #[.int .u8 r.ty, .string r.nm, .int .u8 r.mask, .int .i64 r.least, .int .i64 r.most, .int .i64 r.unit, .int .i64 r.kids] 79 (0, 0))
theorem FstI.step {w : World} {t f : Int} {A K : Option Addr} {n c m d : Nat} {r : KR} {W W' : World} (h : FstI w t f A K n c m d r W) (hb : Below W.heap.size W W') : FstI w t f A K n c m d r W' := ⟨cthen h.1 hb, blk_below h.2.1 hb, blk_below h.2.2 hb⟩
theorem none_step {X : Nat → Option (Int × Option Int)} {i : Nat} (h : ∀ j, j < i → X j = none) (hx : X i = none) : ∀ j, j < i + 1 → X j = none := fun j hj => by
  by_cases e : j = i
  · rw [e]; exact hx
  · exact h j (by omega)
set_option maxRecDepth 100000 in
set_option maxHeartbeats 4000000 in
theorem first_any (t f : Int) (A K : Option Addr) (n c m d b k cap : Nat) (r : KR) (w : World) (X : Nat → Option (Int × Option Int)) (R : Option (Int × Option Int)) (hk : k ≤ 5) (hR : FirstIs X k R)
    (hc : ∀ i, i < k → w.cell? ⟨b, i, none⟩ = some (.func (.func (chkF i)) #[] #[]))
    (H : ∀ i, i < k → (∀ j, j < i → X j = none) → ∀ W, Below w.heap.size w W → Calls Tryz.prog (chkF i) #[ckV t f A n c K m d, r.val] W (ErrPost (X i) W)) :
    Calls Tryz.prog 46 #[ckV t f A n c K m d, r.val, .slice (some ⟨b, 0, none⟩) k cap] w (ErrPost R w) := by
  have HH := hid H
  have HR := hid hR
  have HC := hid hc
  clear H hR hc
  unfold ckV KR.val at *
  go_enter Tryz.func46, Tryz.ntmps46
  go_wp2_with fail
  go_loopw [12] (fun iv W => ∃ i : Nat, iv = .int .i64 i ∧ i ≤ k ∧ Hid (∀ j, j < i → X j = none) ∧ Hid (FstI w t f A K n c m d r W)) (fun iv _ => 5 - (intOf iv).toNat)
  case atStart =>
    refine ⟨0, rfl, by omega, hid (fun j hj => by omega), hid ⟨below_alloc (below_alloc (Below.refl _ _) _) _, blk_alloc (blk_new _ _), ?_⟩⟩
    have := blk_new (w.alloc (.cells #[.int .u8 t, .int .u8 f, .slice A n c, .slice K m d] 42)) (.cells #[.int .u8 r.ty, .string r.nm, .int .u8 r.mask, .int .i64 r.least, .int .i64 r.most, .int .i64 r.unit, .int .i64 r.kids] 79)
    rwa [World.size_alloc] at this
  case round =>
    obtain ⟨i, rfl, hi, hn, hW⟩ := hrel
    by_cases hlt : i < k
    · have hcall := HH.out i hlt hn.out wr hW.out.1
      have hcell : wr.cell? ⟨b, i, none⟩ = some (.func (.func (chkF i)) #[] #[]) := (hW.out.1.cell (p := ⟨b, i, none⟩) (World.block_lt_of_cell? w _ (HC.out i hlt))).trans (HC.out i hlt)
      obtain ⟨⟨c0, c1, c2, c3⟩, -⟩ := four hW.out.2.1
      obtain ⟨⟨d0, d1, d2, d3, d4, d5, d6⟩, -⟩ := seven hW.out.2.2
      have hat := hid (fun hx : X i ≠ none => HR.out.at hlt hn.out hx)
      obtain ⟨x, hx⟩ : ∃ x, x = X i := ⟨_, rfl⟩
      rw [← hx] at hcall
      have hxh := hid hx
      clear hx
      have h5 : i = 0 ∨ i = 1 ∨ i = 2 ∨ i = 3 ∨ i = 4 := by omega
      rcases h5 with rfl | rfl | rfl | rfl | rfl
      all_goals
        simp only [chkF] at hcell hcall
        have HCL := hid hcall
        clear hcall
        rcases x with _ | ⟨cx, _ | nx⟩
        · go_wp2_with fail
          refine HCL.out.mono ?_
          rintro e w2 ⟨rfl, hb⟩
          have HB2 := hid hb
          clear hb HCL
          unfold eV
          go_wp2_with fail
          go_roundw
          case rel =>
            have hI := hid (FstI.step hW.out HB2.out)
            have hN := hid (none_step hn.out hxh.out.symm)
            first | exact ⟨1, rfl, by omega, hN, hI⟩ | exact ⟨2, rfl, by omega, hN, hI⟩ | exact ⟨3, rfl, by omega, hN, hI⟩ | exact ⟨4, rfl, by omega, hN, hI⟩ | exact ⟨5, rfl, by omega, hN, hI⟩
          case measure => simp [intOf]
        · go_wp2_with fail
          refine HCL.out.mono ?_
          rintro e w2 ⟨rfl, hb⟩
          have HB2 := hid hb
          clear hb HCL
          unfold eV
          go_wp2_with fail
          go_ret
          refine ⟨?_, cthen hW.out.1 HB2.out⟩
          rw [hat.out (by rw [← hxh.out]; simp), ← hxh.out]
          rfl
        · go_wp2_with fail
          refine HCL.out.mono ?_
          rintro e w2 ⟨rfl, hb⟩
          have HB2 := hid hb
          clear hb HCL
          unfold eV
          go_wp2_with fail
          go_ret
          refine ⟨?_, cthen hW.out.1 HB2.out⟩
          rw [hat.out (by rw [← hxh.out]; simp), ← hxh.out]
          rfl
    · obtain rfl : i = k := by omega
      have hRn := hid (HR.out.end hn.out)
      go_wp2_with fail
      go_ret
      exact ⟨by rw [hRn.out]; rfl, hW.out.1⟩
end Go.Proofs.YtmfmomfhiieilaaGreatDoor
/- 'chunk.Check' of a chunk whose form has no nodes inside. -/
set_option linter.unusedVariables false
namespace Go.Proofs.YtmfmomfhiieilaaGreatDoor
open Go.RowKit Go.Proofs.YtmfmomfhiieilaaGreatDoor.It Go.Proofs.YtmfmomfhiieilaaGreatDoorW.PrintWords

end Go.Proofs.YtmfmomfhiieilaaGreatDoor
/- 'chunk.Check' at the two forms of forward-tsn. -/
set_option linter.unusedVariables false
namespace Go.Proofs.YtmfmomfhiieilaaGreatDoor
open Go.RowKit Go.Shelf Go.Proofs.YtmfmomfhiieilaaGreatDoor.It Go.Proofs.YtmfmomfhiieilaaGreatDoorW.PrintWords
def nthE (a b c d e : Option (Int × Option Int)) : Nat → Option (Int × Option Int)
  | 0 => a
  | 1 => b
  | 2 => c
  | 3 => d
  | _ => e
def orE (a b c d e : Option (Int × Option Int)) : Option (Int × Option Int) := a.or (b.or (c.or (d.or e)))
theorem first_or (a b c d e : Option (Int × Option Int)) : FirstIs (nthE a b c d e) 5 (orE a b c d e) := by
  unfold FirstIs orE
  rcases a with _ | a
  · rcases b with _ | b
    · rcases c with _ | c
      · rcases d with _ | d
        · rcases e with _ | e
          · right
            refine ⟨fun i hi => ?_, rfl⟩
            match i with
            | 0 => rfl
            | 1 => rfl
            | 2 => rfl
            | 3 => rfl
            | 4 => rfl
            | n + 5 => omega
          · left
            refine ⟨4, by omega, fun j hj => ?_, by simp [nthE], rfl⟩
            match j with
            | 0 => rfl
            | 1 => rfl
            | 2 => rfl
            | 3 => rfl
            | n + 4 => omega
        · left
          refine ⟨3, by omega, fun j hj => ?_, by simp [nthE], rfl⟩
          match j with
          | 0 => rfl
          | 1 => rfl
          | 2 => rfl
          | n + 3 => omega
      · left
        refine ⟨2, by omega, fun j hj => ?_, by simp [nthE], rfl⟩
        match j with
        | 0 => rfl
        | 1 => rfl
        | n + 2 => omega
    · left
      refine ⟨1, by omega, fun j hj => ?_, by simp [nthE], rfl⟩
      match j with
      | 0 => rfl
      | n + 1 => omega
  · left
    exact ⟨0, by omega, fun j hj => by omega, by simp [nthE], rfl⟩
/-- The first group with a wrong number. -/
def gb (l : List Int) (q : Nat) : Nat := ((List.range q).find? (fun j => decide (1 < grp l j))).getD q
theorem gb_le (l : List Int) (q : Nat) : gb l q ≤ q := by
  unfold gb
  cases h : (List.range q).find? (fun j => decide (1 < grp l j)) with
  | none => simp
  | some j => simp; exact Nat.le_of_lt (List.mem_range.1 (List.mem_of_find?_eq_some h))
theorem gb_lt (l : List Int) (q j : Nat) (hj : j < gb l q) : ¬ 1 < grp l j := by
  unfold gb at hj
  cases h : (List.range q).find? (fun j => decide (1 < grp l j)) with
  | none =>
    rw [h] at hj
    have := List.find?_eq_none.1 h j (List.mem_range.2 hj)
    simpa using this
  | some k =>
    rw [h] at hj
    simp only [Option.getD_some] at hj
    rw [List.find?_range_eq_some] at h
    have := h.2.2 j hj
    simpa using this
theorem gb_at (l : List Int) (q : Nat) (h : gb l q < q) : 1 < grp l (gb l q) := by
  unfold gb at h ⊢
  cases hf : (List.range q).find? (fun j => decide (1 < grp l j)) with
  | none => rw [hf] at h; simp at h
  | some k =>
    have := List.find?_some hf
    simpa using this
def valE (l : List Int) : Option (Int × Option Int) := if gb l ((l.length - 4) / 8) < (l.length - 4) / 8 then some (11, some ((10 + 8 * gb l ((l.length - 4) / 8) : Nat) : Int)) else none
theorem fits_22 {n : Nat} (h : dataE (kR 22) n = none) : ∃ q, n = 4 + 8 * q ∧ n ≤ 65531 := by
  unfold dataE at h
  by_cases hf : fits (kR 22).least (kR 22).most (kR 22).unit n = true
  · have : (decide ((n : Int) ≥ 4) && decide ((n : Int) ≤ 65531) && (((n : Int) - 4) % 8 == 0)) = true := hf
    simp at this
    exact ⟨(n - 4) / 8, by omega, by omega⟩
  · rw [if_neg hf] at h; cases h
end Go.Proofs.YtmfmomfhiieilaaGreatDoor
