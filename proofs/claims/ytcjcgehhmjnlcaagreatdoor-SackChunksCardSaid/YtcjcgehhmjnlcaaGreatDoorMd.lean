/- Joined: Fst, Chp, Ckf. -/
import Derived.Test.YtcjcgehhmjnlcaaGreatDoorMc
/- 'chunk.first': the first error of some checks. -/
set_option linter.unusedVariables false
namespace Go.Proofs.YtcjcgehhmjnlcaaGreatDoor
open Go.RowKit Go.Proofs.YtcjcgehhmjnlcaaGreatDoor.It Go.Proofs.YtcjcgehhmjnlcaaGreatDoorW.PrintWords

/-- The checks by their numbers. -/
def chkF : Nat → Nat
  | 0 => 62
  | 1 => 63
  | 2 => 64
  | 3 => 65
  | _ => 66
/-- The first error of the first n. -/
def FirstIs (X : Nat → Option (Int × Option Int)) (n : Nat) (R : Option (Int × Option Int)) : Prop := (∃ i, i < n ∧ (∀ j, j < i → X j = none) ∧ X i ≠ none ∧ R = X i) ∨ ((∀ i, i < n → X i = none) ∧ R = none)
theorem FirstIs.at {X : Nat → Option (Int × Option Int)} {n i : Nat} {R : Option (Int × Option Int)} (h : FirstIs X n R) (hi : i < n) (hn : ∀ j, j < i → X j = none) (hx : X i ≠ none) : R = X i := by
  rcases h with ⟨k, hk, hkn, hkx, hR⟩ | ⟨hk, hR⟩
  · rcases Nat.lt_trichotomy k i with h | h | h
    · exact absurd (hn k h) hkx
    · rw [hR, h]
    · exact absurd (hkn i h) hx
  · exact absurd (hk i hi) hx
theorem FirstIs.end {X : Nat → Option (Int × Option Int)} {n : Nat} {R : Option (Int × Option Int)} (h : FirstIs X n R) (hn : ∀ j, j < n → X j = none) : R = none := by
  rcases h with ⟨k, hk, hkn, hkx, hR⟩ | ⟨hk, hR⟩
  · exact absurd (hn k hk) hkx
  · exact hR
def FstI (w : World) (t f : Int) (A K : Option Addr) (n c m d : Nat) (r : KR) (W : World) : Prop := Below w.heap.size w W ∧ W.heap[w.heap.size]? = some (.cells #[.int .u8 t, .int .u8 f, .slice A n c, .slice K m d] 35 (0, 0)) ∧ W.heap[w.heap.size + 1]? = some (.cells #[.int .u8 r.ty, .string r.nm, .int .u8 r.mask, .int .i64 r.least, .int .i64 r.most, .int .i64 r.unit, .int .i64 r.kids] 103 (0, 0))
theorem FstI.step {w : World} {t f : Int} {A K : Option Addr} {n c m d : Nat} {r : KR} {W W' : World} (h : FstI w t f A K n c m d r W) (hb : Below W.heap.size W W') : FstI w t f A K n c m d r W' := ⟨cthen h.1 hb, blk_below h.2.1 hb, blk_below h.2.2 hb⟩
theorem none_step {X : Nat → Option (Int × Option Int)} {i : Nat} (h : ∀ j, j < i → X j = none) (hx : X i = none) : ∀ j, j < i + 1 → X j = none := fun j hj => by
  by_cases e : j = i
  · rw [e]; exact hx
  · exact h j (by omega)
set_option maxRecDepth 100000 in
set_option maxHeartbeats 4000000 in
theorem first_any (t f : Int) (A K : Option Addr) (n c m d b k cap : Nat) (r : KR) (w : World) (X : Nat → Option (Int × Option Int)) (R : Option (Int × Option Int)) (hk : k ≤ 5) (hR : FirstIs X k R)
    (hc : ∀ i, i < k → w.cell? ⟨b, i, none⟩ = some (.func (.func (chkF i)) #[] #[]))
    (H : ∀ i, i < k → (∀ j, j < i → X j = none) → ∀ W, Below w.heap.size w W → Calls Tryz.prog (chkF i) #[ckV t f A n c K m d, r.val] W (ErrPost (X i) W)) :
    Calls Tryz.prog 61 #[ckV t f A n c K m d, r.val, .slice (some ⟨b, 0, none⟩) k cap] w (ErrPost R w) := by
  have HH := hid H
  have HR := hid hR
  have HC := hid hc
  clear H hR hc
  unfold ckV KR.val at *
  go_enter Tryz.func61, Tryz.ntmps61
  go_wp2_with fail
  go_loopw [12] (fun iv W => ∃ i : Nat, iv = .int .i64 i ∧ i ≤ k ∧ Hid (∀ j, j < i → X j = none) ∧ Hid (FstI w t f A K n c m d r W)) (fun iv _ => 5 - (intOf iv).toNat)
  case atStart =>
    refine ⟨0, rfl, by omega, hid (fun j hj => by omega), hid ⟨below_alloc (below_alloc (Below.refl _ _) _) _, blk_alloc (blk_new _ _), ?_⟩⟩
    have := blk_new (w.alloc (.cells #[.int .u8 t, .int .u8 f, .slice A n c, .slice K m d] 35)) (.cells #[.int .u8 r.ty, .string r.nm, .int .u8 r.mask, .int .i64 r.least, .int .i64 r.most, .int .i64 r.unit, .int .i64 r.kids] 103)
    rwa [World.size_alloc] at this
  case round =>
    obtain ⟨i, rfl, hi, hn, hW⟩ := hrel
    by_cases hlt : i < k
    · have hcall := HH.out i hlt hn.out wr hW.out.1
      have hcell : wr.cell? ⟨b, i, none⟩ = some (.func (.func (chkF i)) #[] #[]) := (hW.out.1.cell (p := ⟨b, i, none⟩) (World.block_lt_of_cell? w _ (HC.out i hlt))).trans (HC.out i hlt)
      obtain ⟨⟨c0, c1, c2, c3⟩, -⟩ := four hW.out.2.1
      obtain ⟨⟨d0, d1, d2, d3, d4, d5, d6⟩, -⟩ := seven hW.out.2.2
      have hat := hid (fun hx : X i ≠ none => HR.out.at hlt hn.out hx)
      obtain ⟨x, hx⟩ : ∃ x, x = X i := ⟨_, rfl⟩
      rw [← hx] at hcall
      have hxh := hid hx
      clear hx
      have h5 : i = 0 ∨ i = 1 ∨ i = 2 ∨ i = 3 ∨ i = 4 := by omega
      rcases h5 with rfl | rfl | rfl | rfl | rfl
      all_goals
        simp only [chkF] at hcell hcall
        have HCL := hid hcall
        clear hcall
        rcases x with _ | ⟨cx, _ | nx⟩
        · go_wp2_with fail
          refine HCL.out.mono ?_
          rintro e w2 ⟨rfl, hb⟩
          have HB2 := hid hb
          clear hb HCL
          unfold eV
          go_wp2_with fail
          go_roundw
          case rel =>
            have hI := hid (FstI.step hW.out HB2.out)
            have hN := hid (none_step hn.out hxh.out.symm)
            first | exact ⟨1, rfl, by omega, hN, hI⟩ | exact ⟨2, rfl, by omega, hN, hI⟩ | exact ⟨3, rfl, by omega, hN, hI⟩ | exact ⟨4, rfl, by omega, hN, hI⟩ | exact ⟨5, rfl, by omega, hN, hI⟩
          case measure => simp [intOf]
        · go_wp2_with fail
          refine HCL.out.mono ?_
          rintro e w2 ⟨rfl, hb⟩
          have HB2 := hid hb
          clear hb HCL
          unfold eV
          go_wp2_with fail
          go_ret
          refine ⟨?_, cthen hW.out.1 HB2.out⟩
          rw [hat.out (by rw [← hxh.out]; simp), ← hxh.out]
          rfl
        · go_wp2_with fail
          refine HCL.out.mono ?_
          rintro e w2 ⟨rfl, hb⟩
          have HB2 := hid hb
          clear hb HCL
          unfold eV
          go_wp2_with fail
          go_ret
          refine ⟨?_, cthen hW.out.1 HB2.out⟩
          rw [hat.out (by rw [← hxh.out]; simp), ← hxh.out]
          rfl
    · obtain rfl : i = k := by omega
      have hRn := hid (HR.out.end hn.out)
      go_wp2_with fail
      go_ret
      exact ⟨by rw [hRn.out]; rfl, hW.out.1⟩
end Go.Proofs.YtcjcgehhmjnlcaaGreatDoor
/- 'chunk.Check' of a chunk whose form has no nodes inside. -/
set_option linter.unusedVariables false
namespace Go.Proofs.YtcjcgehhmjnlcaaGreatDoor
open Go.RowKit Go.Proofs.YtcjcgehhmjnlcaaGreatDoor.It Go.Proofs.YtcjcgehhmjnlcaaGreatDoorW.PrintWords

theorem kT_inj {i j : Nat} (hi : i < 23) (hj : j < 23) (h : kT i = kT j) : i = j := by
  rcases Nat.lt_trichotomy i j with g | g | g
  · have := kT_mono i j g hj; omega
  · exact g
  · have := kT_mono j i g hi; omega
theorem of_known (i0 : Nat) (hi : i0 < 23) (t : Int) (ht : kT i0 = t) (w : World) (hg : GTab w) :
    Calls Tryz.prog 59 #[.int .u8 t] w (IsPost (.tuple #[(kR i0).val, .bool true]) w) := by
  have hb := kT_bd i0 hi
  rw [ht] at hb
  refine (of_any t w hb.1 hb.2 hg).mono ?_
  rintro e w' ⟨i, b, r, hf, hr, rfl, hw⟩
  have hbt : b = true := by rw [hf.2.1, decide_eq_true_eq, ← ht]; exact kT_mem i0 hi
  subst hbt
  obtain ⟨h1, h2⟩ := hf.2.2 rfl
  have : i = i0 := kT_inj h1 hi (h2.trans ht.symm)
  rw [if_pos rfl, this] at hr
  subst hr
  exact ⟨rfl, hw⟩
/-- What 'chunk.Check' says: a code, or nothing. -/
def codeOnly (x : Option (Int × Option Int)) : Option (Int × Option Int) := x.map fun p => (p.1, none)
set_option maxRecDepth 100000 in
set_option maxHeartbeats 4000000 in
theorem check_plain (i0 : Nat) (hi0 : i0 < 23) (t f : Int) (ht : kT i0 = t) (hkd : (kR i0).kids = 0) (A K : Option Addr) (n c m d : Nat) (w : World) (hg : GTab w) (hn : n ≤ 1099511627776) (hm : m ≤ 1099511627776)
    (X : Nat → Option (Int × Option Int)) (R : Option (Int × Option Int)) (hR : FirstIs X 5 R) (h0 : X 0 = flagsE f (kR i0).mask) (h1 : X 1 = dataE (kR i0) n) (h2 : X 2 = kids0E m)
    (h3 : X 1 = none → ∀ W, Below w.heap.size w W → Calls Tryz.prog 65 #[ckV t f A n c K m d, (kR i0).val] W (ErrPost (X 3) W))
    (h4 : X 1 = none → ∀ W, Below w.heap.size w W → Calls Tryz.prog 66 #[ckV t f A n c K m d, (kR i0).val] W (ErrPost (X 4) W)) :
    Calls Tryz.prog 29 #[ckV t f A n c K m d] w (ErrPost (codeOnly R) w) := by
  have hrok := kR_ok i0 hi0
  have hH : ∀ i, i < 5 → (∀ j, j < i → X j = none) → ∀ W, Below w.heap.size w W → Calls Tryz.prog (chkF i) #[ckV t f A n c K m d, (kR i0).val] W (ErrPost (X i) W) := by
    intro i hi hj W hW
    have : i = 0 ∨ i = 1 ∨ i = 2 ∨ i = 3 ∨ i = 4 := by omega
    rcases this with rfl | rfl | rfl | rfl | rfl
    · rw [h0]; exact flags_any t f A K n c m d _ W
    · rw [h1]; exact data_any t f A K n c m d _ hrok W
    · rw [h2]; exact kids_none t f A K n c m d _ hkd W (hg.below hW) hm
    · exact h3 (hj 1 (by omega)) W hW
    · exact h4 (hj 1 (by omega)) W hW
  have hend : R = none → m = 0 ∧ n ≤ 65531 := fun hr => by
    rcases hR with ⟨i, -, -, hx, hR⟩ | ⟨hx, -⟩
    · exact absurd (hR.symm.trans hr) hx
    · have e1 := hx 1 (by omega)
      have e2 := hx 2 (by omega)
      rw [h1] at e1
      rw [h2] at e2
      unfold kids0E at e2
      unfold dataE at e1
      split at e1
      · rename_i hf
        split at e2
        · rename_i hm0
          refine ⟨hm0, ?_⟩
          unfold fits at hf
          simp only [Bool.and_eq_true, decide_eq_true_eq] at hf
          have := hrok.2.1
          omega
        · cases e2
      · cases e1
  have HH := hid hH
  have HG := hid hg
  have HR := hid hR
  have HE := hid hend
  have hof := fun W (hW : Below w.heap.size w W) => of_known i0 hi0 t ht W (hg.below hW)
  have hin := fun W (hW : Below w.heap.size w W) => kinside_any 0 W (by omega) (by omega) (hg.below hW)
  have HO := hid hof
  have HI := hid hin
  have hkd' := hid hkd
  obtain ⟨r, hr⟩ : ∃ r, r = kR i0 := ⟨_, rfl⟩
  rw [← hr] at HH HO hkd'
  clear hH hg hR hend hof hin hkd h0 h1 h2 h3 h4 ht hrok hr
  unfold KR.val at HO
  rw [hkd'.out] at HO
  unfold ckV
  go_enter Tryz.func29, Tryz.ntmps29
  go_wp2_with fail
  refine (HO.out _ (below_alloc (Below.refl _ _) _)).mono ?_
  rintro e w1 ⟨rfl, hb⟩
  have B1 := hid (cthen (below_alloc (Below.refl w.heap.size w) _) hb)
  have K1 := hid (new_blk hb)
  clear hb
  go_wp2_with fail
  refine (HI.out _ (below_alloc B1.out _)).mono ?_
  rintro e w2 ⟨rfl, hb⟩
  have e1 : iR 0 = (0, 0, 0) := rfl
  rw [e1]
  have B2 := hid (cthen (below_alloc B1.out _) hb)
  have K2 := hid (blk_below (blk_alloc K1.out) hb)
  have Q2 := hid (new_blk hb)
  have hs12 : w1.heap.size < w2.heap.size := by have := hb.size; simp at this; omega
  have hs01 : w.heap.size < w1.heap.size := by have := (Array.getElem?_eq_some_iff.1 K1.out).1; omega
  obtain ⟨⟨c0, c1, c2, c3⟩, -⟩ := four K2.out
  obtain ⟨⟨d0, d1, d2, d3, d4, d5, d6⟩, -⟩ := seven Q2.out
  clear hb e1
  go_wp2_with fail
  have hfun : (w2.alloc (.cells #[.func (.func 62) #[] #[], .func (.func 63) #[] #[], .func (.func 64) #[] #[], .func (.func 65) #[] #[], .func (.func 66) #[] #[]] 165)).heap[w2.heap.size]? = some (.cells #[.func (.func 62) #[] #[], .func (.func 63) #[] #[], .func (.func 64) #[] #[], .func (.func 65) #[] #[], .func (.func 66) #[] #[]] 165 (0, 0)) := blk_new _ _
  have hfirst := first_any t f A K n c m d w2.heap.size 5 5 r (w2.alloc (.cells #[.func (.func 62) #[] #[], .func (.func 63) #[] #[], .func (.func 64) #[] #[], .func (.func 65) #[] #[], .func (.func 66) #[] #[]] 165)) X R (by omega) HR.out (fun i hi => by
    have : i = 0 ∨ i = 1 ∨ i = 2 ∨ i = 3 ∨ i = 4 := by omega
    rcases this with rfl | rfl | rfl | rfl | rfl <;> (unfold World.cell?; rw [hfun]; rfl)) (fun i hi hj W hW => HH.out i hi hj W (cthen (below_alloc B2.out _) hW))
  unfold ckV KR.val at hfirst
  rw [hkd'.out] at hfirst
  refine hfirst.mono ?_
  rintro e w3 ⟨rfl, hb⟩
  have B3 := hid (cthen (below_alloc B2.out _) hb)
  have K3 := hid (blk_below (blk_alloc K2.out) hb)
  have HRd := HE
  clear hb hfirst hfun c0 c1 c2 c3 d0 d1 d2 d3 d4 d5 d6 HH HR K1 Q2
  go_wp2_with fail
  refine (code_any R _ (HG.out.below B3.out)).mono ?_
  rintro e w4 ⟨rfl, hb⟩
  have B4 := hid (cthen B3.out hb)
  have K4 := hid (blk_below K3.out hb)
  obtain ⟨⟨c0, c1, c2, c3⟩, -⟩ := four K4.out
  clear hb K3 K2
  rcases R with _ | ⟨x, y⟩
  · obtain ⟨rfl, hn3⟩ := HE.out rfl
    clear hn
    unfold eCode
    have hcs := hid (fun W => csize_nil t f A K n c d W (by omega))
    have hn4 : (4 : Int) + (n : Int) ≤ 65535 := by omega
    go_wp2_with fail
    go_loopw [50] (fun vi W => vi = .int .i64 0 ∧ W = w4) (fun vi _ => 0)
    case atStart => exact ⟨rfl, rfl⟩
    case round =>
      obtain ⟨rfl, rfl⟩ := hrel
      go_wp2_with fail
      refine (hcs.out _).mono ?_
      rintro e w5 ⟨rfl, hb⟩
      have B5 := hid (cthen B4.out hb)
      clear hb
      go_wp2_with fail
      go_ret
      exact ⟨rfl, B5.out⟩
  · unfold eCode
    go_wp2_with fail
    go_ret
    exact ⟨rfl, B4.out⟩
end Go.Proofs.YtcjcgehhmjnlcaaGreatDoor
/- 'chunk.Check' at the two forms of forward-tsn. -/
set_option linter.unusedVariables false
namespace Go.Proofs.YtcjcgehhmjnlcaaGreatDoor
open Go.RowKit Go.Shelf Go.Proofs.YtcjcgehhmjnlcaaGreatDoor.It Go.Proofs.YtcjcgehhmjnlcaaGreatDoorW.PrintWords
def nthE (a b c d e : Option (Int × Option Int)) : Nat → Option (Int × Option Int)
  | 0 => a
  | 1 => b
  | 2 => c
  | 3 => d
  | _ => e
def orE (a b c d e : Option (Int × Option Int)) : Option (Int × Option Int) := a.or (b.or (c.or (d.or e)))
theorem first_or (a b c d e : Option (Int × Option Int)) : FirstIs (nthE a b c d e) 5 (orE a b c d e) := by
  unfold FirstIs orE
  rcases a with _ | a
  · rcases b with _ | b
    · rcases c with _ | c
      · rcases d with _ | d
        · rcases e with _ | e
          · right
            refine ⟨fun i hi => ?_, rfl⟩
            match i with
            | 0 => rfl
            | 1 => rfl
            | 2 => rfl
            | 3 => rfl
            | 4 => rfl
            | n + 5 => omega
          · left
            refine ⟨4, by omega, fun j hj => ?_, by simp [nthE], rfl⟩
            match j with
            | 0 => rfl
            | 1 => rfl
            | 2 => rfl
            | 3 => rfl
            | n + 4 => omega
        · left
          refine ⟨3, by omega, fun j hj => ?_, by simp [nthE], rfl⟩
          match j with
          | 0 => rfl
          | 1 => rfl
          | 2 => rfl
          | n + 3 => omega
      · left
        refine ⟨2, by omega, fun j hj => ?_, by simp [nthE], rfl⟩
        match j with
        | 0 => rfl
        | 1 => rfl
        | n + 2 => omega
    · left
      refine ⟨1, by omega, fun j hj => ?_, by simp [nthE], rfl⟩
      match j with
      | 0 => rfl
      | n + 1 => omega
  · left
    exact ⟨0, by omega, fun j hj => by omega, by simp [nthE], rfl⟩
end Go.Proofs.YtcjcgehhmjnlcaaGreatDoor
