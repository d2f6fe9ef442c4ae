/- The rule of what may follow, plain: 'wharfref21.May' and 'wharfref21.Types'. -/
import Derived.Test.YtmfmomfhiieilaaGreatDoorBft
import Derived.Test.YtmfmomfhiieilaaGreatDoorBcc
import Derived.Test.YtmfmomfhiieilaaGreatDoorBqm
import Derived.Test.YtmfmomfhiieilaaGreatDoorBqi
set_option linter.unusedVariables false
set_option linter.unusedSimpArgs false
namespace Go.Proofs.YtmfmomfhiieilaaGreatDoor
open Go.RowKit Go.Shelf Go.Proofs.YtmfmomfhiieilaaGreatDoor.It Go.Proofs.YtmfmomfhiieilaaGreatDoorW.PrintWords Go.Proofs.YtmfmomfhiieilaaGreatDoorW.PrintLast Go.Proofs.YtmfmomfhiieilaaGreatDoorW.PrintMore
namespace Bn
open PBundleSorted
theorem rd_i (l : List Int) (i : Nat) (h : i < l.length) : rd l (i : Int) = l[i] := by
  unfold rd
  simp [List.getD_eq_getElem?_getD, List.getElem?_eq_getElem h]
theorem has_loop (l : List Int) (t : Int) (hl : l.length ≤ 1099511627776) : ∀ (e i : Nat), l.length - i = e → i ≤ l.length → Ev (fun k => wharfref21_has.l0 k l t (i : Int)) (decide (t ∈ l.drop i)) := by
  intro e
  induction e with
  | zero =>
    intro i he hi
    refine Ev.step (f := fun _ => some (decide (t ∈ l.drop i))) (fun k => ?_) (Ev.now _)
    simp only [wharfref21_has.l0]
    rw [if_neg (by omega), List.drop_of_length_le (by omega)]
    rfl
  | succ e ih =>
    intro i he hi
    have hil : i < l.length := by omega
    have hwi := hid (show wrap64 ((i : Int) + 1) = ((i + 1 : Nat) : Int) by unfold wrap64; omega)
    by_cases h : l[i] = t
    · refine Ev.step (f := fun _ => some (decide (t ∈ l.drop i))) (fun k => ?_) (Ev.now _)
      simp only [wharfref21_has.l0]
      rw [if_pos (by omega), if_pos (by omega), rd_i l i hil, if_pos h, List.drop_eq_getElem_cons hil]
      simp [h]
    · have e : decide (t ∈ l.drop i) = decide (t ∈ l.drop (i + 1)) := 
        decide_eq_decide.2 (by rw [List.drop_eq_getElem_cons hil, List.mem_cons]; exact or_iff_right (fun he => h he.symm))
      rw [e]
      refine Ev.step (fun k => ?_) (ih (i + 1) (by omega) (by omega))
      simp only [wharfref21_has.l0]
      rw [if_pos (by omega), if_pos (by omega), rd_i l i hil, if_neg h, hwi.out]
theorem has_ev (l : List Int) (t : Int) (hl : l.length ≤ 1099511627776) : Ev (fun k => wharfref21_has.f k l t) (decide (t ∈ l)) := has_loop l t hl _ 0 rfl (Nat.zero_le _)
/-- The rule, plain. -/
def lone (t : Int) (l : List Int) : Bool := decide (t = 1) || decide (t = 2) || decide (t = 14) || decide (1 ∈ l) || decide (2 ∈ l) || decide (14 ∈ l)
def last2 (t : Int) (l : List Int) : Bool := decide (t = 15) || decide (6 ∈ l)
def cook (t : Int) (l : List Int) : Bool := decide (t = 10) && (decide (l.length > 1) || rd l 0 != 15)
def mixd (t : Int) (l : List Int) : Bool := decide (0 ∈ l) && decide (t ≠ 0) || decide (64 ∈ l) && decide (t ≠ 64)
def mayR (t : Int) (l : List Int) : Bool := decide (l.length = 0) || (!lone t l && !last2 t l && !cook t l && !mixd t l)
theorem j2_ev (t : Int) (l : List Int) (hl : l.length ≤ 1099511627776) (b : Bool) : Ev (fun k => wharfref21_May.j2 k t l b) (!b && !mixd t l) := by
  cases b with
  | true =>
    refine Ev.step (f := fun _ => some false) (fun k => ?_) (Ev.now _)
    simp only [wharfref21_May.j2]
    rfl
  | false =>
    have h0 := has_ev l 0 hl
    have h64 := has_ev l 64 hl
    have tail : Ev (fun k => (wharfref21_has.f k l 64).bind fun t203 => (if t203 = true then (if t = 64 then (some true) else (some false)) else (some true))) (!(decide (64 ∈ l) && decide (t ≠ 64))) := by
      refine Ev.bind (f := fun k t203 => (if t203 = true then (if t = 64 then (some true) else (some false)) else (some true))) h64 ?_
      refine Ev.congr (f := fun _ => some _) (fun k => ?_) (Ev.now _)
      by_cases m : (64 : Int) ∈ l <;> by_cases e : t = 64 <;> simp [m, e]
    refine Ev.step (f := fun k => (wharfref21_has.f k l 0).bind fun t201 => (if t201 = true then (if t = 0 then ((wharfref21_has.f k l 64).bind fun t202 => (if t202 = true then (if t = 64 then (some true) else (some false)) else (some true))) else (some false)) else ((wharfref21_has.f k l 64).bind fun t203 => (if t203 = true then (if t = 64 then (some true) else (some false)) else (some true))))) (fun k => ?_) ?_
    · simp only [wharfref21_May.j2]
      rw [if_neg (by decide)]
    · refine Ev.bind (f := fun k t201 => (if t201 = true then (if t = 0 then ((wharfref21_has.f k l 64).bind fun t202 => (if t202 = true then (if t = 64 then (some true) else (some false)) else (some true))) else (some false)) else ((wharfref21_has.f k l 64).bind fun t203 => (if t203 = true then (if t = 64 then (some true) else (some false)) else (some true))))) h0 ?_
      by_cases m0 : (0 : Int) ∈ l
      · by_cases e0 : t = 0
        · have h : (!false && !mixd t l) = !(decide (64 ∈ l) && decide (t ≠ 64)) := by unfold mixd; simp [m0, e0]
          rw [h]
          exact Ev.congr (fun k => by simp [m0, e0]) tail
        · have h : (!false && !mixd t l) = false := by unfold mixd; simp [m0, e0]
          rw [h]
          exact Ev.congr (fun k => by simp [m0, e0]) (Ev.now false)
      · have h : (!false && !mixd t l) = !(decide (64 ∈ l) && decide (t ≠ 64)) := by unfold mixd; simp [m0]
        rw [h]
        exact Ev.congr (fun k => by simp [m0]) tail
theorem j1_ev (t : Int) (l : List Int) (hl : l.length ≤ 1099511627776) (h0 : 0 < l.length) (b : Bool) : Ev (fun k => wharfref21_May.j1 k t l (l.length : Int) b) (!b && !cook t l && !mixd t l) := by
  cases b with
  | true =>
    refine Ev.step (f := fun _ => some false) (fun k => ?_) (Ev.now _)
    simp only [wharfref21_May.j1]
    rfl
  | false =>
    by_cases e : t = 10
    · by_cases hn : l.length > 1
      · have h : (!false && !cook t l && !mixd t l) = (!true && !mixd t l) := by unfold cook; simp [e, hn]
        rw [h]
        refine Ev.step (fun k => ?_) (j2_ev t l hl true)
        simp only [wharfref21_May.j1]
        rw [if_neg (by decide), if_pos e, if_pos (by omega)]
      · have h : (!false && !cook t l && !mixd t l) = (!(rd l 0 != 15) && !mixd t l) := by unfold cook; simp only [e, hn]; simp
        rw [h]
        refine Ev.step (fun k => ?_) (j2_ev t l hl (rd l 0 != 15))
        simp only [wharfref21_May.j1]
        rw [if_neg (by decide), if_pos e, if_neg (by omega), if_pos (by omega)]
    · have h : (!false && !cook t l && !mixd t l) = (!false && !mixd t l) := by unfold cook; simp [e]
      rw [h]
      refine Ev.step (fun k => ?_) (j2_ev t l hl false)
      simp only [wharfref21_May.j1]
      rw [if_neg (by decide), if_neg e]
theorem j0_ev (t : Int) (l : List Int) (hl : l.length ≤ 1099511627776) (h0 : 0 < l.length) (b : Bool) : Ev (fun k => wharfref21_May.j0 k t l (l.length : Int) b) (!b && !last2 t l && !cook t l && !mixd t l) := by
  cases b with
  | true =>
    refine Ev.step (f := fun _ => some false) (fun k => ?_) (Ev.now _)
    simp only [wharfref21_May.j0]
    rfl
  | false =>
    by_cases e : t = 15
    · have h : (!false && !last2 t l && !cook t l && !mixd t l) = (!true && !cook t l && !mixd t l) := by unfold last2; simp [e]
      rw [h]
      refine Ev.step (fun k => ?_) (j1_ev t l hl h0 true)
      simp only [wharfref21_May.j0]
      rw [if_neg (by decide), if_pos e]
    · have h : (!false && !last2 t l && !cook t l && !mixd t l) = (!(decide (6 ∈ l)) && !cook t l && !mixd t l) := by unfold last2; simp [e]
      rw [h]
      refine Ev.step (fun k => ?_) (Ev.bind (f := fun k t199 => wharfref21_May.j1 k t l (l.length : Int) t199) (has_ev l 6 hl) (j1_ev t l hl h0 _))
      simp only [wharfref21_May.j0]
      rw [if_neg (by decide), if_neg e]
theorem may_ev (t : Int) (l : List Int) (hl : l.length ≤ 1099511627776) : Ev (fun k => wharfref21_May.f k t l) (mayR t l) := by
  by_cases h0 : l.length = 0
  · have h : mayR t l = true := by unfold mayR; simp [h0]
    rw [h]
    refine Ev.congr (fun k => ?_) (Ev.now true)
    simp only [wharfref21_May.f]
    rw [if_pos (by omega)]
  · have hp : 0 < l.length := by omega
    have hm : mayR t l = (!lone t l && !last2 t l && !cook t l && !mixd t l) := by unfold mayR; simp [h0]
    rw [hm]
    have hj := fun b => j0_ev t l hl hp b
    by_cases e1 : t = 1
    · have h : lone t l = true := by unfold lone; simp [e1]
      rw [h]
      refine Ev.congr (fun k => ?_) (hj true)
      simp only [wharfref21_May.f]
      rw [if_neg (by omega), if_pos e1]
    by_cases e2 : t = 2
    · have h : lone t l = true := by unfold lone; simp [e2]
      rw [h]
      refine Ev.congr (fun k => ?_) (hj true)
      simp only [wharfref21_May.f]
      rw [if_neg (by omega), if_neg e1, if_pos e2]
    by_cases e3 : t = 14
    · have h : lone t l = true := by unfold lone; simp [e3]
      rw [h]
      refine Ev.congr (fun k => ?_) (hj true)
      simp only [wharfref21_May.f]
      rw [if_neg (by omega), if_neg e1, if_neg e2, if_pos e3]
    have hf : ∀ k, wharfref21_May.f k t l = ((wharfref21_has.f k l 1).bind fun t196 => (if t196 = true then (wharfref21_May.j0 k t l (l.length : Int) true) else ((wharfref21_has.f k l 2).bind fun t197 => (if t197 = true then (wharfref21_May.j0 k t l (l.length : Int) true) else ((wharfref21_has.f k l 14).bind fun t198 => (wharfref21_May.j0 k t l (l.length : Int) t198)))))) := by
      intro k
      simp only [wharfref21_May.f]
      rw [if_neg (by omega), if_neg e1, if_neg e2, if_neg e3]
    refine Ev.congr hf (Ev.bind (f := fun k t196 => (if t196 = true then (wharfref21_May.j0 k t l (l.length : Int) true) else ((wharfref21_has.f k l 2).bind fun t197 => (if t197 = true then (wharfref21_May.j0 k t l (l.length : Int) true) else ((wharfref21_has.f k l 14).bind fun t198 => (wharfref21_May.j0 k t l (l.length : Int) t198)))))) (has_ev l 1 hl) ?_)
    by_cases m1 : (1 : Int) ∈ l
    · have h : lone t l = true := by unfold lone; simp [m1]
      rw [h]
      exact Ev.congr (fun k => if_pos (decide_eq_true m1)) (hj true)
    refine Ev.congr (fun k => if_neg (fun h => m1 (of_decide_eq_true h))) (Ev.bind (f := fun k t197 => (if t197 = true then (wharfref21_May.j0 k t l (l.length : Int) true) else ((wharfref21_has.f k l 14).bind fun t198 => (wharfref21_May.j0 k t l (l.length : Int) t198)))) (has_ev l 2 hl) ?_)
    by_cases m2 : (2 : Int) ∈ l
    · have h : lone t l = true := by unfold lone; simp [m2]
      rw [h]
      exact Ev.congr (fun k => if_pos (decide_eq_true m2)) (hj true)
    have h : lone t l = decide (14 ∈ l) := by unfold lone; simp [e1, e2, e3, m1, m2]
    rw [h]
    exact Ev.congr (fun k => if_neg (fun h => m2 (of_decide_eq_true h))) (Ev.bind (f := fun k t198 => wharfref21_May.j0 k t l (l.length : Int) t198) (has_ev l 14 hl) (hj _))
/-- 'wharfref21.May'. -/
theorem rmay_any (t : Int) (A : Option Addr) (n c : Nat) (l : List Int) (w : World) (hn : l.length = n) (hC : BC w A l) (hc : n ≤ c) (hl : n ≤ 1099511627776) : Calls Tryz.prog 11 #[.int .u8 t, .slice A n c] w (IsPost (.bool (mayR t l)) w) := by
  subst hn
  obtain ⟨k, hk⟩ := (may_ev t l hl).rounds
  exact (wharfref21_May.calls k t A c l _ w hC hc hk).mono (fun e w2 h => ⟨h.1, h.2.below⟩)
/-- The types of chunks. -/
def tys (l : List Ck) : List Int := l.map (fun x => x.f0)
theorem types_loop (l : List Ck) (hl : l.length ≤ 1099511627776) : ∀ (e i : Nat), l.length - i = e → i ≤ l.length → Ev (fun k => wharfref21_Types.l0 k l (tys (l.take i)) (i : Int)) (tys l) := by
  intro e
  induction e with
  | zero =>
    intro i he hi
    have ht : l.take i = l := List.take_of_length_le (by omega)
    rw [ht]
    refine Ev.step (f := fun _ => some (tys l)) (fun k => ?_) (Ev.now _)
    simp only [wharfref21_Types.l0]
    rw [if_neg (by omega)]
  | succ e ih =>
    intro i he hi
    have hil : i < l.length := by omega
    have hwi := hid (show wrap64 ((i : Int) + 1) = ((i + 1 : Nat) : Int) by unfold wrap64; omega)
    have hst : tys (l.take (i + 1)) = tys (l.take i) ++ [(l[i]).f0] := by unfold tys; rw [List.take_succ_eq_append_getElem hil, List.map_append]; rfl
    have hln : (tys (l.take i)).length < 140737488355328 := by unfold tys; rw [List.length_map, List.length_take]; omega
    have hnx := ih (i + 1) (by omega) (by omega)
    rw [hst] at hnx
    refine Ev.step (fun k => ?_) hnx
    simp only [wharfref21_Types.l0]
    rw [if_pos (by omega), if_pos (by omega), if_pos hln, rd_ck l i hil, hwi.out]
theorem types_ev (l : List Ck) (hl : l.length ≤ 1099511627776) : Ev (fun k => wharfref21_Types.f k l) (tys l) := types_loop l hl _ 0 rfl (Nat.zero_le _)
/-- What 'Types' gives. -/
def TysP (l : List Ck) (w : World) (e : Ending) (w' : World) : Prop := ∃ v : Value, e = .returned v ∧ RD w' w.heap.size (fun _ => True) v (tys l) ∧ Below w.heap.size w w'
/-- 'wharfref21.Types'. -/
theorem rtypes_any (A : Option Addr) (n c : Nat) (l : List Ck) (w : World) (hn : l.length = n) (hC : CsC w A n l) (hc : n ≤ c) (hl : n ≤ 1099511627776) : Calls Tryz.prog 12 #[.slice A n c] w (TysP l w) := by
  subst hn
  obtain ⟨k, hk⟩ := (types_ev l hl).rounds
  exact (wharfref21_Types.calls k A c l _ w hC hc hk).mono (fun e w2 h => h)
theorem ltypes_loop (l : List Ck) (hl : l.length ≤ 1099511627776) : ∀ (e i : Nat), l.length - i = e → i ≤ l.length → Ev (fun k => legal_Types.l0 k (tys (l.take i)) l (l.length : Int) (i : Int)) (tys l) := by
  intro e
  induction e with
  | zero =>
    intro i he hi
    have ht : l.take i = l := List.take_of_length_le (by omega)
    rw [ht]
    refine Ev.step (f := fun _ => some (tys l)) (fun k => ?_) (Ev.now _)
    simp only [legal_Types.l0]
    rw [if_neg (by omega)]
  | succ e ih =>
    intro i he hi
    have hil : i < l.length := by omega
    have hwi := hid (show wrap64 ((i : Int) + 1) = ((i + 1 : Nat) : Int) by unfold wrap64; omega)
    have hst : tys (l.take (i + 1)) = tys (l.take i) ++ [(l[i]).f0] := by unfold tys; rw [List.take_succ_eq_append_getElem hil, List.map_append]; rfl
    have hln : (tys (l.take i)).length < 140737488355328 := by unfold tys; rw [List.length_map, List.length_take]; omega
    have hnx := ih (i + 1) (by omega) (by omega)
    rw [hst] at hnx
    refine Ev.step (fun k => ?_) hnx
    simp only [legal_Types.l0]
    rw [if_pos (by omega), if_pos (by omega), if_pos (by omega), if_pos hln, rd_ck l i hil, hwi.out]
/-- 'legal.Types'. -/
theorem ltypes_any (A : Option Addr) (n c : Nat) (l : List Ck) (w : World) (hn : l.length = n) (hC : CsC w A n l) (hc : n ≤ c) (hl : n ≤ 1099511627776) : Calls Tryz.prog 56 #[.slice A n c] w (TysP l w) := by
  subst hn
  obtain ⟨k, hk⟩ := Ev.rounds (ltypes_loop l hl _ 0 rfl (Nat.zero_le _))
  exact (legal_Types.calls k A c l _ w hC hc hk).mono (fun e w2 h => h)
theorem index_loop (l : List Int) (t : Int) (hl : l.length ≤ 1099511627776) : ∀ (e i : Nat), l.length - i = e → i ≤ l.length → ∃ r : Int, Ev (fun k => slices_Index_byte_byte.l0 k l t (l.length : Int) (i : Int)) r ∧ (0 ≤ r ↔ t ∈ l.drop i) := by
  intro e
  induction e with
  | zero =>
    intro i he hi
    refine ⟨-1, Ev.step (f := fun _ => some (-1)) (fun k => ?_) (Ev.now _), ?_⟩
    · simp only [slices_Index_byte_byte.l0]
      rw [if_neg (by omega)]
    · rw [List.drop_of_length_le (by omega)]
      simp
  | succ e ih =>
    intro i he hi
    have hil : i < l.length := by omega
    have hwi := hid (show wrap64 ((i : Int) + 1) = ((i + 1 : Nat) : Int) by unfold wrap64; omega)
    by_cases h : t = l[i]
    · refine ⟨(i : Int), Ev.step (f := fun _ => some (i : Int)) (fun k => ?_) (Ev.now _), ?_⟩
      · simp only [slices_Index_byte_byte.l0]
        rw [if_pos (by omega), if_pos (by omega), if_pos (by omega), rd_i l i hil, if_pos h]
      · rw [List.drop_eq_getElem_cons hil]
        exact ⟨fun _ => List.mem_cons.2 (Or.inl h), fun _ => by omega⟩
    · obtain ⟨r, hr, hm⟩ := ih (i + 1) (by omega) (by omega)
      refine ⟨r, Ev.step (fun k => ?_) hr, ?_⟩
      · simp only [slices_Index_byte_byte.l0]
        rw [if_pos (by omega), if_pos (by omega), if_pos (by omega), rd_i l i hil, if_neg h, hwi.out]
      · rw [List.drop_eq_getElem_cons hil, List.mem_cons]
        exact hm.trans (or_iff_right h).symm
theorem cont_ev (l : List Int) (t : Int) (hl : l.length ≤ 1099511627776) : Ev (fun k => slices_Contains_byte_byte.f k l t) (decide (t ∈ l)) := by
  obtain ⟨r, hr, hm⟩ := index_loop l t hl _ 0 rfl (Nat.zero_le _)
  have e : decide (t ∈ l) = decide (r ≥ 0) := decide_eq_decide.2 hm.symm
  rw [e]
  unfold slices_Contains_byte_byte.f
  exact Ev.bind (f := fun k t156 => some (decide (t156 ≥ 0))) hr (Ev.now _)
end Bn
end Go.Proofs.YtmfmomfhiieilaaGreatDoor
