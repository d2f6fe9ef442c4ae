/- 'given' and 'few' of layer 14. -/
import Derived.Test.YtcjcgehhmjnlcaaGreatDoorSga
import Derived.Test.YtcjcgehhmjnlcaaGreatDoorQsa
import Derived.Test.YtcjcgehhmjnlcaaGreatDoorQsb
set_option linter.unusedVariables false
set_option linter.unusedSimpArgs false
namespace Go.Proofs.YtcjcgehhmjnlcaaGreatDoor
open Go.RowKit Go.Shelf Go.Proofs.YtcjcgehhmjnlcaaGreatDoor.It Go.Proofs.YtcjcgehhmjnlcaaGreatDoorW.PrintWords Go.Proofs.YtcjcgehhmjnlcaaGreatDoorW.PrintLast Go.Proofs.YtcjcgehhmjnlcaaGreatDoorW.PrintMore
namespace Sk14
open PSackMatchesReference
theorem wrap_next {j n : Nat} (h : j < n) (hn : n ≤ 1000000) : wrap64 ((j : Int) + 1) = ((j + 1 : Nat) : Int) := by unfold wrap64; omega
theorem rdr_at (l : List Gr) (j : Nat) (h : j < l.length) : rd_T94 l (j : Int) = l[j] := by
  simp [rd_T94, h]
theorem drop_cons' {α : Type} (l : List α) (j : Nat) (h : j < l.length) : l.drop j = l[j] :: l.drop (j + 1) := List.drop_eq_getElem_cons h
theorem given_l0 (cu wi a b : Int) (l : List Gr) (D E : List Int) (hl : l.length ≤ 1000000) : ∀ (d j : Nat) (acc : List Gp), l.length - j = d → j ≤ l.length → acc.length ≤ j → wharflaw14_given.l0 (d + 1) (j : Int) cu wi l D a b acc E = some (a, b, acc ++ (l.drop j).map toG, E) := by
  intro d
  induction d with
  | zero =>
    intro j acc hd hj ha
    obtain rfl : j = l.length := by omega
    rw [wharflaw14_given.l0, if_neg (by omega)]
    simp
  | succ d ih =>
    intro j acc hd hj ha
    have hlt : j < l.length := by omega
    rw [wharflaw14_given.l0, if_pos (by omega), if_pos (by omega), if_pos (by omega), wrap_next hlt hl, rdr_at l j hlt, ih (j + 1) _ (by omega) (by omega) (by simp; omega), drop_cons' l j hlt, List.map_cons, List.append_assoc, List.singleton_append]
    rfl
theorem given_f (cu wi : Int) (l : List Gr) (D : List Int) (hl : l.length ≤ 1000000) (hD : D.length ≤ 1000000) : wharflaw14_given.f (l.length + 1) cu wi l D = some (cu, wi, l.map toG, D) := by
  unfold wharflaw14_given.f
  rw [Option.bind_some, if_pos (by simp; omega)]
  have := given_l0 cu wi cu wi l D ([] ++ D) hl l.length 0 [] (by omega) (by omega) (by simp)
  simpa using this
abbrev KR (w : World) (A : Option Addr) (l : List Gr) : Prop := Kd.C k94 w A l.length l
def fewB (l : List Gr) (D : List Int) : Bool := decide (l.length ≤ 100) && decide (D.length ≤ 100)
theorem sfew_any (cu wi : Int) (A B : Option Addr) (c d : Nat) (l : List Gr) (D : List Int) (w : World) (hL : KR w A l) (hc : l.length ≤ c) (hU : UC w B D) (hd : D.length ≤ d) :
    Calls Tryz.prog 20 #[.agg #[.int .u32 cu, .int .u32 wi, .slice A l.length c, .slice B D.length d]] w (IsPost (.bool (fewB l D)) w) := by
  refine (wharflaw14_few.calls cu wi A c l B d D (fewB l D) w hL hc hU hd ?_).mono (fun e w' h => h)
  unfold wharflaw14_few.f fewB
  by_cases h1 : l.length ≤ 100
  · rw [if_pos (by omega)]
    by_cases h2 : D.length ≤ 100
    · have : ((D.length : Int) ≤ 100) := by omega
      simp [h1, h2, this]
    · have : ¬ ((D.length : Int) ≤ 100) := by omega
      simp [h1, h2, this]
  · rw [if_neg (by omega)]
    simp [h1]
def GvPost (cu wi : Int) (l : List Gr) (D : List Int) (w : World) (e : Ending) (w' : World) : Prop := ∃ A c B d, e = .returned (.agg #[.int .u32 cu, .int .u32 wi, .slice A l.length c, .slice B D.length d]) ∧ l.length ≤ c ∧ GpC w' A (l.map toG) ∧ D.length ≤ d ∧ UC w' B D ∧ Below w.heap.size w w'
theorem given_any (cu wi : Int) (A B : Option Addr) (c d : Nat) (l : List Gr) (D : List Int) (w : World) (hL : KR w A l) (hc : l.length ≤ c) (hU : UC w B D) (hd : D.length ≤ d) (hl : l.length ≤ 1000000) (hD : D.length ≤ 1000000) :
    Calls Tryz.prog 22 #[.agg #[.int .u32 cu, .int .u32 wi, .slice A l.length c, .slice B D.length d]] w (GvPost cu wi l D w) := by
  refine (wharflaw14_given.calls (l.length + 1) cu wi A c l B d D cu wi (l.map toG) D w hL hc hU hd (given_f cu wi l D hl hD)).mono ?_
  rintro e w' ⟨v, u, rfl, hv, hu, hb⟩
  obtain ⟨A', c', rfl, hc', hg⟩ := ownG_of_kr hv
  obtain ⟨B', d', rfl, hd', hu'⟩ := Kd.R_reads hu
  rw [List.length_map] at hc' ⊢
  exact ⟨A', c', B', d', rfl, hc', hg, hd', hu', hb⟩
end Sk14
end Go.Proofs.YtcjcgehhmjnlcaaGreatDoor
