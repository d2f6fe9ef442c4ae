/- Joined: Spf, Slc. -/
import Derived.Test.YtcjcgehhmjnlcaaGreatDoorSga
import Derived.Test.YtcjcgehhmjnlcaaGreatDoorQsa
import Derived.Test.YtcjcgehhmjnlcaaGreatDoorQsb
import Derived.Test.YtcjcgehhmjnlcaaGreatDoorQsg
import Derived.Test.YtcjcgehhmjnlcaaGreatDoorSaw
/- What the printed parts of layer 14 give, in plain words. -/
set_option linter.unusedVariables false
set_option linter.unusedSimpArgs false
namespace Go.Proofs.YtcjcgehhmjnlcaaGreatDoor
open Go.RowKit Go.Shelf Go.Proofs.YtcjcgehhmjnlcaaGreatDoor.It Go.Proofs.YtcjcgehhmjnlcaaGreatDoorW.PrintWords Go.Proofs.YtcjcgehhmjnlcaaGreatDoorW.PrintLast Go.Proofs.YtcjcgehhmjnlcaaGreatDoorW.PrintMore
namespace Sk14
open PSackMatchesReference
theorem wrap_next {j n : Nat} (h : j < n) (hn : n ≤ 1000000) : wrap64 ((j : Int) + 1) = ((j + 1 : Nat) : Int) := by unfold wrap64; omega
theorem rdr_at (l : List Gr) (j : Nat) (h : j < l.length) : rd_T94 l (j : Int) = l[j] := by
  simp [rd_T94, h]
theorem drop_cons' {α : Type} (l : List α) (j : Nat) (h : j < l.length) : l.drop j = l[j] :: l.drop (j + 1) := List.drop_eq_getElem_cons h
theorem given_l0 (cu wi a b : Int) (l : List Gr) (D E : List Int) (hl : l.length ≤ 1000000) : ∀ (d j : Nat) (acc : List Gp), l.length - j = d → j ≤ l.length → acc.length ≤ j → wharflaw14_given.l0 (d + 1) (j : Int) cu wi l D a b acc E = some (a, b, acc ++ (l.drop j).map toG, E) := by
  intro d
  induction d with
  | zero =>
    intro j acc hd hj ha
    obtain rfl : j = l.length := by omega
    rw [wharflaw14_given.l0, if_neg (by omega)]
    simp
  | succ d ih =>
    intro j acc hd hj ha
    have hlt : j < l.length := by omega
    rw [wharflaw14_given.l0, if_pos (by omega), if_pos (by omega), if_pos (by omega), wrap_next hlt hl, rdr_at l j hlt, ih (j + 1) _ (by omega) (by omega) (by simp; omega), drop_cons' l j hlt, List.map_cons, List.append_assoc, List.singleton_append]
    rfl
theorem given_f (cu wi : Int) (l : List Gr) (D : List Int) (hl : l.length ≤ 1000000) (hD : D.length ≤ 1000000) : wharflaw14_given.f (l.length + 1) cu wi l D = some (cu, wi, l.map toG, D) := by
  unfold wharflaw14_given.f
  rw [Option.bind_some, if_pos (by simp; omega)]
  have := given_l0 cu wi cu wi l D ([] ++ D) hl l.length 0 [] (by omega) (by omega) (by simp)
  simpa using this
theorem rcov_l0 (cu wi d : Int) (l : List Gr) (D : List Int) (hl : l.length ≤ 1000000) : ∀ (q j : Nat), l.length - j = q → j ≤ l.length → wharfref14_Covers.l0 (q + 1) d (j : Int) cu wi l D = some (((l.drop j).map toG).any (inGap d)) := by
  intro q
  induction q with
  | zero =>
    intro j hd hj
    obtain rfl : j = l.length := by omega
    rw [wharfref14_Covers.l0, if_neg (by omega)]
    simp
  | succ q ih =>
    intro j hd hj
    have hlt : j < l.length := by omega
    rw [wharfref14_Covers.l0, if_pos (by omega), if_pos (by omega), wrap_next hlt hl, rdr_at l j hlt, ih (j + 1) (by omega) (by omega), drop_cons' l j hlt]
    have e : (((l[j] :: l.drop (j + 1)).map toG).any (inGap d)) = (inGap d (toG l[j]) || ((l.drop (j + 1)).map toG).any (inGap d)) := by rw [List.map_cons, List.any_cons]
    rw [e]
    have e2 : inGap d (toG l[j]) = (decide (d ≥ l[j].f0 % 4294967296) && decide (d ≤ l[j].f1 % 4294967296)) := rfl
    rw [e2]
    by_cases h1 : d ≥ l[j].f0 % 4294967296
    · by_cases h2 : d ≤ l[j].f1 % 4294967296
      · rw [if_pos h1, if_pos h2]; simp [h1, h2]
      · rw [if_pos h1, if_neg h2]; simp [h2]
    · rw [if_neg h1]; simp [h1]
theorem rcov_f (cu wi x : Int) (l : List Gr) (D : List Int) (hl : l.length ≤ 1000000) : wharfref14_Covers.f (l.length + 1) cu wi l D x = some (covV cu (l.map toG) x) := by
  unfold wharfref14_Covers.f covV
  obtain ⟨d, hd⟩ : ∃ d, (x - cu) % 4294967296 = d := ⟨_, rfl⟩
  have h := rcov_l0 cu wi d l D hl l.length 0 (by omega) (by omega)
  rw [hd]
  by_cases h1 : (cu - x) % 4294967296 < 2147483648
  · rw [if_pos h1]
    have : d = 0 ∨ d > 2147483648 := by omega
    rcases this with rfl | h2
    · simp
    · simp [h2]
  · rw [if_neg h1]
    have h2 : (d == 0) = false := by simp; omega
    have h3 : decide (d > 2147483648) = false := by simp; omega
    rw [h2, h3, Bool.false_or, Bool.false_or]
    simpa using h
end Sk14
end Go.Proofs.YtcjcgehhmjnlcaaGreatDoor
/- The walk of SackCovers. -/
set_option linter.unusedVariables false
set_option linter.unusedSimpArgs false
namespace Go.Proofs.YtcjcgehhmjnlcaaGreatDoor
open Go.RowKit Go.Shelf Go.Proofs.YtcjcgehhmjnlcaaGreatDoor.It Go.Proofs.YtcjcgehhmjnlcaaGreatDoorW.PrintWords Go.Proofs.YtcjcgehhmjnlcaaGreatDoorW.PrintLast Go.Proofs.YtcjcgehhmjnlcaaGreatDoorW.PrintMore
namespace Sk14
open PSackMatchesReference
abbrev KR (w : World) (A : Option Addr) (l : List Gr) : Prop := Kd.C k94 w A l.length l
def fewB (l : List Gr) (D : List Int) : Bool := decide (l.length ≤ 100) && decide (D.length ≤ 100)
theorem sfew_any (cu wi : Int) (A B : Option Addr) (c d : Nat) (l : List Gr) (D : List Int) (w : World) (hL : KR w A l) (hc : l.length ≤ c) (hU : UC w B D) (hd : D.length ≤ d) :
    Calls Tryz.prog 20 #[.agg #[.int .u32 cu, .int .u32 wi, .slice A l.length c, .slice B D.length d]] w (IsPost (.bool (fewB l D)) w) := by
  refine (wharflaw14_few.calls cu wi A c l B d D (fewB l D) w hL hc hU hd ?_).mono (fun e w' h => h)
  unfold wharflaw14_few.f fewB
  by_cases h1 : l.length ≤ 100
  · rw [if_pos (by omega)]
    by_cases h2 : D.length ≤ 100
    · have : ((D.length : Int) ≤ 100) := by omega
      simp [h1, h2, this]
    · have : ¬ ((D.length : Int) ≤ 100) := by omega
      simp [h1, h2, this]
  · rw [if_neg (by omega)]
    simp [h1]
def GvPost (cu wi : Int) (l : List Gr) (D : List Int) (w : World) (e : Ending) (w' : World) : Prop := ∃ A c B d, e = .returned (.agg #[.int .u32 cu, .int .u32 wi, .slice A l.length c, .slice B D.length d]) ∧ l.length ≤ c ∧ GpC w' A (l.map toG) ∧ D.length ≤ d ∧ UC w' B D ∧ Below w.heap.size w w'
theorem given_any (cu wi : Int) (A B : Option Addr) (c d : Nat) (l : List Gr) (D : List Int) (w : World) (hL : KR w A l) (hc : l.length ≤ c) (hU : UC w B D) (hd : D.length ≤ d) (hl : l.length ≤ 1000000) (hD : D.length ≤ 1000000) :
    Calls Tryz.prog 22 #[.agg #[.int .u32 cu, .int .u32 wi, .slice A l.length c, .slice B D.length d]] w (GvPost cu wi l D w) := by
  refine (wharflaw14_given.calls (l.length + 1) cu wi A c l B d D cu wi (l.map toG) D w hL hc hU hd (given_f cu wi l D hl hD)).mono ?_
  rintro e w' ⟨v, u, rfl, hv, hu, hb⟩
  obtain ⟨A', c', rfl, hc', hg⟩ := ownG_of_kr hv
  obtain ⟨B', d', rfl, hd', hu'⟩ := Kd.R_reads hu
  rw [List.length_map] at hc' ⊢
  exact ⟨A', c', B', d', rfl, hc', hg, hd', hu', hb⟩
theorem rcov_any (cu wi x : Int) (A B : Option Addr) (c d : Nat) (l : List Gr) (D : List Int) (w : World) (hL : KR w A l) (hc : l.length ≤ c) (hU : UC w B D) (hd : D.length ≤ d) (hl : l.length ≤ 1000000) :
    Calls Tryz.prog 34 #[.agg #[.int .u32 cu, .int .u32 wi, .slice A l.length c, .slice B D.length d], .int .u32 x] w (IsPost (.bool (covV cu (l.map toG) x)) w) :=
  (wharfref14_Covers.calls (l.length + 1) cu wi A c l B d D x _ w hL hc hU hd (rcov_f cu wi x l D hl)).mono (fun e w' h => h)
theorem M3.blw' {w0 W W' : World} {p : Nat} {v0 v1 v2 v3 : Value} (h : M3 w0 p v0 v1 v2 v3 W) (hb : Below W.heap.size W W') : M3 w0 p v0 v1 v2 v3 W' := M3.blw h hb
theorem gcov_any (cu wi x : Int) (A B : Option Addr) (c d : Nat) (l : List Gr) (D : List Int) (w : World) (hS : GpC w A (l.map toG)) (hc : l.length ≤ c) (hl : l.length ≤ 1000000) :
    Calls Tryz.prog 33 #[.agg #[.int .u32 cu, .int .u32 wi, .slice A l.length c, .slice B D.length d], .int .u32 x] w (IsPost (.bool (covV cu (l.map toG) x)) w) := by
  have := covers_any cu wi x A B c D.length d (l.map toG) w hS (by simpa using hc) (by simpa using hl)
  rw [List.length_map] at this
  exact this
set_option maxRecDepth 100000 in
set_option maxHeartbeats 8000000 in
theorem law7_any (cu wi x : Int) (A B : Option Addr) (c d : Nat) (l : List Gr) (D : List Int) (w : World) (hL : KR w A l) (hc : l.length ≤ c) (hU : UC w B D) (hd : D.length ≤ d) (hg : GTab w) :
    Calls Tryz.prog 7 #[.agg #[.int .u32 cu, .int .u32 wi, .slice A l.length c, .slice B D.length d], .int .u32 x] w (IsPost (.bool true) w) := by
  have HBX := hid (blk_new w (.cells #[.int .u32 cu, .int .u32 wi, .slice A l.length c, .slice B D.length d] 44))
  have HB0 := hid (below_alloc (Below.refl w.heap.size w) (.cells #[.int .u32 cu, .int .u32 wi, .slice A l.length c, .slice B D.length d] 44))
  have HL := hid hL
  have HU := hid hU
  have HG := hid hg
  have HC := hid hc
  have HD := hid hd
  have hA := sawake_any _ (hg.below HB0.out)
  clear hL hU hg hc hd
  go_enter Tryz.func7, Tryz.ntmps7
  go_wp2_with fail
  refine hA.mono ?_
  rintro e w1 ⟨rfl, hb⟩
  have HB1 := hid (cthen HB0.out hb)
  have HX1 := hid (blk_below HBX.out hb)
  have hF := sfew_any cu wi A B c d l D w1 (Kd.C_below HL.out HB1.out) HC.out (HU.out.below HB1.out) HD.out
  obtain ⟨⟨q0, q1, q2, q3⟩, -⟩ := four HX1.out
  clear hA hb
  go_wp2_with fail
  refine hF.mono ?_
  rintro e w2 ⟨rfl, hb⟩
  have HB2 := hid (cthen HB1.out hb)
  have HX2 := hid (blk_below HX1.out hb)
  clear hF hb q0 q1 q2 q3
  obtain ⟨bF, hbF⟩ : ∃ b, fewB l D = b := ⟨_, rfl⟩
  rw [hbF]
  cases bF with
  | false =>
    have hA := sawake_any _ (HG.out.below HB2.out)
    clear hbF
    go_wp2_with fail
    refine hA.mono ?_
    rintro e w3 ⟨rfl, hb⟩
    have HB3 := hid (cthen HB2.out hb)
    clear hb hA
    go_wp2_with fail
    go_ret
    exact ⟨rfl, HB3.out⟩
  | true =>
    have hn : l.length ≤ 100 ∧ D.length ≤ 100 := by unfold fewB at hbF; simpa using hbF
    have HN := hid hn
    have HL2 := hid (Kd.C_below HL.out HB2.out)
    have HU2 := hid (HU.out.below HB2.out)
    obtain ⟨⟨q0, q1, q2, q3⟩, -⟩ := four HX2.out
    have hS0 : M3 w2 w.heap.size (.int .u32 cu) (.int .u32 wi) (.slice A l.length c) (.slice B D.length d) w2.drew := ⟨below_drew (Below.refl _ _) 1, q0, q1, q2, q3⟩
    unfold M3 at hS0
    clear hbF hn
    clear q0 q1 q2 q3
    go_wp2_with fail
    go_region_held3 (fun W => Below w2.heap.size w2 W ∧ W.cell? ⟨w.heap.size, 0, none⟩ = some (.int .u32 cu) ∧ W.cell? ⟨w.heap.size, 1, none⟩ = some (.int .u32 wi) ∧ W.cell? ⟨w.heap.size, 2, none⟩ = some (.slice A l.length c) ∧ W.cell? ⟨w.heap.size, 3, none⟩ = some (.slice B D.length d))
      (first | with_reducible assumption | (refine M3.blw' ?_ (by with_reducible assumption); with_reducible assumption))
      (first
        | (go_at_call 22; refine Calls.mono (given_any cu wi A B c d l D _ (Kd.C_below HL2.out (And.left (by with_reducible assumption))) HC.out (HU2.out.below (And.left (by with_reducible assumption))) HD.out (by have := HN.out; omega) (by have := HN.out; omega)) ?_; rintro e W ⟨A9, c9, B9, d9, rfl, hc9, hg9, hd9, hu9, hb⟩)
        | (go_at_call 33; refine Calls.mono (gcov_any cu wi x A9 B9 c9 d9 l D _ (by first | exact hg9 | exact hg9.below (by with_reducible assumption)) hc9 (by have := HN.out; omega)) ?_; rintro e W ⟨rfl, hb⟩)
        | (go_at_call 34; refine Calls.mono (rcov_any cu wi x A B c d l D _ (Kd.C_below HL2.out (And.left (by with_reducible assumption))) HC.out (HU2.out.below (And.left (by with_reducible assumption))) HD.out (by have := HN.out; omega)) ?_; rintro e W ⟨rfl, hb⟩))
    all_goals
      go_wp2_with fail
      go_ret
      exact ⟨rfl, cthen HB2.out (And.left (by with_reducible assumption))⟩
end Sk14
end Go.Proofs.YtcjcgehhmjnlcaaGreatDoor
