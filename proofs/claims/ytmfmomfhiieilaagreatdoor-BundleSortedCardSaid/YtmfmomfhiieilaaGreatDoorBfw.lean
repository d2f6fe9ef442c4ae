/- 'Few': what is counted of nodes, plain. -/
import Derived.Test.YtmfmomfhiieilaaGreatDoorBps
import Derived.Test.YtmfmomfhiieilaaGreatDoorBqf
set_option linter.unusedVariables false
set_option linter.unusedSimpArgs false
namespace Go.Proofs.YtmfmomfhiieilaaGreatDoor
open Go.RowKit Go.Shelf Go.Proofs.YtmfmomfhiieilaaGreatDoor.It Go.Proofs.YtmfmomfhiieilaaGreatDoorW.PrintWords Go.Proofs.YtmfmomfhiieilaaGreatDoorW.PrintLast Go.Proofs.YtmfmomfhiieilaaGreatDoorW.PrintMore
namespace Bn
open PBundleSorted
mutual
/-- Rows are no longer than rows can be. -/
def bdN : Nd → Prop
  | ⟨_, D, ks⟩ => D.length ≤ 9223372036854775807 ∧ ks.length ≤ 9223372036854775807 ∧ bdL ks
def bdL : List Nd → Prop
  | [] => True
  | x :: l => bdN x ∧ bdL l
end
theorem bdN_eq (x : Nd) : bdN x = (x.f1.length ≤ 9223372036854775807 ∧ x.f2.length ≤ 9223372036854775807 ∧ bdL x.f2) := by cases x; rw [bdN]
theorem bdL_of : ∀ l : List Nd, (∀ x ∈ l, bdN x) → bdL l
  | [], _ => by rw [bdL]; trivial
  | x :: l, h => by rw [bdL]; exact ⟨h x (by simp), bdL_of l (fun y hy => h y (by simp [hy]))⟩
theorem bdL_mem : ∀ l : List Nd, bdL l → ∀ x ∈ l, bdN x
  | [], _, x, hx => by simp at hx
  | y :: l, h, x, hx => by
    rw [bdL] at h
    rcases List.mem_cons.1 hx with rfl | hx
    · exact h.1
    · exact bdL_mem l h.2 x hx
theorem bd_read : ∀ (m : Nat) (l : List Nd) (w : World) (A : Option Addr) (n : Nat), cnts l ≤ m → Kd.C k87 w A n l → bdL l := by
  intro m
  induction m with
  | zero =>
    intro l w A n hm hC
    cases l with
    | nil => rw [bdL]; trivial
    | cons x l => rw [cnts, cnt_eq] at hm; omega
  | succ m ih =>
    intro l w A n hm hC
    refine bdL_of l (fun x hx => ?_)
    obtain ⟨i, hi, rfl⟩ := List.mem_iff_getElem.1 hx
    obtain ⟨b, off, A1, c1, A2, c2, -, -, -, -, l1, g1, l2, g2⟩ := node_at hC i hi
    have h1 := cnts_at l l[i] hx
    have h2 := cnt_eq l[i]
    rw [bdN_eq]
    exact ⟨by have := g1.2.1; omega, by have := g2.2.1; omega, ih _ w A2 _ (by omega) g2⟩
theorem cnts_drop (l : List Nd) (i : Nat) (h : i < l.length) : cnts (l.drop i) = cnt l[i] + cnts (l.drop (i + 1)) := by
  rw [List.drop_eq_getElem_cons h, cnts]
theorem count_ev : ∀ (m : Nat) (l : List Nd), cnts l ≤ m → bdL l → l.length ≤ 9223372036854775807 → ∀ d : Nat, d ≤ 21 → ∃ r : Nat, Ev (fun k => wharfref08_Count.f k l (d : Int)) (r : Int) ∧ r ≤ (22 - d) * 10000000000000000 ∧ (r ≤ 999 → r = cnts l) := by
  intro m
  induction m using Nat.strongRecOn with
  | _ m ihm =>
  intro l hl hbd hll d hd
  by_cases hd20 : d = 21
  · subst hd20
    refine ⟨1000, Ev.step (f := fun _ => some ((1000 : Nat) : Int)) (fun k => ?_) (Ev.now _), by omega, by omega⟩
    simp only [wharfref08_Count.f]
    rw [if_pos (by omega)]
    rfl
  · have loop : ∀ (e i n : Nat), l.length - i = e → i ≤ l.length → n ≤ (22 - d) * 10000000000000000 → ∃ r : Nat, Ev (fun k => wharfref08_Count.l0 k l (d : Int) (n : Int) (i : Int)) (r : Int) ∧ r ≤ (22 - d) * 10000000000000000 ∧ (r ≤ 999 → r = n + cnts (l.drop i)) := by
      intro e
      induction e with
      | zero =>
        intro i n he hi hn
        refine ⟨n, Ev.step (f := fun _ => some (n : Int)) (fun k => ?_) (Ev.now _), hn, fun _ => ?_⟩
        · simp only [wharfref08_Count.l0]
          rw [if_neg (by omega)]
        · rw [List.drop_of_length_le (by omega), cnts]; rfl
      | succ e ihe =>
        intro i n he hi hn
        have hil : i < l.length := by omega
        by_cases hn1 : n < 1000
        · have hbx := bdL_mem l hbd l[i] (List.getElem_mem hil)
          rw [bdN_eq] at hbx
          have hcx := cnts_at l l[i] (List.getElem_mem hil)
          have hce := cnt_eq l[i]
          have hdr := cnts_drop l i hil
          obtain ⟨t, ht, htb, hte⟩ := ihm (cnts (l[i]).f2) (by omega) (l[i]).f2 (Nat.le_refl _) hbx.2.2 hbx.2.1 (d + 1) (by omega)
          obtain ⟨L, hL⟩ : ∃ L, (l[i]).f1.length = L := ⟨_, rfl⟩
          obtain ⟨hb1, -, -⟩ := hbx
          rw [hL] at hb1 hce
          obtain ⟨q, hq⟩ : ∃ q, L / 1000 = q := ⟨_, rfl⟩
          have hqb : q ≤ 9223372036854775 := by omega
          have hqi : ((L : Int) / 1000) = (q : Int) := by rw [← hq]; rfl
          rw [hq] at hce
          obtain ⟨r, hr, hrb, hre⟩ := ihe (i + 1) (n + 1 + q + t) (by omega) (by omega) (by omega)
          refine ⟨r, ?_, hrb, fun h => ?_⟩
          · have hw1 := hid (show wrap64 ((n : Int) + 1) = ((n + 1 : Nat) : Int) by unfold wrap64; omega)
            have hw2 := hid (show wrap64 (q : Int) = (q : Int) by unfold wrap64; omega)
            have hw3 := hid (show wrap64 (((n + 1 : Nat) : Int) + (q : Int)) = ((n + 1 + q : Nat) : Int) by unfold wrap64; omega)
            have hw4 := hid (show wrap64 (((n + 1 + q : Nat) : Int) + (t : Int)) = ((n + 1 + q + t : Nat) : Int) by unfold wrap64; omega)
            have hw5 := hid (show wrap64 ((d : Int) + 1) = ((d + 1 : Nat) : Int) by unfold wrap64; omega)
            have hw6 := hid (show wrap64 ((i : Int) + 1) = ((i + 1 : Nat) : Int) by unfold wrap64; omega)
            refine Ev.step (fun k => ?_) (Ev.bind (f := fun k t188 => wharfref08_Count.l0 k l (d : Int) (wrap64 (((n + 1 + q : Nat) : Int) + t188)) ((i + 1 : Nat) : Int)) ht (by rw [hw4.out]; exact hr))
            simp only [wharfref08_Count.l0]
            rw [if_pos (by omega), if_pos (by omega), if_pos (by omega), rd_nd l i hil, hL, hqi, hw1.out, hw2.out, hw3.out, hw5.out, hw6.out]
          · have h1 := hre h
            have h2 := hte (by omega)
            omega
        · refine ⟨n, Ev.step (f := fun _ => some (n : Int)) (fun k => ?_) (Ev.now _), hn, fun h => by omega⟩
          simp only [wharfref08_Count.l0]
          rw [if_pos (by omega), if_neg (by omega)]
    obtain ⟨r, hr, hrb, hre⟩ := loop _ 0 0 rfl (Nat.zero_le _) (Nat.zero_le _)
    refine ⟨r, Ev.step (fun k => ?_) hr, hrb, fun h => by have := hre h; simpa using this⟩
    simp only [wharfref08_Count.f]
    rw [if_neg (by omega)]
    rfl
def bdC (x : Ck) : Prop := x.f3.length ≤ 9223372036854775807 ∧ bdL x.f3
/-- Few and small, of a chunk. -/
def fewC (x : Ck) : Prop := x.f2.length ≤ 70000 ∧ cnts x.f3 ≤ 200
theorem bdC_read (l : List Ck) (w : World) (A : Option Addr) (n : Nat) (hC : CsC w A n l) : ∀ x ∈ l, bdC x := by
  intro x hx
  obtain ⟨i, hi, rfl⟩ := List.mem_iff_getElem.1 hx
  obtain ⟨b, off, A1, c1, A2, c2, -, -, -, -, -, l1, g1, l2, g2⟩ := chunk_at hC i hi
  exact ⟨by have := g2.2.1; omega, bd_read _ _ w A2 _ (Nat.le_refl _) g2⟩
theorem few8_ev (l : List Nd) (hb : bdL l) (hl : l.length ≤ 9223372036854775807) : ∃ b : Bool, Ev (fun k => wharfref08_Few.f k l) b ∧ (b = true → cnts l ≤ 200) := by
  obtain ⟨r, hr, -, hre⟩ := count_ev (cnts l) l (Nat.le_refl _) hb hl 0 (by omega)
  refine ⟨decide ((r : Int) ≤ 200), ?_, fun h => ?_⟩
  · unfold wharfref08_Few.f
    exact Ev.bind (f := fun k t189 => some (decide (t189 ≤ 200))) hr (Ev.now _)
  · have h2 : (r : Int) ≤ 200 := of_decide_eq_true h
    have h3 := hre (by omega)
    omega
theorem few12_ev (x : Ck) (hb : bdC x) : ∃ b : Bool, Ev (fun k => wharfref12_Few.f k x.f0 x.f1 x.f2 x.f3) b ∧ (b = true → fewC x) := by
  by_cases h : (x.f2.length : Int) ≤ 70000
  · obtain ⟨b, hb1, hb2⟩ := few8_ev x.f3 hb.2 hb.1
    refine ⟨b, Ev.congr (fun k => ?_) (Ev.bind (f := fun k t191 => some t191) hb1 (Ev.now _)), fun e => ⟨by omega, hb2 e⟩⟩
    simp only [wharfref12_Few.f]
    rw [if_pos h]
  · refine ⟨false, Ev.congr (fun k => ?_) (Ev.now false), fun e => by cases e⟩
    simp only [wharfref12_Few.f]
    rw [if_neg h]
theorem few22_loop (l : List Ck) (hb : ∀ x ∈ l, bdC x) (hl : l.length ≤ 9223372036854775807) : ∀ (e i : Nat) (s : Int), l.length - i = e → i ≤ l.length → ∃ b : Bool, Ev (fun k => wharfref22_Few.l0 k l s (i : Int)) b ∧ (b = true → l.length ≤ 20 ∧ ∀ j (h : j < l.length), i ≤ j → fewC l[j]) := by
  intro e
  induction e with
  | zero =>
    intro i s he hi
    by_cases h20 : (l.length : Int) ≤ 20
    · refine ⟨decide (s ≤ 100000), Ev.step (f := fun _ => some (decide (s ≤ 100000))) (fun k => ?_) (Ev.now _), fun _ => ⟨by omega, fun j h hj => by omega⟩⟩
      simp only [wharfref22_Few.l0]
      rw [if_neg (by omega), if_pos h20]
    · refine ⟨false, Ev.step (f := fun _ => some false) (fun k => ?_) (Ev.now _), fun e => by cases e⟩
      simp only [wharfref22_Few.l0]
      rw [if_neg (by omega), if_neg h20]
  | succ e ihe =>
    intro i s he hi
    have hil : i < l.length := by omega
    obtain ⟨b, hev, hfew⟩ := few12_ev l[i] (hb _ (List.getElem_mem hil))
    have hwi := hid (show wrap64 ((i : Int) + 1) = ((i + 1 : Nat) : Int) by unfold wrap64; omega)
    cases b with
    | false =>
      refine ⟨false, Ev.step (fun k => ?_) (Ev.bind (f := fun k t193 => if t193 = true then wharfref22_Few.l0 k l (wrap64 (s + ((l[i]).f2.length : Int))) ((i + 1 : Nat) : Int) else some false) hev (Ev.congr (fun k => if_neg (by decide)) (Ev.now false))), fun e => by cases e⟩
      simp only [wharfref22_Few.l0]
      rw [if_pos (by omega), if_pos (by omega), rd_ck l i hil, hwi.out]
    | true =>
      obtain ⟨b2, hb2, hf2⟩ := ihe (i + 1) (wrap64 (s + ((l[i]).f2.length : Int))) (by omega) (by omega)
      refine ⟨b2, Ev.step (fun k => ?_) (Ev.bind (f := fun k t193 => if t193 = true then wharfref22_Few.l0 k l (wrap64 (s + ((l[i]).f2.length : Int))) ((i + 1 : Nat) : Int) else some false) hev (Ev.congr (fun k => if_pos rfl) hb2)), fun e => ?_⟩
      · simp only [wharfref22_Few.l0]
        rw [if_pos (by omega), if_pos (by omega), rd_ck l i hil, hwi.out]
      · obtain ⟨h1, h2⟩ := hf2 e
        refine ⟨h1, fun j h hj => ?_⟩
        rcases Nat.lt_or_ge i j with h3 | h3
        · exact h2 j h (by omega)
        · obtain rfl : j = i := by omega
          exact hfew rfl
/-- 'wharfref22.Few': it answers, and 'true' only of what is few. -/
theorem few_any (A : Option Addr) (n c : Nat) (l : List Ck) (w : World) (hn : l.length = n) (hC : CsC w A n l) (hc : n ≤ c) :
    ∃ b : Bool, Calls Tryz.prog 8 #[.slice A n c] w (IsPost (.bool b) w) ∧ (b = true → l.length ≤ 20 ∧ ∀ x ∈ l, fewC x) := by
  obtain ⟨b, hev, hf⟩ := few22_loop l (bdC_read l w A n hC) (by have := hC.2.1; omega) _ 0 0 rfl (Nat.zero_le _)
  subst hn
  obtain ⟨k, hk⟩ := Ev.rounds hev
  refine ⟨b, (wharfref22_Few.calls k A c l b w hC hc hk).mono (fun e w' h => h), fun e => ?_⟩
  obtain ⟨h1, h2⟩ := hf e
  refine ⟨h1, fun x hx => ?_⟩
  obtain ⟨i, hi, rfl⟩ := List.mem_iff_getElem.1 hx
  exact h2 i hi (Nat.zero_le _)
end Bn
end Go.Proofs.YtmfmomfhiieilaaGreatDoor
