/- 'legal.May' answers as the rule: 'mayR'. -/
import Derived.Test.YtmfmomfhiieilaaGreatDoorBmy
set_option linter.unusedVariables false
set_option linter.unusedSimpArgs false
namespace Go.Proofs.YtmfmomfhiieilaaGreatDoor
open Go.RowKit Go.Shelf Go.Proofs.YtmfmomfhiieilaaGreatDoor.It Go.Proofs.YtmfmomfhiieilaaGreatDoorW.PrintWords Go.Proofs.YtmfmomfhiieilaaGreatDoorW.PrintLast Go.Proofs.YtmfmomfhiieilaaGreatDoorW.PrintMore
namespace Bn
open PBundleSorted
/-- The table of types that stand alone. -/
structure GLg (w : World) : Prop where
  sz : 4 ≤ w.heap.size
  a0 : w.cell? ⟨3, 0, none⟩ = some (.int .u8 1)
  a1 : w.cell? ⟨3, 1, none⟩ = some (.int .u8 2)
  a2 : w.cell? ⟨3, 2, none⟩ = some (.int .u8 14)
theorem GLg.below {w w' : World} (h : GLg w) (hb : Below w.heap.size w w') : GLg w' :=
  ⟨Nat.le_trans h.sz hb.size, pw_cell_below hb h.a0, pw_cell_below hb h.a1, pw_cell_below hb h.a2⟩
theorem GLg.bc {w : World} (h : GLg w) : BC w (some ⟨3, 0, none⟩) [1, 2, 14] := by
  refine ⟨rfl, by decide, fun _ => ⟨_, rfl, fun j p hj => ?_⟩⟩
  have g : ∀ (v : Int), w.cell? ⟨3, j, none⟩ = some (.int .u8 v) → p = v → ∃ c : List Value, c.length = (Kd.int .u8).sz ∧ (Kd.int .u8).K w p c ∧ ∀ t u, c[t]? = some u → w.cell? ((⟨3, 0, none⟩ : Addr).add (j * (Kd.int .u8).sz + t)) = some u := by
    rintro v hv rfl
    refine ⟨[.int .u8 p], rfl, rfl, fun t u hu => ?_⟩
    rw [Go.WideShapes.add_plain]
    match t, hu with
    | 0, hu => simp at hu; subst hu; simpa [show (Kd.int .u8).sz = 1 from rfl] using hv
    | t + 1, hu => simp at hu
  match j, hj with
  | 0, hj => exact g 1 h.a0 (by simpa using hj.symm)
  | 1, hj => exact g 2 h.a1 (by simpa using hj.symm)
  | 2, hj => exact g 14 h.a2 (by simpa using hj.symm)
  | j + 3, hj => simp at hj
def isD (x : Int) : Bool := decide (x = 0) || decide (x = 64)
set_option maxHeartbeats 400000 in
/-- 'kind.IsData'. -/
theorem isd_any (x : Int) (w : World) : Calls Tryz.prog 89 #[.int .u8 x] w (IsPost (.bool (isD x)) w) := by
  by_cases h0 : x = 0
  · subst h0
    go_enter Tryz.func89, Tryz.ntmps89
    go_wp2_with fail
    go_ret
    exact ⟨rfl, Below.refl _ _⟩
  · by_cases h1 : x = 64
    · subst h1
      go_enter Tryz.func89, Tryz.ntmps89
      go_wp2_with fail
      go_ret
      exact ⟨rfl, Below.refl _ _⟩
    · have he : isD x = false := by unfold isD; simp [h0, h1]
      rw [he]
      go_enter Tryz.func89, Tryz.ntmps89
      go_wp2_with fail
      go_ret
      exact ⟨by simp [h0, h1], Below.refl _ _⟩
/-- 'slices.Contains' of bytes. -/
theorem cont_any (t : Int) (A : Option Addr) (n c : Nat) (l : List Int) (w : World) (hn : l.length = n) (hC : BC w A l) (hc : n ≤ c) (hl : n ≤ 1099511627776) : Calls Tryz.prog 87 #[.slice A n c, .int .u8 t] w (IsPost (.bool (decide (t ∈ l))) w) := by
  subst hn
  obtain ⟨k, hk⟩ := (cont_ev l t hl).rounds
  exact (slices_Contains_byte_byte.calls k A c l t _ w hC hc hk).mono (fun e w2 h => ⟨h.1, h.2.below⟩)
def sgl (x : Int) : Bool := decide (x ∈ [(1 : Int), 2, 14])
set_option maxHeartbeats 400000 in
/-- The first closure. -/
theorem sgl_any (x : Int) (w : World) (hg : GLg w) : Calls Tryz.prog 86 #[.int .u8 x] w (IsPost (.bool (sgl x)) w) := by
  have hct := cont_any x (some ⟨3, 0, none⟩) 3 3 [1, 2, 14] w rfl hg.bc (by decide) (by decide)
  clear hg
  go_enter Tryz.func86, Tryz.ntmps86
  go_wp2_with fail
  refine hct.mono ?_
  rintro e w2 ⟨rfl, hb⟩
  have HB := hid hb
  clear hct hb
  go_wp2_with fail
  go_ret
  exact ⟨by unfold sgl; simp, HB.out⟩
def oth (t x : Int) : Bool := isD x && decide (x ≠ t)
set_option maxHeartbeats 400000 in
/-- The second closure: 't' lies in its box. -/
theorem oth_any (t x : Int) (b : Nat) (w : World) (hb0 : w.cell? ⟨b, 0, none⟩ = some (.int .u8 t)) : Calls Tryz.prog 88 #[.int .u8 x, .pointer (some ⟨b, 0, none⟩)] w (IsPost (.bool (oth t x)) w) := by
  have his := isd_any x w
  obtain ⟨d, hd⟩ : ∃ d, isD x = d := ⟨_, rfl⟩
  unfold oth
  rw [hd] at his ⊢
  have HB0 := hid hb0
  clear hd hb0
  cases d with
  | false =>
    go_enter Tryz.func88, Tryz.ntmps88
    go_wp2_with fail
    refine his.mono ?_
    rintro e w2 ⟨rfl, hb⟩
    have HB := hid hb
    clear his hb
    go_wp2_with fail
    go_ret
    exact ⟨rfl, HB.out⟩
  | true =>
    by_cases h : x = t
    · subst h
      go_enter Tryz.func88, Tryz.ntmps88
      go_wp2_with fail
      refine his.mono ?_
      rintro e w2 ⟨rfl, hb⟩
      have HB := hid hb
      have hc2 := pw_cell_below hb HB0.out
      clear his hb
      go_wp2_with fail
      go_ret
      exact ⟨by simp, HB.out⟩
    · go_enter Tryz.func88, Tryz.ntmps88
      go_wp2_with fail
      refine his.mono ?_
      rintro e w2 ⟨rfl, hb⟩
      have HB := hid hb
      have hc2 := pw_cell_below hb HB0.out
      clear his hb
      go_wp2_with fail
      go_ret
      exact ⟨by simp [h], HB.out⟩
theorem bc_at {w : World} {A : Option Addr} {l : List Int} (h : BC w A l) (i : Nat) (hi : i < l.length) : ∃ b off, A = some ⟨b, off, none⟩ ∧ w.cell? ⟨b, off + i, none⟩ = some (.int .u8 l[i]) := by
  rcases ints_cells h with rfl | ⟨b, off, rfl, -, hc⟩
  · simp at hi
  · refine ⟨b, off, rfl, ?_⟩
    have := hc i hi
    rwa [List.getD_eq_getElem?_getD, List.getElem?_eq_getElem hi] at this
/-- What an index tells. -/
def IdxP (b : Bool) (w : World) (e : Ending) (w' : World) : Prop := ∃ r : Int, e = .returned (.int .i64 r) ∧ decide (r ≥ 0) = b ∧ Below w.heap.size w w'
set_option maxRecDepth 100000 in
set_option maxHeartbeats 2000000 in
/-- 'slices.IndexFunc' with the first closure. -/
theorem idx1_any (A : Option Addr) (n c : Nat) (l : List Int) (w : World) (hn : l.length = n) (hC : BC w A l) (hl : n ≤ 1099511627776) (hg : GLg w) : Calls Tryz.prog 110 #[.slice A n c, .func (.func 86) #[] #[]] w (IdxP (l.any sgl) w) := by
  have HN := hid hn
  have HC := hid hC
  have HL := hid hl
  have HG := hid hg
  have HI0 := hid (Below.refl w.heap.size w)
  have HT0 := hid (show (l.take 0).any sgl = false by simp)
  clear hn hC hl hg
  go_enter Tryz.func110, Tryz.ntmps110
  go_wp2_with fail
  go_loopw [8] (fun vi W => ∃ (i : Nat), vi = .int .i64 i ∧ i ≤ n ∧ Hid ((l.take i).any sgl = false) ∧ Hid (Below w.heap.size w W)) (fun vi _ => n - (intOf vi).toNat)
  case atStart => exact ⟨0, rfl, by omega, HT0, HI0⟩
  case round =>
    obtain ⟨i, rfl, hi, hT, hI⟩ := hrel
    clear HI0 HT0
    by_cases hlt : i < n
    · have hil : i < l.length := by have := HN.out; omega
      obtain ⟨b, off, rfl, k0⟩ := bc_at (HC.out.below hI.out) i hil
      have hcall := sgl_any l[i] wr (HG.out.below hI.out)
      have hst := hid (show (l.take (i + 1)).any sgl = sgl l[i] by rw [List.take_succ_eq_append_getElem hil, List.any_append, hT.out]; simp)
      have htr := hid (show sgl l[i] = true → l.any sgl = true from fun h => List.any_eq_true.2 ⟨l[i], List.getElem_mem hil, h⟩)
      have HWI := hid (show wrap64 ((i : Int) + 1) = ((i + 1 : Nat) : Int) by have := HL.out; unfold wrap64; omega)
      obtain ⟨x, hx⟩ : ∃ x, l[i] = x := ⟨_, rfl⟩
      rw [hx] at k0 hcall hst htr
      obtain ⟨d, hd⟩ : ∃ d, sgl x = d := ⟨_, rfl⟩
      rw [hd] at hcall hst htr
      clear hx hd hil
      cases d with
      | true =>
        have HTR := hid (htr.out rfl)
        clear htr hst
        go_wp2_with fail
        refine hcall.mono ?_
        rintro e w2 ⟨rfl, hb⟩
        have HB := hid (cthen hI.out hb)
        clear hcall hb k0
        go_wp2_with fail
        go_ret
        exact ⟨(i : Int), rfl, by rw [HTR.out]; exact decide_eq_true (by omega), HB.out⟩
      | false =>
        clear htr
        go_wp2_with fail
        refine hcall.mono ?_
        rintro e w2 ⟨rfl, hb⟩
        have HB := hid (cthen hI.out hb)
        clear hcall hb k0
        go_wp2_with fail
        exact ⟨⟨i + 1, by rw [HWI.out], hlt, hst, HB⟩, by rw [HWI.out]; simp only [intOf, Int.toNat_natCast]; omega⟩
    · obtain rfl : i = n := by omega
      have HTR := hid (show l.any sgl = false by have h := hT.out; rwa [← HN.out, List.take_length] at h)
      clear hT
      go_wp2_with fail
      go_ret
      exact ⟨-1, rfl, by rw [HTR.out]; rfl, hI.out⟩
set_option maxHeartbeats 400000 in
/-- 'slices.ContainsFunc' with the first closure. -/
theorem cf1_any (A : Option Addr) (n c : Nat) (l : List Int) (w : World) (hn : l.length = n) (hC : BC w A l) (hl : n ≤ 1099511627776) (hg : GLg w) : Calls Tryz.prog 90 #[.slice A n c, .func (.func 86) #[] #[]] w (IsPost (.bool (l.any sgl)) w) := by
  have hix := idx1_any A n c l w hn hC hl hg
  clear hn hC hl hg
  go_enter Tryz.func90, Tryz.ntmps90
  go_wp2_with fail
  refine hix.mono ?_
  rintro e w2 ⟨r, rfl, hr, hb⟩
  have HB := hid hb
  have HR := hid hr
  clear hix hr hb
  go_wp2_with fail
  go_ret
  exact ⟨by rw [← HR.out]; rfl, HB.out⟩
set_option maxRecDepth 100000 in
set_option maxHeartbeats 2000000 in
/-- 'slices.IndexFunc' with the second closure. -/
theorem idx2_any (t : Int) (bb : Nat) (A : Option Addr) (n c : Nat) (l : List Int) (w : World) (hn : l.length = n) (hC : BC w A l) (hl : n ≤ 1099511627776) (hg : w.cell? ⟨bb, 0, none⟩ = some (.int .u8 t)) : Calls Tryz.prog 110 #[.slice A n c, .func (.func 88) #[] #[.pointer (some ⟨bb, 0, none⟩)]] w (IdxP (l.any (oth t)) w) := by
  have HN := hid hn
  have HC := hid hC
  have HL := hid hl
  have HG := hid hg
  have HI0 := hid (Below.refl w.heap.size w)
  have HT0 := hid (show (l.take 0).any (oth t) = false by simp)
  clear hn hC hl hg
  go_enter Tryz.func110, Tryz.ntmps110
  go_wp2_with fail
  go_loopw [8] (fun vi W => ∃ (i : Nat), vi = .int .i64 i ∧ i ≤ n ∧ Hid ((l.take i).any (oth t) = false) ∧ Hid (Below w.heap.size w W)) (fun vi _ => n - (intOf vi).toNat)
  case atStart => exact ⟨0, rfl, by omega, HT0, HI0⟩
  case round =>
    obtain ⟨i, rfl, hi, hT, hI⟩ := hrel
    clear HI0 HT0
    by_cases hlt : i < n
    · have hil : i < l.length := by have := HN.out; omega
      obtain ⟨b, off, rfl, k0⟩ := bc_at (HC.out.below hI.out) i hil
      have hcall := oth_any t l[i] bb wr (pw_cell_below hI.out HG.out)
      have hst := hid (show (l.take (i + 1)).any (oth t) = oth t l[i] by rw [List.take_succ_eq_append_getElem hil, List.any_append, hT.out]; simp)
      have htr := hid (show oth t l[i] = true → l.any (oth t) = true from fun h => List.any_eq_true.2 ⟨l[i], List.getElem_mem hil, h⟩)
      have HWI := hid (show wrap64 ((i : Int) + 1) = ((i + 1 : Nat) : Int) by have := HL.out; unfold wrap64; omega)
      obtain ⟨x, hx⟩ : ∃ x, l[i] = x := ⟨_, rfl⟩
      rw [hx] at k0 hcall hst htr
      obtain ⟨d, hd⟩ : ∃ d, oth t x = d := ⟨_, rfl⟩
      rw [hd] at hcall hst htr
      clear hx hd hil
      cases d with
      | true =>
        have HTR := hid (htr.out rfl)
        clear htr hst
        go_wp2_with fail
        refine hcall.mono ?_
        rintro e w2 ⟨rfl, hb⟩
        have HB := hid (cthen hI.out hb)
        clear hcall hb k0
        go_wp2_with fail
        go_ret
        exact ⟨(i : Int), rfl, by rw [HTR.out]; exact decide_eq_true (by omega), HB.out⟩
      | false =>
        clear htr
        go_wp2_with fail
        refine hcall.mono ?_
        rintro e w2 ⟨rfl, hb⟩
        have HB := hid (cthen hI.out hb)
        clear hcall hb k0
        go_wp2_with fail
        exact ⟨⟨i + 1, by rw [HWI.out], hlt, hst, HB⟩, by rw [HWI.out]; simp only [intOf, Int.toNat_natCast]; omega⟩
    · obtain rfl : i = n := by omega
      have HTR := hid (show l.any (oth t) = false by have h := hT.out; rwa [← HN.out, List.take_length] at h)
      clear hT
      go_wp2_with fail
      go_ret
      exact ⟨-1, rfl, by rw [HTR.out]; rfl, hI.out⟩
set_option maxHeartbeats 400000 in
/-- 'slices.ContainsFunc' with the second closure. -/
theorem cf2_any (t : Int) (bb : Nat) (A : Option Addr) (n c : Nat) (l : List Int) (w : World) (hn : l.length = n) (hC : BC w A l) (hl : n ≤ 1099511627776) (hg : w.cell? ⟨bb, 0, none⟩ = some (.int .u8 t)) : Calls Tryz.prog 90 #[.slice A n c, .func (.func 88) #[] #[.pointer (some ⟨bb, 0, none⟩)]] w (IsPost (.bool (l.any (oth t))) w) := by
  have hix := idx2_any t bb A n c l w hn hC hl hg
  clear hn hC hl hg
  go_enter Tryz.func90, Tryz.ntmps90
  go_wp2_with fail
  refine hix.mono ?_
  rintro e w2 ⟨r, rfl, hr, hb⟩
  have HB := hid hb
  have HR := hid hr
  clear hix hr hb
  go_wp2_with fail
  go_ret
  exact ⟨by rw [← HR.out]; rfl, HB.out⟩
/-- The rule in the words of 'legal.May'. -/
theorem mayR_eq (t : Int) (l : List Int) (h0 : l ≠ []) : mayR t l = (!(sgl t || l.any sgl || decide (t = 15) || decide (6 ∈ l) || l.any (oth t)) && (decide (t ≠ 10) || (decide (l.length = 1) && decide (rd l 0 = 15)))) := by
  have hl : 0 < l.length := by cases l with | nil => exact absurd rfl h0 | cons a l => simp
  have e1 : (sgl t || l.any sgl) = lone t l := by
    unfold lone sgl
    rw [Bool.eq_iff_iff]
    simp only [Bool.or_eq_true, List.any_eq_true, decide_eq_true_eq, List.mem_cons, List.not_mem_nil, or_false]
    constructor
    · rintro (h | ⟨x, hx, rfl | rfl | rfl⟩)
      · rcases h with rfl | rfl | rfl <;> simp
      · exact .inl (.inl (.inr hx))
      · exact .inl (.inr hx)
      · exact .inr hx
    · rintro (((((rfl | rfl) | rfl) | h) | h) | h)
      · exact .inl (.inl rfl)
      · exact .inl (.inr (.inl rfl))
      · exact .inl (.inr (.inr rfl))
      · exact .inr ⟨1, h, .inl rfl⟩
      · exact .inr ⟨2, h, .inr (.inl rfl)⟩
      · exact .inr ⟨14, h, .inr (.inr rfl)⟩
  have e2 : l.any (oth t) = mixd t l := by
    unfold mixd oth isD
    rw [Bool.eq_iff_iff]
    simp only [Bool.or_eq_true, Bool.and_eq_true, List.any_eq_true, decide_eq_true_eq]
    constructor
    · rintro ⟨x, hx, rfl | rfl, hne⟩
      · exact .inl ⟨hx, fun h => hne h.symm⟩
      · exact .inr ⟨hx, fun h => hne h.symm⟩
    · rintro (⟨h, hne⟩ | ⟨h, hne⟩)
      · exact ⟨0, h, .inl rfl, fun h => hne h.symm⟩
      · exact ⟨64, h, .inr rfl, fun h => hne h.symm⟩
  have e3 : (decide (t ≠ 10) || (decide (l.length = 1) && decide (rd l 0 = 15))) = !cook t l := by
    unfold cook
    by_cases h10 : t = 10
    · by_cases h1 : l.length = 1
      · by_cases h15 : rd l 0 = 15 <;> simp [h10, h1, h15]
      · have : l.length > 1 := by omega
        simp [h10, h1, this]
    · simp [h10]
  rw [e3]
  unfold mayR last2
  rw [← e1, ← e2, decide_eq_false (show ¬ l.length = 0 by omega)]
  generalize cook t l = p1
  generalize sgl t = p2
  generalize l.any sgl = p3
  generalize decide (t = 15) = p4
  generalize decide ((6 : Int) ∈ l) = p5
  generalize l.any (oth t) = p6
  revert p1 p2 p3 p4 p5 p6
  decide
set_option maxRecDepth 100000 in
set_option maxHeartbeats 4000000 in
/-- 'legal.May'. -/
theorem lmay_any (t : Int) (A : Option Addr) (n c : Nat) (l : List Int) (w : World) (hg : GLg w) (hn : l.length = n) (hC : BC w A l) (hc : n ≤ c) (hl : n ≤ 1099511627776) : Calls Tryz.prog 55 #[.int .u8 t, .slice A n c] w (IsPost (.bool (mayR t l)) w) := by
  obtain ⟨w1, hw1⟩ : ∃ w1, w.alloc (.cells #[.int .u8 t] 5) = w1 := ⟨_, rfl⟩
  have HW := hid hw1
  have hb1 : Below w.heap.size w w1 := by rw [← hw1]; exact below_alloc (Below.refl _ _) _
  have HB1 := hid hb1
  have hbox : w1.cell? ⟨w.heap.size, 0, none⟩ = some (.int .u8 t) := by rw [← hw1]; simp
  have HBX := hid hbox
  by_cases h0 : n = 0
  · subst h0
    obtain rfl : l = [] := List.eq_nil_of_length_eq_zero hn
    have he : mayR t [] = true := by unfold mayR; simp
    rw [he]
    clear hg hC hb1 hbox
    clear hw1
    go_enter Tryz.func55, Tryz.ntmps55
    go_wp2_with fail
    go_ret
    refine ⟨rfl, ?_⟩
    rw [HW.out]
    exact HB1.out
  have hne : l ≠ [] := by rintro rfl; exact h0 hn.symm
  have hi0 : 0 < l.length := by omega
  have hr0 : rd l 0 = l[0] := rd_i l 0 hi0
  have HAT := hid (fun W (hW : Below w1.heap.size w1 W) => bc_at ((hC.below hb1).below hW) 0 hi0)
  have H1 := sgl_any t w1 (hg.below hb1)
  have H2 := hid (fun W (hW : Below w1.heap.size w1 W) => cf1_any A n c l W hn ((hC.below hb1).below hW) hl ((hg.below hb1).below hW))
  have H3 := hid (fun W (hW : Below w1.heap.size w1 W) => cont_any 6 A n c l W hn ((hC.below hb1).below hW) hc hl)
  have H4 := hid (fun W (hW : Below w1.heap.size w1 W) => cf2_any t w.heap.size A n c l W hn ((hC.below hb1).below hW) hl (pw_cell_below hW hbox))
  rw [mayR_eq t l hne, hr0]
  rw [hn]
  obtain ⟨y, hy⟩ : ∃ y, l[0] = y := ⟨_, rfl⟩
  simp only [hy] at HAT
  rw [hy]
  have HE := hid (rfl : (!(sgl t || l.any sgl || decide (t = 15) || decide (6 ∈ l) || l.any (oth t)) && (decide (t ≠ 10) || (decide (n = 1) && decide (y = 15)))) = (!(sgl t || l.any sgl || decide (t = 15) || decide (6 ∈ l) || l.any (oth t)) && (decide (t ≠ 10) || (decide (n = 1) && decide (y = 15)))))
  clear HE
  have HP : ∀ (q : Bool) (e : Ending) (w' : World), e = .returned (.bool q) → Below w1.heap.size w1 w' → IsPost (.bool q) w e w' := fun q e w' he hb => ⟨he, HB1.out.trans (hb.mono HB1.out.size)⟩
  have HPH := hid HP
  clear HP hn hC hc hl hg hw1 hb1 hbox hne hi0 hr0 hy
  obtain ⟨s1, hs1⟩ : ∃ s, sgl t = s := ⟨_, rfl⟩
  obtain ⟨s2, hs2⟩ : ∃ s, l.any sgl = s := ⟨_, rfl⟩
  obtain ⟨s3, hs3⟩ : ∃ s, decide ((6 : Int) ∈ l) = s := ⟨_, rfl⟩
  obtain ⟨s4, hs4⟩ : ∃ s, l.any (oth t) = s := ⟨_, rfl⟩
  rw [hs1] at H1
  simp only [hs2] at H2
  simp only [hs3] at H3
  simp only [hs4] at H4
  rw [hs1, hs2, hs3, hs4]
  clear hs1 hs2 hs3 hs4
  have hbr := hid (Below.refl w1.heap.size w1)
  cases s1 with
  | true =>
    go_enter Tryz.func55, Tryz.ntmps55
    go_wp2_with fail
    rw [HW.out]
    refine Calls.mono (H1) ?_
    rintro e w2 ⟨rfl, hb⟩
    have hb2 := hid (cthen hbr.out hb)
    clear hb
    go_wp2_with fail
    go_ret
    exact HPH.out _ _ _ (by simp) hb2.out
  | false =>
    go_enter Tryz.func55, Tryz.ntmps55
    go_wp2_with fail
    rw [HW.out]
    refine Calls.mono (H1) ?_
    rintro e w2 ⟨rfl, hb⟩
    have hb2 := hid (cthen hbr.out hb)
    clear hb
    clear H1
    go_wp2_with fail
    cases s2 with
    | true =>
      refine Calls.mono (H2.out _ hb2.out) ?_
      rintro e w3 ⟨rfl, hb⟩
      have hb3 := hid (cthen hb2.out hb)
      clear hb
      go_wp2_with fail
      go_ret
      exact HPH.out _ _ _ (by simp) hb3.out
    | false =>
      refine Calls.mono (H2.out _ hb2.out) ?_
      rintro e w3 ⟨rfl, hb⟩
      have hb3 := hid (cthen hb2.out hb)
      clear hb
      clear H2
      have hbx3 := pw_cell_below hb3.out HBX.out
      by_cases h15 : t = 15
      · subst h15
        go_wp2_with fail
        go_ret
        exact HPH.out _ _ _ (by simp) hb3.out
      · go_wp2_with fail
        cases s3 with
        | true =>
          refine Calls.mono (H3.out _ hb3.out) ?_
          rintro e w4 ⟨rfl, hb⟩
          have hb4 := hid (cthen hb3.out hb)
          clear hb
          go_wp2_with fail
          go_ret
          exact HPH.out _ _ _ (by simp) hb4.out
        | false =>
          refine Calls.mono (H3.out _ hb3.out) ?_
          rintro e w4 ⟨rfl, hb⟩
          have hb4 := hid (cthen hb3.out hb)
          clear hb
          clear H3
          go_wp2_with fail
          cases s4 with
          | true =>
            refine Calls.mono (H4.out _ hb4.out) ?_
            rintro e w5 ⟨rfl, hb⟩
            have hb5 := hid (cthen hb4.out hb)
            clear hb
            go_wp2_with fail
            go_ret
            exact HPH.out _ _ _ (by simp) hb5.out
          | false =>
            refine Calls.mono (H4.out _ hb4.out) ?_
            rintro e w5 ⟨rfl, hb⟩
            have hb5 := hid (cthen hb4.out hb)
            clear hb
            clear H4 hbx3
            have hbx5 := pw_cell_below hb5.out HBX.out
            by_cases h10 : t = 10
            · obtain rfl := h10
              by_cases h1 : n = 1
              · subst h1
                obtain ⟨b0, off, rfl, k0⟩ := HAT.out _ hb5.out
                rw [Nat.add_zero] at k0
                by_cases hy : y = 15
                · subst hy
                  go_wp2_with fail
                  go_ret
                  exact HPH.out _ _ _ (by simp) hb5.out
                · go_wp2_with fail
                  go_ret
                  exact HPH.out _ _ _ (by simp [hy]) hb5.out
              · go_wp2_with fail
                go_ret
                exact HPH.out _ _ _ (by simp [h1]) hb5.out
            · go_wp2_with fail
              go_ret
              exact HPH.out _ _ _ (by simp [h15, h10]) hb5.out
end Bn
end Go.Proofs.YtmfmomfhiieilaaGreatDoor
