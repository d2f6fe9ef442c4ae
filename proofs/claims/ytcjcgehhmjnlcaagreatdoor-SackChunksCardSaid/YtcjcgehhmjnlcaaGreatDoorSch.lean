/- The reference implementation's numbers: 'wharfref01.Number', 'wharfref01.Numbers'. -/
import Derived.Test.YtcjcgehhmjnlcaaGreatDoorMc
import Derived.Test.YtcjcgehhmjnlcaaGreatDoorQfo
import Derived.Test.YtcjcgehhmjnlcaaGreatDoorSmc
import Derived.Test.YtcjcgehhmjnlcaaGreatDoorSof
import Derived.Test.YtcjcgehhmjnlcaaGreatDoorSbr
import Derived.Test.YtcjcgehhmjnlcaaGreatDoorRcf
import Derived.Test.YtcjcgehhmjnlcaaGreatDoorSaw
import Derived.Test.YtcjcgehhmjnlcaaGreatDoorSam
set_option linter.unusedVariables false
set_option linter.unusedSimpArgs false
namespace Go.Proofs.YtcjcgehhmjnlcaaGreatDoor
open Go.RowKit Go.Shelf Go.Proofs.YtcjcgehhmjnlcaaGreatDoor.It Go.Proofs.YtcjcgehhmjnlcaaGreatDoorW.PrintWords Go.Proofs.YtcjcgehhmjnlcaaGreatDoorW.PrintLast Go.Proofs.YtcjcgehhmjnlcaaGreatDoorW.PrintMore
theorem peek_2 {D : List Int} {i : Nat} {a b : Int} (hi : i + 2 ≤ D.length) (h0 : D.getD i 0 = a) (h1 : D.getD (i + 1) 0 = b) : peekV 2 D i = a * 256 + b := by
  unfold peekV
  rw [if_pos (by omega)]
  simp only [numAt, Nat.add_zero, h0, h1]
  omega
theorem peek_4 {D : List Int} {i : Nat} {a b c d : Int} (hi : i + 4 ≤ D.length) (h0 : D.getD i 0 = a) (h1 : D.getD (i + 1) 0 = b) (h2 : D.getD (i + 2) 0 = c) (h3 : D.getD (i + 3) 0 = d) : peekV 4 D i = a * 16777216 + b * 65536 + c * 256 + d := by
  unfold peekV
  rw [if_pos (by omega)]
  simp only [numAt, Nat.add_zero, h0, h1, h2, h3]
  omega
theorem peek_bd {l : List Int} (h : Byt l) (k i : Nat) : 0 ≤ peekV k l i ∧ (k = 2 → peekV k l i ≤ 65535) := by
  unfold peekV
  by_cases hk : k ≤ l.length - i
  · rw [if_pos hk]
    have hb : ∀ t, t < k → 0 ≤ l.getD (i + t) 0 ∧ l.getD (i + t) 0 ≤ 255 := fun t ht => by
      rw [List.getD_eq_getElem?_getD, List.getElem?_eq_getElem (show i + t < l.length by omega)]
      exact h _ (List.getElem_mem _)
    have := numAt_bd (bs := fun t => l.getD t 0) hb k (Nat.le_refl _)
    refine ⟨this.1, fun h2 => ?_⟩
    subst h2
    have h3 := this.2
    omega
  · rw [if_neg hk]
    exact ⟨by omega, fun _ => by omega⟩
theorem byt_at {D : List Int} (h : Byt D) (i : Nat) (hi : i < D.length) : 0 ≤ D.getD i 0 ∧ D.getD i 0 ≤ 255 := by
  rw [List.getD_eq_getElem?_getD, List.getElem?_eq_getElem hi]
  exact h _ (List.getElem_mem hi)
section
open PForwardChunks
theorem rd_at (D : List Int) (i : Nat) : rd D (i : Int) = D.getD i 0 := by simp [rd]
theorem num_step (a b : Int) (ha : 0 ≤ a) (hb : a * 256 + b ≤ 4294967295) (h0 : 0 ≤ b) (h1 : b ≤ 255) : ((a * 256 % 4294967296) + b % 4294967296) % 4294967296 = a * 256 + b := by omega
theorem number4_f {D : List Int} (hB : Byt D) (i : Nat) (hi : i + 4 ≤ D.length) (hl : D.length ≤ 1000000) : Ev (fun k => wharfref01_Number.f k D (i : Int) 4) (peekV 4 D i, true) := by
  have h0 := byt_at hB i (by omega)
  have h1 := byt_at hB (i + 1) (by omega)
  have h2 := byt_at hB (i + 2) (by omega)
  have h3 := byt_at hB (i + 3) (by omega)
  have w0 : wrap64 ((i : Int) + 0) = ((i : Nat) : Int) := by unfold wrap64; omega
  have w1 : wrap64 ((i : Int) + 1) = ((i + 1 : Nat) : Int) := by unfold wrap64; omega
  have w2 : wrap64 ((i : Int) + 2) = ((i + 2 : Nat) : Int) := by unfold wrap64; omega
  have w3 : wrap64 ((i : Int) + 3) = ((i + 3 : Nat) : Int) := by unfold wrap64; omega
  have w4 : wrap64 ((i : Int) + 4) = ((i + 4 : Nat) : Int) := by unfold wrap64; omega
  have W0 := hid w0
  have W1 := hid w1
  have W2 := hid w2
  have W3 := hid w3
  have W4 := hid w4
  clear w0 w1 w2 w3 w4
  have c0 : ((i : Nat) : Int) < (D.length : Int) := by omega
  have c1 : ((i + 1 : Nat) : Int) < (D.length : Int) := by omega
  have c2 : ((i + 2 : Nat) : Int) < (D.length : Int) := by omega
  have c3 : ((i + 3 : Nat) : Int) < (D.length : Int) := by omega
  have c4 : ¬ (((i + 4 : Nat) : Int) > (D.length : Int)) := by omega
  have z0 : (0 : Int) ≤ ((i : Nat) : Int) := by omega
  have z1 : (0 : Int) ≤ ((i + 1 : Nat) : Int) := by omega
  have z2 : (0 : Int) ≤ ((i + 2 : Nat) : Int) := by omega
  have z3 : (0 : Int) ≤ ((i + 3 : Nat) : Int) := by omega
  have e1 : wrap64 ((0 : Int) + 1) = 1 := by simp [wrap64]
  have e2 : wrap64 ((1 : Int) + 1) = 2 := by simp [wrap64]
  have e3 : wrap64 ((2 : Int) + 1) = 3 := by simp [wrap64]
  have e4 : wrap64 ((3 : Int) + 1) = 4 := by simp [wrap64]
  obtain ⟨a, ha⟩ : ∃ a, a = D.getD i 0 := ⟨_, rfl⟩
  obtain ⟨b, hb⟩ : ∃ b, b = D.getD (i + 1) 0 := ⟨_, rfl⟩
  obtain ⟨c, hc⟩ : ∃ c, c = D.getD (i + 2) 0 := ⟨_, rfl⟩
  obtain ⟨d, hd⟩ : ∃ d, d = D.getD (i + 3) 0 := ⟨_, rfl⟩
  rw [peek_4 hi ha.symm hb.symm hc.symm hd.symm]
  rw [← ha] at h0
  rw [← hb] at h1
  rw [← hc] at h2
  rw [← hd] at h3
  have hr : a * 16777216 + b * 65536 + c * 256 + d = ((a * 256 + b) * 256 + c) * 256 + d := by omega
  have n0 := num_step 0 a (by omega) (by omega) h0.1 h0.2
  have n1 := num_step a b (by omega) (by omega) h1.1 h1.2
  have n2 := num_step (a * 256 + b) c (by omega) (by omega) h2.1 h2.2
  have n3 := num_step ((a * 256 + b) * 256 + c) d (by omega) (by omega) h3.1 h3.2
  simp only [Int.zero_mul, Int.zero_add] at n0
  rw [hr]
  have s4 : Ev (fun k => wharfref01_Number.l0 k D (i : Int) 4 (((a * 256 + b) * 256 + c) * 256 + d) 4) (((a * 256 + b) * 256 + c) * 256 + d, true) := Ev.step (f := fun _ => some (((a * 256 + b) * 256 + c) * 256 + d, true)) (fun k => by simp only [wharfref01_Number.l0]; rw [if_neg (by decide)]) (Ev.now _)
  have s3 : Ev (fun k => wharfref01_Number.l0 k D (i : Int) 4 ((a * 256 + b) * 256 + c) 3) (((a * 256 + b) * 256 + c) * 256 + d, true) := Ev.step (fun k => by simp only [wharfref01_Number.l0]; rw [if_pos (by decide), W3.out, if_pos z3, if_pos c3, e4, rd_at, ← hd, n3]) s4
  have s2 : Ev (fun k => wharfref01_Number.l0 k D (i : Int) 4 (a * 256 + b) 2) (((a * 256 + b) * 256 + c) * 256 + d, true) := Ev.step (fun k => by simp only [wharfref01_Number.l0]; rw [if_pos (by decide), W2.out, if_pos z2, if_pos c2, e3, rd_at, ← hc, n2]) s3
  have s1 : Ev (fun k => wharfref01_Number.l0 k D (i : Int) 4 a 1) (((a * 256 + b) * 256 + c) * 256 + d, true) := Ev.step (fun k => by simp only [wharfref01_Number.l0]; rw [if_pos (by decide), W1.out, if_pos z1, if_pos c1, e2, rd_at, ← hb, n1]) s2
  have s0 : Ev (fun k => wharfref01_Number.l0 k D (i : Int) 4 0 0) (((a * 256 + b) * 256 + c) * 256 + d, true) := Ev.step (fun k => by simp only [wharfref01_Number.l0]; rw [if_pos (by decide), W0.out, if_pos z0, if_pos c0, e1, rd_at, ← ha, Int.zero_mul, show (0 : Int) % 4294967296 = 0 from rfl, Int.zero_add, show a % 4294967296 % 4294967296 = a by omega]) s1
  have sj : Ev (fun k => wharfref01_Number.j0 k D (i : Int) 4 false) (((a * 256 + b) * 256 + c) * 256 + d, true) := Ev.step (fun k => by simp only [wharfref01_Number.j0]; rw [if_neg (by decide)]) s0
  refine Ev.congr (fun k => ?_) sj
  unfold wharfref01_Number.f wharfref01_Right.f
  rw [if_neg (by decide), if_neg (by decide), Option.bind_some, if_pos (by decide), W4.out, decide_eq_false c4]
theorem number2_f {D : List Int} (hB : Byt D) (i : Nat) (hi : i + 2 ≤ D.length) (hl : D.length ≤ 1000000) : Ev (fun k => wharfref01_Number.f k D (i : Int) 2) (peekV 2 D i, true) := by
  have h0 := byt_at hB i (by omega)
  have h1 := byt_at hB (i + 1) (by omega)
  have w0 : wrap64 ((i : Int) + 0) = ((i : Nat) : Int) := by unfold wrap64; omega
  have w1 : wrap64 ((i : Int) + 1) = ((i + 1 : Nat) : Int) := by unfold wrap64; omega
  have w2 : wrap64 ((i : Int) + 2) = ((i + 2 : Nat) : Int) := by unfold wrap64; omega
  have W0 := hid w0
  have W1 := hid w1
  have W2 := hid w2
  clear w0 w1 w2
  have c0 : ((i : Nat) : Int) < (D.length : Int) := by omega
  have c1 : ((i + 1 : Nat) : Int) < (D.length : Int) := by omega
  have c2 : ¬ (((i + 2 : Nat) : Int) > (D.length : Int)) := by omega
  have z0 : (0 : Int) ≤ ((i : Nat) : Int) := by omega
  have z1 : (0 : Int) ≤ ((i + 1 : Nat) : Int) := by omega
  have e1 : wrap64 ((0 : Int) + 1) = 1 := by simp [wrap64]
  have e2 : wrap64 ((1 : Int) + 1) = 2 := by simp [wrap64]
  obtain ⟨a, ha⟩ : ∃ a, a = D.getD i 0 := ⟨_, rfl⟩
  obtain ⟨b, hb⟩ : ∃ b, b = D.getD (i + 1) 0 := ⟨_, rfl⟩
  rw [peek_2 hi ha.symm hb.symm]
  rw [← ha] at h0
  rw [← hb] at h1
  have n1 := num_step a b (by omega) (by omega) h1.1 h1.2
  have s2 : Ev (fun k => wharfref01_Number.l0 k D (i : Int) 2 (a * 256 + b) 2) (a * 256 + b, true) := Ev.step (f := fun _ => some (a * 256 + b, true)) (fun k => by simp only [wharfref01_Number.l0]; rw [if_neg (by decide)]) (Ev.now _)
  have s1 : Ev (fun k => wharfref01_Number.l0 k D (i : Int) 2 a 1) (a * 256 + b, true) := Ev.step (fun k => by simp only [wharfref01_Number.l0]; rw [if_pos (by decide), W1.out, if_pos z1, if_pos c1, e2, rd_at, ← hb, n1]) s2
  have s0 : Ev (fun k => wharfref01_Number.l0 k D (i : Int) 2 0 0) (a * 256 + b, true) := Ev.step (fun k => by simp only [wharfref01_Number.l0]; rw [if_pos (by decide), W0.out, if_pos z0, if_pos c0, e1, rd_at, ← ha, Int.zero_mul, show (0 : Int) % 4294967296 = 0 from rfl, Int.zero_add, show a % 4294967296 % 4294967296 = a by omega]) s1
  have sj : Ev (fun k => wharfref01_Number.j0 k D (i : Int) 2 false) (a * 256 + b, true) := Ev.step (fun k => by simp only [wharfref01_Number.j0]; rw [if_neg (by decide)]) s0
  refine Ev.congr (fun k => ?_) sj
  unfold wharfref01_Number.f wharfref01_Right.f
  simp only [show ((2 : Int) = 1) = False by simp, if_false, if_true]
  rw [Option.bind_some, if_pos (by decide), W2.out, decide_eq_false c2]
theorem rnum_any (k : Nat) (hk : k = 2 ∨ k = 4) (A : Option Addr) (c i : Nat) (D : List Int) (w : World) (hC : BC w A D) (hB : Byt D) (hc : D.length ≤ c) (hi : i + k ≤ D.length) (hl : D.length ≤ 1000000) :
    Calls Tryz.prog 78 #[.slice A D.length c, .int .i64 (i : Int), .int .i64 (k : Int)] w (IsPost (.tuple #[.int .u32 (peekV k D i), .bool true]) w) := by
  have hev : Ev (fun q => wharfref01_Number.f q D (i : Int) (k : Int)) (peekV k D i, true) := by
    rcases hk with rfl | rfl
    · exact number2_f hB i hi hl
    · exact number4_f hB i hi hl
  obtain ⟨q, hq⟩ := hev.rounds
  exact (wharfref01_Number.calls q A c D i k (peekV k D i) true w hC hc hq).mono (fun e w' h => ⟨h.1, h.2.below⟩)
def words (D : List Int) (n : Nat) : List Int := (List.range n).map (fun j => peekV 4 D (4 * j))
theorem words_len (D : List Int) (n : Nat) : (words D n).length = n := by simp [words]
theorem words_at (D : List Int) (n j : Nat) (h : j < n) : (words D n).getD j 0 = peekV 4 D (4 * j) := by
  unfold words
  rw [List.getD_eq_getElem?_getD, List.getElem?_map, List.getElem?_range h]
  rfl
theorem words_step (D : List Int) (n : Nat) : words D (n + 1) = words D n ++ [peekV 4 D (4 * n)] := by
  unfold words
  rw [List.range_succ, List.map_append]
  rfl
theorem numbers_ev {D : List Int} (hB : Byt D) (q : Nat) (hq : D.length = 4 * q) (hl : D.length ≤ 1000000) : ∀ (d j : Nat), q - j = d → j ≤ q → Ev (fun k => wharfref01_Numbers.l0 k 4 D (words D j) ((4 * j : Nat) : Int)) (words D q) := by
  intro d
  induction d with
  | zero =>
    intro j hd hj
    obtain rfl : j = q := by omega
    refine Ev.step (f := fun _ => some (words D j)) (fun k => ?_) (Ev.now _)
    simp only [wharfref01_Numbers.l0]
    rw [if_neg (by omega)]
  | succ d ih =>
    intro j hd hj
    have h1 := ih (j + 1) (by omega) (by omega)
    have hev := number4_f hB (4 * j) (by omega) hl
    have hw : wrap64 (((4 * j : Nat) : Int) + 4) = ((4 * (j + 1) : Nat) : Int) := by unfold wrap64; omega
    have hw' := hid hw
    clear hw
    rw [words_step] at h1
    have hln : (words D j).length < 35184372088832 := by rw [words_len]; omega
    have hlt : ((4 * j : Nat) : Int) < (D.length : Int) := by omega
    refine Ev.step (fun k => ?_) (Ev.bind (f := fun k (t : Int × Bool) => wharfref01_Numbers.l0 k 4 D (words D j ++ [t.1]) ((4 * (j + 1) : Nat) : Int)) hev h1)
    simp only [wharfref01_Numbers.l0]
    rw [if_pos hlt, hw'.out]
    simp only [hln, if_true]
end
theorem peek42 {D : List Int} (hB : Byt D) {i : Nat} (hi : i + 4 ≤ D.length) : peekV 4 D i = peekV 2 D i * 65536 + peekV 2 D (i + 2) := by
  rw [peek_4 hi rfl rfl rfl rfl, peek_2 (by omega) rfl rfl, peek_2 (i := i + 2) (by omega) rfl rfl]
  rw [show i + 2 + 1 = i + 3 by omega]
  omega
end Go.Proofs.YtcjcgehhmjnlcaaGreatDoor
/- The bytes of a sack are those of a row of 32-bit numbers; the description that they have; their check. -/
set_option linter.unusedVariables false
set_option linter.unusedSimpArgs false
namespace Go.Proofs.YtcjcgehhmjnlcaaGreatDoor
open Go.RowKit Go.Shelf Go.Proofs.YtcjcgehhmjnlcaaGreatDoor.It Go.Proofs.YtcjcgehhmjnlcaaGreatDoorW.PrintWords Go.Proofs.YtcjcgehhmjnlcaaGreatDoorW.PrintLast Go.Proofs.YtcjcgehhmjnlcaaGreatDoorW.PrintMore
namespace Sk14
theorem b4_at : ∀ (xs : List Int) (i j : Nat), i < xs.length → j < 4 → (xs.flatMap b4).getD (i * 4 + j) 0 = (b4 (xs.getD i 0)).getD j 0 := by
  intro xs
  induction xs with
  | nil => intro i j h; simp at h
  | cons x xs ih =>
    intro i j hi hj
    rw [List.flatMap_cons]
    rcases i with _ | i
    · rw [List.getD_eq_getElem?_getD, List.getElem?_append_left (by simp [b4]; omega)]
      simp
    · rw [List.getD_eq_getElem?_getD, List.getElem?_append_right (by simp [b4]; omega), ← List.getD_eq_getElem?_getD]
      rw [show (i + 1) * 4 + j - (b4 x).length = i * 4 + j by simp [b4]; omega, ih i j (by simpa using hi) hj]
      simp
theorem numAt4 (bs : Nat → Int) (i : Nat) : numAt bs i 4 = ((bs i * 256 + bs (i + 1)) * 256 + bs (i + 2)) * 256 + bs (i + 3) := by
  simp [numAt]
/-- A gap as one number. -/
def pk (g : Gp) : Int := g.f0 * 65536 + g.f1
def wds (cu wi : Int) (G : List Gp) (D : List Int) : List Int := [cu, wi, (G.length : Int) * 65536 + (D.length : Int)] ++ G.map pk ++ D
theorem pk_b4 {g : Gp} (h : g.ok) : gB g = b4 (pk g) := by
  obtain ⟨h0, h1, h2, h3⟩ := h
  unfold gB pk b4 b2
  simp
  refine ⟨?_, ?_, ?_, ?_⟩ <;> omega
theorem map_b4 : ∀ (G : List Gp), (∀ g ∈ G, g.ok) → G.flatMap gB = (G.map pk).flatMap b4 := by
  intro G
  induction G with
  | nil => intro _; rfl
  | cons g G ih =>
    intro h
    rw [List.flatMap_cons, List.map_cons, List.flatMap_cons, pk_b4 (h g (by simp)), ih (fun x hx => h x (by simp [hx]))]
theorem hd_b4 {n m : Nat} (hn : n ≤ 65535) (hm : m ≤ 65535) : b2 (IntKind.u32.wrap (n : Int)) ++ b2 (IntKind.u32.wrap (m : Int)) = b4 ((n : Int) * 65536 + (m : Int)) := by
  have e : ∀ x : Int, IntKind.u32.wrap x = x % 4294967296 := fun x => rfl
  rw [e, e]
  unfold b4 b2
  simp
  refine ⟨?_, ?_, ?_, ?_⟩ <;> omega
theorem smd_words (cu wi : Int) (G : List Gp) (D : List Int) (hG : ∀ g ∈ G, g.ok) (hn : G.length ≤ 65535) (hm : D.length ≤ 65535) : sMd cu wi G D = (wds cu wi G D).flatMap b4 := by
  unfold sMd sHd wds
  rw [hd_b4 hn hm, map_b4 G hG, List.flatMap_append, List.flatMap_append]
  simp [List.flatMap_cons]
end Sk14
end Go.Proofs.YtcjcgehhmjnlcaaGreatDoor
/- Plain facts: what is read of a right sack's data, by both; the bytes written anew out of it. -/
set_option linter.unusedVariables false
set_option linter.unusedSimpArgs false
namespace Go.Proofs.YtcjcgehhmjnlcaaGreatDoor
open Go.RowKit Go.Shelf Go.Proofs.YtcjcgehhmjnlcaaGreatDoor.It Go.Proofs.YtcjcgehhmjnlcaaGreatDoorW.PrintWords Go.Proofs.YtcjcgehhmjnlcaaGreatDoorW.PrintLast Go.Proofs.YtcjcgehhmjnlcaaGreatDoorW.PrintMore
namespace Sk14
theorem ext_gd {l m : List Int} (hl : l.length = m.length) (h : ∀ i, i < l.length → l.getD i 0 = m.getD i 0) : l = m := by
  apply List.ext_getElem hl
  intro i h1 h2
  have := h i h1
  rw [List.getD_eq_getElem?_getD, List.getD_eq_getElem?_getD, List.getElem?_eq_getElem h1, List.getElem?_eq_getElem h2] at this
  exact this
theorem b4_pk {D : List Int} (hB : Byt D) {i : Nat} (hi : i + 4 ≤ D.length) : b4 (peekV 4 D i) = [D.getD i 0, D.getD (i + 1) 0, D.getD (i + 2) 0, D.getD (i + 3) 0] := by
  have h0 := byt_at hB i (by omega)
  have h1 := byt_at hB (i + 1) (by omega)
  have h2 := byt_at hB (i + 2) (by omega)
  have h3 := byt_at hB (i + 3) (by omega)
  rw [peek_4 hi rfl rfl rfl rfl]
  unfold b4
  simp only [List.cons.injEq, and_true]
  omega
/-- A gap as the reference implementation reads it. -/
def rG (D : List Int) (j : Nat) : Gp := ⟨peekV 2 D (12 + 4 * j), peekV 2 D (14 + 4 * j)⟩
def rGs (D : List Int) (n : Nat) : List Gp := (List.range n).map (rG D)
theorem rGs_len (D : List Int) (n : Nat) : (rGs D n).length = n := by simp [rGs]
theorem rGs_step (D : List Int) (i : Nat) : rGs D (i + 1) = rGs D i ++ [rG D i] := by
  unfold rGs
  rw [List.range_succ, List.map_append]
  rfl
theorem sW_words (D : List Int) : sW D = words D (D.length / 4) := by
  unfold sW numsOf words upto
  rw [List.map_map]
  apply List.map_congr_left
  intro j hj
  have hj := List.mem_range.1 hj
  show numAt _ (j * 4) 4 = peekV 4 D (4 * j)
  unfold peekV
  rw [if_pos (by omega), Nat.mul_comm]
theorem peek_drop4 (D : List Int) (i j : Nat) : peekV 4 (D.drop i) j = peekV 4 D (i + j) := by
  unfold peekV
  rw [List.length_drop, show D.length - i - j = D.length - (i + j) by omega]
  have : numAt (fun t => (D.drop i).getD t 0) j 4 = numAt (fun t => D.getD t 0) (i + j) 4 := by
    rw [numAt4, numAt4]
    have g : ∀ t, (D.drop i).getD t 0 = D.getD (i + t) 0 := fun t => by rw [List.getD_eq_getElem?_getD, List.getD_eq_getElem?_getD, List.getElem?_drop]
    simp only [g, Nat.add_assoc]
  rw [this]
theorem words_drop (D : List Int) (a b : Nat) : (words D (a + b)).drop a = words (D.drop (4 * a)) b := by
  apply ext_gd (by simp [words])
  intro i hi
  have hi2 : i < b := by simp [words] at hi; omega
  rw [words_at _ _ _ hi2, peek_drop4, List.getD_eq_getElem?_getD, List.getElem?_drop, ← List.getD_eq_getElem?_getD, words_at _ _ _ (by omega)]
  congr 1
  omega
theorem words_flat {D : List Int} (hB : Byt D) (q : Nat) (hq : D.length = 4 * q) : (words D q).flatMap b4 = D := by
  apply ext_gd (by rw [flat_b4, words_len, hq])
  intro i hi
  rw [flat_b4, words_len] at hi
  have h := b4_at (words D q) (i / 4) (i % 4) (by rw [words_len]; omega) (by omega)
  rw [show i / 4 * 4 + i % 4 = i by omega] at h
  rw [h, words_at _ _ _ (by omega), b4_pk hB (by omega)]
  have h4 : i % 4 = 0 ∨ i % 4 = 1 ∨ i % 4 = 2 ∨ i % 4 = 3 := by omega
  rcases h4 with e | e | e | e
  · rw [e, show (4 * (i / 4)) = i by omega]; rfl
  · rw [e, show (4 * (i / 4)) = i - 1 by omega]
    show D.getD (i - 1 + 1) 0 = _
    rw [show i - 1 + 1 = i by omega]
  · rw [e, show (4 * (i / 4)) = i - 2 by omega]
    show D.getD (i - 2 + 2) 0 = _
    rw [show i - 2 + 2 = i by omega]
  · rw [e, show (4 * (i / 4)) = i - 3 by omega]
    show D.getD (i - 3 + 3) 0 = _
    rw [show i - 3 + 3 = i by omega]
theorem rG_ok {D : List Int} (hB : Byt D) (j : Nat) : (rG D j).ok := by
  have a := peek_bd hB 2 (12 + 4 * j)
  have b := peek_bd hB 2 (14 + 4 * j)
  exact ⟨a.1, a.2 rfl, b.1, b.2 rfl⟩
theorem rGs_ok {D : List Int} (hB : Byt D) (n : Nat) : ∀ g ∈ rGs D n, g.ok := by
  intro g hg
  unfold rGs at hg
  obtain ⟨j, -, rfl⟩ := List.mem_map.1 hg
  exact rG_ok hB j
/-- What a right sack's data is. -/
structure Sk (D : List Int) (n q : Nat) : Prop where
  byt : Byt D
  len : D.length = 12 + 4 * n + 4 * q
  le : D.length ≤ 65531
  gn : peekV 2 D 8 = (n : Int)
  dn : peekV 2 D 10 = (q : Int)
section
variable {D : List Int} {n q : Nat} (h : Sk D n q)
include h
theorem Sk.words : sW D = words D (3 + n + q) := by
  rw [sW_words]
  congr 1
  have := h.len
  omega
theorem Sk.w2 : peekV 4 D 8 = (n : Int) * 65536 + (q : Int) := by
  have := h.len
  rw [peek42 h.byt (by omega), h.gn, h.dn]
theorem Sk.sn : sN D = n := by
  unfold sN
  rw [h.words, words_at _ _ _ (by omega), h.w2]
  have := h.len
  have := h.le
  omega
theorem Sk.w0 : (sW D).getD 0 0 = peekV 4 D 0 := by rw [h.words, words_at _ _ _ (by omega)]
theorem Sk.w1 : (sW D).getD 1 0 = peekV 4 D 4 := by rw [h.words, words_at _ _ _ (by omega)]
theorem Sk.dups : (sW D).drop (3 + sN D) = _root_.Go.Proofs.YtcjcgehhmjnlcaaGreatDoor.words (D.drop (12 + 4 * n)) q := by
  rw [h.sn, h.words, words_drop]
  congr 2
  omega
theorem Sk.gaps : sGs D (sN D) = rGs D n := by
  rw [h.sn]
  unfold sGs
  rw [h.words, show 3 + n + q = 3 + (n + q) by omega, words_drop]
  have e : (_root_.Go.Proofs.YtcjcgehhmjnlcaaGreatDoor.words (D.drop (4 * 3)) (n + q)).take n = (List.range n).map (fun j => peekV 4 D (12 + 4 * j)) := by
    apply ext_gd (by simp [_root_.Go.Proofs.YtcjcgehhmjnlcaaGreatDoor.words])
    intro i hi
    have hi2 : i < n := by simp [_root_.Go.Proofs.YtcjcgehhmjnlcaaGreatDoor.words] at hi; omega
    rw [List.getD_eq_getElem?_getD, List.getElem?_take_of_lt hi2, ← List.getD_eq_getElem?_getD, words_at _ _ _ (by omega), peek_drop4, List.getD_eq_getElem?_getD, List.getElem?_map, List.getElem?_range hi2]
    rfl
  rw [e, List.map_map]
  unfold rGs
  apply List.map_congr_left
  intro j hj
  have hj := List.mem_range.1 hj
  have hl := h.len
  show sG (peekV 4 D (12 + 4 * j)) = rG D j
  have a := peek_bd h.byt 2 (12 + 4 * j)
  have b := peek_bd h.byt 2 (14 + 4 * j)
  have a2 := a.2 rfl
  have b2 := b.2 rfl
  have e16 : ∀ x : Int, IntKind.u16.wrap x = x % 65536 := fun x => rfl
  unfold sG rG
  rw [peek42 h.byt (by omega), show 12 + 4 * j + 2 = 14 + 4 * j by omega, e16, e16]
  congr 1 <;> omega
theorem Sk.made : sMd (peekV 4 D 0) (peekV 4 D 4) (rGs D n) (_root_.Go.Proofs.YtcjcgehhmjnlcaaGreatDoor.words (D.drop (12 + 4 * n)) q) = D := by
  have hl := h.len
  have hle := h.le
  rw [smd_words _ _ _ _ (rGs_ok h.byt n) (by rw [rGs_len]; omega) (by rw [words_len]; omega)]
  have : wds (peekV 4 D 0) (peekV 4 D 4) (rGs D n) (_root_.Go.Proofs.YtcjcgehhmjnlcaaGreatDoor.words (D.drop (12 + 4 * n)) q) = _root_.Go.Proofs.YtcjcgehhmjnlcaaGreatDoor.words D (3 + n + q) := by
    unfold wds
    rw [rGs_len, words_len, ← h.w2]
    have e1 : _root_.Go.Proofs.YtcjcgehhmjnlcaaGreatDoor.words (D.drop (12 + 4 * n)) q = (_root_.Go.Proofs.YtcjcgehhmjnlcaaGreatDoor.words D (3 + n + q)).drop (3 + n) := by
      rw [words_drop]
      congr 2
      omega
    have e2 : [peekV 4 D 0, peekV 4 D 4, peekV 4 D 8] ++ (rGs D n).map pk = (_root_.Go.Proofs.YtcjcgehhmjnlcaaGreatDoor.words D (3 + n + q)).take (3 + n) := by
      apply ext_gd (by simp [_root_.Go.Proofs.YtcjcgehhmjnlcaaGreatDoor.words, rGs]; omega)
      intro i hi
      have hi2 : i < 3 + n := by simp [rGs] at hi; omega
      rw [List.getD_eq_getElem?_getD (l := List.take _ _), List.getElem?_take_of_lt hi2, ← List.getD_eq_getElem?_getD, words_at _ _ _ (by omega)]
      rcases i with _ | _ | _ | j
      · rfl
      · rfl
      · rfl
      · have hj : j < n := by omega
        rw [show j + 1 + 1 + 1 = 3 + j by omega, List.getD_eq_getElem?_getD, List.getElem?_append_right (by simp), show 3 + j - [peekV 4 D 0, peekV 4 D 4, peekV 4 D 8].length = j by simp]
        unfold rGs
        rw [List.getElem?_map, List.getElem?_map, List.getElem?_range hj]
        show pk (rG D j) = _
        unfold pk rG
        rw [show 4 * (3 + j) = 12 + 4 * j by omega, peek42 h.byt (by omega), show 12 + 4 * j + 2 = 14 + 4 * j by omega]
    rw [e1, e2, List.take_append_drop]
  rw [this]
  exact words_flat h.byt _ (by omega)
end
end Sk14
end Go.Proofs.YtcjcgehhmjnlcaaGreatDoor
/- 'wharfref14.Of', by hand. -/
set_option linter.unusedVariables false
set_option linter.unusedSimpArgs false
namespace Go.Proofs.YtcjcgehhmjnlcaaGreatDoor
open Go.RowKit Go.Shelf Go.Proofs.YtcjcgehhmjnlcaaGreatDoor.It Go.Proofs.YtcjcgehhmjnlcaaGreatDoorW.PrintWords Go.Proofs.YtcjcgehhmjnlcaaGreatDoorW.PrintLast Go.Proofs.YtcjcgehhmjnlcaaGreatDoorW.PrintMore
namespace Sk14
theorem rnums_own (A : Option Addr) (c q : Nat) (D : List Int) (w : World) (hC : BC w A D) (hB : Byt D) (hc : D.length ≤ c) (hq : D.length = 4 * q) (hl : D.length ≤ 1000000) :
    Calls Tryz.prog 79 #[.int .i64 4, .slice A D.length c] w fun e w' => ∃ A' c', e = .returned (.slice A' q c') ∧ OwnU w' w.heap.size (.slice A' q c') (words D q) ∧ Below w.heap.size w w' := by
  obtain ⟨k, hk⟩ := (numbers_ev hB q hq hl q 0 (by omega) (by omega)).rounds
  have hf : PForwardChunks.wharfref01_Numbers.f (k + 1) 4 D = some (words D q) := by
    unfold PForwardChunks.wharfref01_Numbers.f PForwardChunks.wharfref01_Right.f
    rw [if_neg (by decide), if_neg (by decide), Option.bind_some, if_pos (by decide), if_neg (by decide)]
    have : ((D.length : Int) % 4 != 0) = false := by simp; omega
    rw [this]
    simp only [PForwardChunks.wharfref01_Numbers.j0]
    simpa [words] using hk
  refine (PForwardChunks.wharfref01_Numbers.calls (k + 1) 4 A c D (words D q) w hC hc hf).mono ?_
  rintro e w' ⟨v, rfl, hR, hb⟩
  have ho : OwnU w' w.heap.size v (words D q) := Kd.own_of_R hR
  obtain ⟨A', c', rfl, -, -⟩ := ownU_read ho
  rw [words_len] at ho ⊢
  exact ⟨A', c', rfl, ho, hb⟩
def RsfPost (D : List Int) (n q : Nat) (w : World) (e : Ending) (w' : World) : Prop := ∃ v A c, e = .returned (.agg #[.int .u32 (peekV 4 D 0), .int .u32 (peekV 4 D 4), v, .slice A q c]) ∧ OwnG 94 w' w.heap.size v (rGs D n) ∧ OwnU w' w.heap.size (.slice A q c) (words (D.drop (12 + 4 * n)) q) ∧ Below w.heap.size w w'
structure RfI (w : World) (bx : Array Value) (x0 x1 : Int) (v : Value) (l : List Gp) (W : World) : Prop where
  bel : Below w.heap.size w W
  box : W.heap[w.heap.size]? = some (.cells bx 35 (0, 0))
  zero : W.heap[w.heap.size + 1]? = some reZ
  out : W.heap[w.heap.size + 2]? = some (.cells #[.int .u32 x0, .int .u32 x1, v, .slice none 0 0] 44 (0, 0))
  row : OwnG 94 W (w.heap.size + 3) v l
  sz : w.heap.size + 3 ≤ W.heap.size
theorem RfI.below {w : World} {bx : Array Value} {x0 x1 : Int} {v : Value} {l : List Gp} {W W' : World} (h : RfI w bx x0 x1 v l W) (hb : Below W.heap.size W W') : RfI w bx x0 x1 v l W' :=
  ⟨cthen h.bel hb, blk_below h.box hb, blk_below h.zero hb, blk_below h.out hb, row_kept h.row hb, Nat.le_trans h.sz hb.size⟩
theorem RfI.step {w : World} {bx : Array Value} {x0 x1 : Int} {v v' : Value} {l l' : List Gp} {W W' : World} (h : RfI w bx x0 x1 v l W) (h1 : W'.heap[w.heap.size + 2]? = some (.cells #[.int .u32 x0, .int .u32 x1, v', .slice none 0 0] 44 (0, 0))) (h2 : OwnG 94 W' (w.heap.size + 3) v' l') (hk : Kpt 94 (w.heap.size + 2) W W') : RfI w bx x0 x1 v' l' W' :=
  ⟨h.bel.trans (hk.bel.mono (by omega)), hk.keep _ _ h.box (by omega) (by intro cs fr e; injection e with _ e; exact absurd e (by decide)), hk.keep _ _ h.zero (by omega) (by intro cs fr e; unfold reZ at e; injection e with _ e; exact absurd e (by decide)), h1, h2, Nat.le_trans h.sz hk.bel.size⟩
/-- What holds when the description has been handed over. -/
theorem rsf_fin {w wr w8 : World} {bx : Array Value} {x0 x1 : Int} {v u : Value} {l : List Gp} {U : List Int} (h : RfI w bx x0 x1 v l w8) (hs : w.heap.size + 3 ≤ wr.heap.size) (hu : OwnU w8 wr.heap.size u U) (a0 a1 a2 a3 : Value) :
    OwnG 94 (((((w8.setCell ⟨w.heap.size + 1 + 1, 3, none⟩ u).setCell ⟨w.heap.size + 1, 0, none⟩ a0).setCell ⟨w.heap.size + 1, 1, none⟩ a1).setCell ⟨w.heap.size + 1, 2, none⟩ a2).setCell ⟨w.heap.size + 1, 3, none⟩ a3) w.heap.size v l
    ∧ OwnU (((((w8.setCell ⟨w.heap.size + 1 + 1, 3, none⟩ u).setCell ⟨w.heap.size + 1, 0, none⟩ a0).setCell ⟨w.heap.size + 1, 1, none⟩ a1).setCell ⟨w.heap.size + 1, 2, none⟩ a2).setCell ⟨w.heap.size + 1, 3, none⟩ a3) w.heap.size u U
    ∧ Below w.heap.size w (((((w8.setCell ⟨w.heap.size + 1 + 1, 3, none⟩ u).setCell ⟨w.heap.size + 1, 0, none⟩ a0).setCell ⟨w.heap.size + 1, 1, none⟩ a1).setCell ⟨w.heap.size + 1, 2, none⟩ a2).setCell ⟨w.heap.size + 1, 3, none⟩ a3)
    ∧ ((((((w8.setCell ⟨w.heap.size + 1 + 1, 3, none⟩ u).setCell ⟨w.heap.size + 1, 0, none⟩ a0).setCell ⟨w.heap.size + 1, 1, none⟩ a1).setCell ⟨w.heap.size + 1, 2, none⟩ a2).setCell ⟨w.heap.size + 1, 3, none⟩ a3)).heap[w.heap.size + 1]? = some (.cells #[a0, a1, a2, a3] 44 (0, 0)) := by
  have h1 : ∀ k, (⟨w.heap.size + 1, k, none⟩ : Addr).block < w.heap.size + 3 := fun k => by show w.heap.size + 1 < w.heap.size + 3; omega
  have h2 : ∀ k, (⟨w.heap.size + 1 + 1, k, none⟩ : Addr).block < w.heap.size + 3 := fun k => by show w.heap.size + 1 + 1 < w.heap.size + 3; omega
  have g1 : ∀ k, (⟨w.heap.size + 1, k, none⟩ : Addr).block < wr.heap.size := fun k => Nat.lt_of_lt_of_le (h1 k) hs
  have g2 : ∀ k, (⟨w.heap.size + 1 + 1, k, none⟩ : Addr).block < wr.heap.size := fun k => Nat.lt_of_lt_of_le (h2 k) hs
  have b1 : ∀ k, w.heap.size ≤ (⟨w.heap.size + 1, k, none⟩ : Addr).block := fun k => Nat.le_add_right _ _
  have b2 : ∀ k, w.heap.size ≤ (⟨w.heap.size + 1 + 1, k, none⟩ : Addr).block := fun k => by show w.heap.size ≤ w.heap.size + 1 + 1; omega
  refine ⟨?_, ?_, ?_, ?_⟩
  · exact ownG_lower (ownsRow_setCell_below (ownsRow_setCell_below (ownsRow_setCell_below (ownsRow_setCell_below (ownsRow_setCell_below h.row (h2 3) _) (h1 0) _) (h1 1) _) (h1 2) _) (h1 3) _) (by omega)
  · exact ownU_lower (ownsRow_setCell_below (ownsRow_setCell_below (ownsRow_setCell_below (ownsRow_setCell_below (ownsRow_setCell_below hu (g2 3) _) (g1 0) _) (g1 1) _) (g1 2) _) (g1 3) _) (by omega)
  · exact below_set (below_set (below_set (below_set (below_set h.bel (b2 3) _) (b1 0) _) (b1 1) _) (b1 2) _) (b1 3) _
  · have z : (w8.setCell ⟨w.heap.size + 1 + 1, 3, none⟩ u).heap[w.heap.size + 1]? = some reZ := (Below.heap_setCell w8 ⟨w.heap.size + 1 + 1, 3, none⟩ u (w.heap.size + 1) (by show w.heap.size + 1 ≠ w.heap.size + 1 + 1; omega)).trans h.zero
    exact set_blk' (set_blk' (set_blk' (set_blk' z 0 a0) 1 a1) 2 a2) 3 a3
structure RfP (w : World) (bx o : Array Value) (W : World) : Prop where
  bel : Below w.heap.size w W
  box : W.heap[w.heap.size]? = some (.cells bx 35 (0, 0))
  zero : W.heap[w.heap.size + 1]? = some reZ
  out : W.heap[w.heap.size + 2]? = some (.cells o 44 (0, 0))
theorem RfP.below {w : World} {bx o : Array Value} {W W' : World} (h : RfP w bx o W) (hb : Below W.heap.size W W') : RfP w bx o W' :=
  ⟨cthen h.bel hb, blk_below h.box hb, blk_below h.zero hb, blk_below h.out hb⟩
theorem RfP.set {w : World} {bx o : Array Value} {W : World} (h : RfP w bx o W) (j : Nat) (v : Value) : RfP w bx (o.setIfInBounds j v) (W.setCell ⟨w.heap.size + 2, j, none⟩ v) :=
  ⟨below_set h.bel (by omega) _, (Below.heap_setCell W ⟨w.heap.size + 2, j, none⟩ v w.heap.size (by show w.heap.size ≠ w.heap.size + 2; omega)).trans h.box, (Below.heap_setCell W ⟨w.heap.size + 2, j, none⟩ v (w.heap.size + 1) (by show w.heap.size + 1 ≠ w.heap.size + 2; omega)).trans h.zero, set_blk' h.out j v⟩
theorem RfP.toI {w : World} {bx : Array Value} {x0 x1 : Int} {W : World} (h : RfP w bx #[.int .u32 x0, .int .u32 x1, .slice none 0 0, .slice none 0 0] W) : RfI w bx x0 x1 (.slice none 0 0) [] W :=
  ⟨h.bel, h.box, h.zero, h.out, World.ownsRow_nil _ _ _ _, by have := (Array.getElem?_eq_some_iff.1 h.out).1; omega⟩
theorem rnums_drop (a : Addr) (c k q : Nat) (D : List Int) (w : World) (hC : BC w (some a) D) (hB : Byt D) (hc : D.length ≤ c) (hq : D.length = k + 4 * q) (hl : D.length ≤ 1000000) (v : Value) (hv : v = .slice (if c = k then some a else some (a.add k)) (D.length - k) (c - k)) :
    Calls Tryz.prog 79 #[.int .i64 4, v] w fun e w' => ∃ A' c', e = .returned (.slice A' q c') ∧ OwnU w' w.heap.size (.slice A' q c') (words (D.drop k) q) ∧ Below w.heap.size w w' := by
  subst hv
  have h := rnums_own (if c = k then some a else some (a.add k)) (c - k) q (D.drop k) w (by
    have := Kd.C_drop (k := Kd.int .u8) (m := k) hC (by omega) hc
    rw [show k * (Kd.int .u8).sz = k from Nat.mul_one k] at this
    exact this) (fun x hx => hB x (List.mem_of_mem_drop hx)) (by rw [List.length_drop]; omega) (by rw [List.length_drop]; omega) (by rw [List.length_drop]; omega)
  rw [List.length_drop] at h
  exact h
set_option maxRecDepth 100000 in
set_option maxHeartbeats 8000000 in
theorem rsf_any (f : Int) (A K : Option Addr) (c m d n q : Nat) (D : List Int) (w : World) (hC : BC w A D) (hB : Byt D) (hc : D.length ≤ c) (hl : D.length ≤ 70000) (hn : peekV 2 D 8 = (n : Int)) (hq : D.length = 12 + 4 * n + 4 * q) :
    Calls Tryz.prog 32 #[ckV 3 f A D.length c K m d] w (RsfPost D n q w) := by
  obtain ⟨a, rfl, -⟩ := some_of' hC (by omega)
  have HC := hid hC
  have HB := hid hB
  have HCC := hid hc
  have HL := hid hl
  have HN := hid hn
  have HQ := hid hq
  have NUM := hid (fun (k i : Nat) (hk : k = 2 ∨ k = 4) (hi : i + k ≤ D.length) (W : World) (hW : Below w.heap.size w W) => rnum_any k hk (some a) c i D W (hC.below hW) hB hc hi (by omega))
  obtain ⟨n', hn'⟩ : ∃ n' : Int, peekV 2 D 8 = n' := ⟨_, rfl⟩
  clear hC hB hc hl hn hq
  have HP0 := hid (show RfP w #[.int .u8 3, .int .u8 f, .slice (some a) D.length c, .slice K m d] #[.int .u32 0, .int .u32 0, .slice none 0 0, .slice none 0 0] (((w.alloc (.cells #[.int .u8 3, .int .u8 f, .slice (some a) D.length c, .slice K m d] 35)).alloc reZ).alloc reZ) from
    ⟨below_alloc (below_alloc (below_alloc (Below.refl _ _) _) _) _, blk_alloc (blk_alloc (blk_new w _)), blk_alloc (blk_new1 w _ _), by
      have := blk_new ((w.alloc (.cells #[.int .u8 3, .int .u8 f, .slice (some a) D.length c, .slice K m d] 35)).alloc reZ) reZ
      rw [World.size_alloc, World.size_alloc] at this
      exact this⟩)
  obtain ⟨i0, hi0, hz0, hz1, hz2⟩ := info_parts infoGr
  obtain ⟨W0, hW0⟩ : ∃ W0, ((w.alloc (.cells #[.int .u8 3, .int .u8 f, .slice (some a) D.length c, .slice K m d] 35)).alloc reZ).alloc reZ = W0 := ⟨_, rfl⟩
  rw [hW0] at HP0
  have p0 := NUM.out 4 0 (Or.inr rfl) (by have := HQ.out; omega) W0 HP0.out.bel
  unfold ckV
  go_enter Tryz.func32, Tryz.ntmps32
  go_wp2_with fail
  have hW0' : ((w.alloc (.cells #[.int .u8 3, .int .u8 f, .slice (some a) D.length c, .slice K m d] 35)).alloc (.cells #[.int .u32 0, .int .u32 0, .slice none 0 0, .slice none 0 0] 44)).alloc (.cells #[.int .u32 0, .int .u32 0, .slice none 0 0, .slice none 0 0] 44) = W0 := hW0
  rw [hW0']
  clear hW0'
  refine p0.mono ?_
  rintro e w1 ⟨rfl, hb⟩
  clear p0 hW0
  have HP1 := hid (HP0.out.below hb)
  clear hb HP0
  obtain ⟨X0, hX0⟩ : ∃ X0, peekV 4 D 0 = X0 := ⟨_, rfl⟩
  rw [hX0]
  obtain ⟨⟨z0, z1, z2, z3⟩, ⟨y0, y1, y2, y3⟩⟩ := four HP1.out.out
  obtain ⟨⟨q0, q1, q2, q3⟩, -⟩ := four HP1.out.box
  have HP2 := hid (HP1.out.set 0 (.int .u32 X0))
  have p1 := NUM.out 4 4 (Or.inr rfl) (by have := HQ.out; omega) _ HP2.out.bel
  go_wp2_with fail
  refine p1.mono ?_
  rintro e w2 ⟨rfl, hb⟩
  have HP3 := hid (HP2.out.below hb)
  clear hb HP1 HP2 p1 z0 z1 z2 z3 y0 y1 y2 y3 q0 q1 q2 q3
  obtain ⟨X1, hX1⟩ : ∃ X1, peekV 4 D 4 = X1 := ⟨_, rfl⟩
  rw [hX1]
  obtain ⟨⟨z0, z1, z2, z3⟩, ⟨y0, y1, y2, y3⟩⟩ := four (show w2.heap[w.heap.size + 2]? = some (.cells #[.int .u32 X0, .int .u32 0, .slice none 0 0, .slice none 0 0] 44 (0, 0)) from HP3.out.out)
  obtain ⟨⟨q0, q1, q2, q3⟩, -⟩ := four HP3.out.box
  have HP4 := hid (HP3.out.set 1 (.int .u32 X1))
  have p2 := NUM.out 2 8 (Or.inl rfl) (by have := HQ.out; omega) _ HP4.out.bel
  rw [HN.out] at p2
  go_wp2_with fail
  refine p2.mono ?_
  rintro e w3 ⟨rfl, hb⟩
  have HP5 := hid (HP4.out.below hb)
  clear hb HP3 HP4 p2 z0 z1 z2 z3 y0 y1 y2 y3 q0 q1 q2 q3
  have HI0 := hid (RfP.toI (x0 := X0) (x1 := X1) HP5.out)
  clear HP5
  have HNL := hid (show n ≤ 17500 by have := HQ.out; have := HL.out; omega)
  have HNW := hid (show wrap64 (n : Int) = (n : Int) by have := HNL.out; unfold wrap64; omega)
  go_wp2_with fail
  go_loopw [6, 7] (fun av iv W => ∃ (i : Nat) (A2 : Option Addr) (c2 : Nat), iv = .int .i64 i ∧ av = .int .i64 ((12 + 4 * i : Nat) : Int) ∧ i ≤ n ∧ Hid (RfI w #[.int .u8 3, .int .u8 f, .slice (some a) D.length c, .slice K m d] X0 X1 (.slice A2 i c2) (rGs D i) W)) (fun _ iv _ => n - (intOf iv).toNat)
  case atStart => exact ⟨0, none, 0, rfl, rfl, by omega, HI0⟩
  case round =>
    obtain ⟨i, A2, c2, rfl, rfl, hi, hI⟩ := hrel
    clear HI0
    obtain ⟨⟨q0, q1, q2, q3⟩, -⟩ := four hI.out.box
    by_cases hlt : i < n
    · have p3 := NUM.out 2 (12 + 4 * i) (Or.inl rfl) (by have := HQ.out; omega) _ hI.out.bel
      have HIL := hid (show i ≤ 17500 by have := HNL.out; omega)
      have hin : (i : Int) < wrap64 (n : Int) := by rw [HNW.out]; omega
      obtain ⟨X, hX⟩ : ∃ X, peekV 2 D (12 + 4 * i) = X := ⟨_, rfl⟩
      rw [hX, show ((12 + 4 * i : Nat) : Int) = 12 + 4 * (i : Int) by omega] at p3
      go_wp2_with fail
      refine p3.mono ?_
      rintro e w4 ⟨rfl, hb⟩
      have hI4 := hid (hI.out.below hb)
      clear hb p3 q0 q1 q2 q3
      obtain ⟨⟨q0, q1, q2, q3⟩, -⟩ := four hI4.out.box
      have p4 := NUM.out 2 (14 + 4 * i) (Or.inl rfl) (by have := HQ.out; omega) _ hI4.out.bel
      have HWA := hid (show wrap64 (12 + 4 * (i : Int) + 2) = ((14 + 4 * i : Nat) : Int) by have := HIL.out; unfold wrap64; omega)
      obtain ⟨Y, hY⟩ : ∃ Y, peekV 2 D (14 + 4 * i) = Y := ⟨_, rfl⟩
      rw [hY, ← HWA.out] at p4
      go_wp2_with fail
      refine p4.mono ?_
      rintro e w5 ⟨rfl, hb⟩
      have hI5 := hid (hI4.out.below hb)
      clear hb p4 q0 q1 q2 q3 hI hI4
      have bX := peek_bd HB.out 2 (12 + 4 * i)
      have bY := peek_bd HB.out 2 (14 + 4 * i)
      rw [hX] at bX
      rw [hY] at bY
      have hgX := hid (show rG D i = ⟨X % 65536, Y % 65536⟩ by have := bX.2 rfl; have := bY.2 rfl; unfold rG; rw [hX, hY]; congr 1 <;> omega)
      clear bX bY
      obtain ⟨⟨q0, q1, q2, q3⟩, ⟨r0, r1, r2, r3⟩⟩ := four hI5.out.out
      have HLN := hid (rGs_len D i)
      have HWI := hid (show wrap64 ((i : Int) + 1) = ((i + 1 : Nat) : Int) by have := HIL.out; unfold wrap64; omega)
      have HWJ := hid (show wrap64 (12 + 4 * (i : Int) + 4) = ((12 + 4 * (i + 1) : Nat) : Int) by have := HIL.out; unfold wrap64; omega)
      have HROW := hid (bk_row HLN.out hI5.out.row (o := .cells (gcells (⟨X % 65536, Y % 65536⟩ : Gp)).toArray 94))
      have HSZ := hid (show w.heap.size + 3 ≤ (w5.alloc (.cells (gcells (⟨X % 65536, Y % 65536⟩ : Gp)).toArray 94)).heap.size by rw [World.size_alloc]; have := hI5.out.sz; omega)
      have HP3 := hid (show w.heap.size + 2 < w5.heap.size by have := hI5.out.sz; omega)
      have HNWG := hid (news_g 94 w5 (⟨X % 65536, Y % 65536⟩ : Gp))
      go_wp2_with (at_builtin; refine wpList_append_own _ rfl _ _ 41 rfl (w.heap.size + 3) 94 i0 _ 2 4 Tryz.underlying41 hi0 hz0 hz1 hz2 rfl (by decide) _ _ _ rfl HROW.out ⟨w5.heap.size, 0, none⟩ 1 1 (gcells (⟨X % 65536, Y % 65536⟩ : Gp)) rfl rfl HNWG.out (one_gcells (⟨X % 65536, Y % 65536⟩ : Gp)) (by have := HIL.out; unfold maxLen; omega) (by have := HIL.out; omega) HSZ.out ?_; intro v' w9 hown1 hgrow _; have hK9 := hid (kpt_app (by decide) (show w.heap.size + 2 < w.heap.size + 3 by omega) HP3.out hI5.out.out HLN.out hI5.out.row hgrow hown1); have hxx := kpt_blk (by decide) hI5.out.out hI5.out.row hgrow; obtain ⟨A9, c9, rfl⟩ := ownsRow_form hown1; clear hown1 hgrow q0 q1 q2 q3 r0 r1 r2 r3; obtain ⟨⟨q0, q1, q2, q3⟩, ⟨r0, r1, r2, r3⟩⟩ := four hxx; clear hxx)
      refine ⟨⟨i + 1, A9, c9, by rw [HWI.out], by rw [HWJ.out], hlt, hid ?_⟩, by rw [HWI.out]; simp only [intOf, Int.toNat_natCast]; omega⟩
      rw [rGs_step, hgX.out]
      exact hI5.out.step hK9.out.1 hK9.out.2.1 hK9.out.2.2
    · have hin : ¬ (i : Int) < wrap64 (n : Int) := by rw [HNW.out]; omega
      obtain rfl : i = n := by omega
      have hx1 : 12 + 4 * (i : Int) ≤ (D.length : Int) := by have := HQ.out; omega
      have hx2 : ¬ ((D.length : Int) < 12 + 4 * (i : Int)) := by have := HQ.out; omega
      have hx3 : (0 : Int) ≤ 12 + 4 * (i : Int) := by omega
      have hx4 : ¬ (12 + 4 * (i : Int) < 0) := by omega
      by_cases hce : c = 12 + 4 * i
      · have HAD := hid (show (.slice (some a) (D.length - (12 + 4 * i)) 0 : Value) = .slice (if c = 12 + 4 * i then some a else some (a.add (12 + 4 * i))) (D.length - (12 + 4 * i)) (c - (12 + 4 * i)) by rw [if_pos hce, hce, Nat.sub_self])
        go_wp2_with fail
        refine (rnums_drop a c (12 + 4 * i) q D wr (HC.out.below hI.out.bel) HB.out HCC.out HQ.out (by have := HL.out; omega) _ HAD.out).mono ?_
        rintro e w8 ⟨A8, c8, rfl, hu8, hb⟩
        have hI8 := hid (hI.out.below hb)
        have HU8 := hid hu8
        clear hb hu8 q0 q1 q2 q3
        obtain ⟨⟨q0, q1, q2, q3⟩, ⟨r0, r1, r2, r3⟩⟩ := four hI8.out.out
        obtain ⟨⟨z0, z1, z2, z3⟩, ⟨y0, y1, y2, y3⟩⟩ := four (show w8.heap[w.heap.size + 1]? = some (.cells #[.int .u32 0, .int .u32 0, .slice none 0 0, .slice none 0 0] 44 (0, 0)) from hI8.out.zero)
        go_wp2_with fail
        have hfin := rsf_fin hI8.out hI.out.sz HU8.out (.int .u32 X0) (.int .u32 X1) (.slice A2 i c2) (.slice A8 q c8)
        obtain ⟨S9, hS9⟩ : ∃ S9, (((((w8.setCell ⟨w.heap.size + 1 + 1, 3, none⟩ (.slice A8 q c8)).setCell ⟨w.heap.size + 1, 0, none⟩ (.int .u32 X0)).setCell ⟨w.heap.size + 1, 1, none⟩ (.int .u32 X1)).setCell ⟨w.heap.size + 1, 2, none⟩ (.slice A2 i c2)).setCell ⟨w.heap.size + 1, 3, none⟩ (.slice A8 q c8)) = S9 := ⟨_, rfl⟩
        rw [hS9] at hfin
        rw [hS9]
        clear hS9 y0 y1 y2 y3 z0 z1 z2 z3 q0 q1 q2 q3 r0 r1 r2 r3
        obtain ⟨⟨y0, y1, y2, y3⟩, -⟩ := four hfin.2.2.2
        refine bodyPost_ret (v := .agg #[.int .u32 X0, .int .u32 X1, .slice A2 i c2, .slice A8 q c8]) (by simp [results, Tryz.results32, go_sem, y0, y1, y2, y3]) rfl ?_
        exact ⟨.slice A2 i c2, A8, c8, by rw [hX0, hX1], hfin.1, hfin.2.1, hfin.2.2.1⟩
      · have HAD := hid (show (.slice (some (a.add (12 + 4 * i))) (D.length - (12 + 4 * i)) (c - (12 + 4 * i)) : Value) = .slice (if c = 12 + 4 * i then some a else some (a.add (12 + 4 * i))) (D.length - (12 + 4 * i)) (c - (12 + 4 * i)) by rw [if_neg hce])
        go_wp2_with fail
        refine (rnums_drop a c (12 + 4 * i) q D wr (HC.out.below hI.out.bel) HB.out HCC.out HQ.out (by have := HL.out; omega) _ HAD.out).mono ?_
        rintro e w8 ⟨A8, c8, rfl, hu8, hb⟩
        have hI8 := hid (hI.out.below hb)
        have HU8 := hid hu8
        clear hb hu8 q0 q1 q2 q3
        obtain ⟨⟨q0, q1, q2, q3⟩, ⟨r0, r1, r2, r3⟩⟩ := four hI8.out.out
        obtain ⟨⟨z0, z1, z2, z3⟩, ⟨y0, y1, y2, y3⟩⟩ := four (show w8.heap[w.heap.size + 1]? = some (.cells #[.int .u32 0, .int .u32 0, .slice none 0 0, .slice none 0 0] 44 (0, 0)) from hI8.out.zero)
        go_wp2_with fail
        have hfin := rsf_fin hI8.out hI.out.sz HU8.out (.int .u32 X0) (.int .u32 X1) (.slice A2 i c2) (.slice A8 q c8)
        obtain ⟨S9, hS9⟩ : ∃ S9, (((((w8.setCell ⟨w.heap.size + 1 + 1, 3, none⟩ (.slice A8 q c8)).setCell ⟨w.heap.size + 1, 0, none⟩ (.int .u32 X0)).setCell ⟨w.heap.size + 1, 1, none⟩ (.int .u32 X1)).setCell ⟨w.heap.size + 1, 2, none⟩ (.slice A2 i c2)).setCell ⟨w.heap.size + 1, 3, none⟩ (.slice A8 q c8)) = S9 := ⟨_, rfl⟩
        rw [hS9] at hfin
        rw [hS9]
        clear hS9 y0 y1 y2 y3 z0 z1 z2 z3 q0 q1 q2 q3 r0 r1 r2 r3
        obtain ⟨⟨y0, y1, y2, y3⟩, -⟩ := four hfin.2.2.2
        refine bodyPost_ret (v := .agg #[.int .u32 X0, .int .u32 X1, .slice A2 i c2, .slice A8 q c8]) (by simp [results, Tryz.results32, go_sem, y0, y1, y2, y3]) rfl ?_
        exact ⟨.slice A2 i c2, A8, c8, by rw [hX0, hX1], hfin.1, hfin.2.1, hfin.2.2.1⟩
end Sk14
end Go.Proofs.YtcjcgehhmjnlcaaGreatDoor
/- A sack's check, by both: when it is right; 'wharfref12.Check' at such a chunk. -/
set_option linter.unusedVariables false
set_option linter.unusedSimpArgs false
namespace Go.Proofs.YtcjcgehhmjnlcaaGreatDoor
open Go.RowKit Go.Shelf Go.Proofs.YtcjcgehhmjnlcaaGreatDoor.It Go.Proofs.YtcjcgehhmjnlcaaGreatDoorW.PrintWords Go.Proofs.YtcjcgehhmjnlcaaGreatDoorW.PrintLast Go.Proofs.YtcjcgehhmjnlcaaGreatDoorW.PrintMore
namespace Sk14
theorem orE_no {a b c d e : Option (Int × Option Int)} : codeOnly (orE a b c d e) = none ↔ a = none ∧ b = none ∧ c = none ∧ d = none ∧ e = none := by
  unfold codeOnly orE
  rcases a with _ | a <;> rcases b with _ | b <;> rcases c with _ | c <;> rcases d with _ | d <;> rcases e with _ | e <;> simp
theorem fits_sk {n : Nat} : fits (kR 3).least (kR 3).most (kR 3).unit n = true ↔ ∃ q, n = 12 + 4 * q ∧ n ≤ 65531 := by
  show (decide ((n : Int) ≥ 12) && decide ((n : Int) ≤ 65531) && (((n : Int) - 12) % 4 == 0)) = true ↔ _
  simp only [Bool.and_eq_true, decide_eq_true_eq, beq_iff_eq]
  constructor
  · rintro ⟨⟨a, b⟩, c⟩
    exact ⟨(n - 12) / 4, by omega, by omega⟩
  · rintro ⟨q, a, b⟩
    omega
/-- When a sack is right. -/
def Right3 (f : Int) (D : List Int) (m : Nat) : Prop := f = 0 ∧ m = 0 ∧ ∃ n q : Nat, D.length = 12 + 4 * n + 4 * q ∧ D.length ≤ 65531 ∧ peekV 2 D 8 = (n : Int) ∧ peekV 2 D 10 = (q : Int)
theorem num_peek {D : List Int} (i : Nat) (h : i + 2 ≤ D.length) : numAt (fun t => D.getD t 0) i 2 = peekV 2 D i := by
  unfold peekV
  rw [if_pos (by omega)]
theorem cnt_iff {D : List Int} (hB : Byt D) (q : Nat) (hq : D.length = 12 + 4 * q) : (peekV 2 D 8 + peekV 2 D 10 = (q : Int)) ↔ ∃ n q : Nat, D.length = 12 + 4 * n + 4 * q ∧ peekV 2 D 8 = (n : Int) ∧ peekV 2 D 10 = (q : Int) := by
  have a := peek_bd hB 2 8
  have b := peek_bd hB 2 10
  constructor
  · intro h
    exact ⟨(peekV 2 D 8).toNat, (peekV 2 D 10).toNat, by omega, by omega, by omega⟩
  · rintro ⟨n, q', h1, h2, h3⟩
    omega
theorem pgood_3 {f : Int} {D : List Int} {m : Nat} (h0 : 0 ≤ f) (h1 : f ≤ 255) (hB : Byt D) : codeOnly (E3 f D m) = none ↔ Right3 f D m := by
  have hd : dataE (kR 3) D.length = none ↔ fits (kR 3).least (kR 3).most (kR 3).unit D.length = true := by
    unfold dataE
    split <;> simp_all
  have hk : kids0E m = none ↔ m = 0 := by
    unfold kids0E
    split <;> simp_all
  unfold E3 Right3
  rw [orE_no, flagsE_0 h0 h1, hd, hk, fits_sk]
  constructor
  · rintro ⟨a, ⟨q, b, b'⟩, c, e, -⟩
    refine ⟨a, c, ?_⟩
    have hc : peekV 2 D 8 + peekV 2 D 10 = (q : Int) := by
      unfold countE countB at e
      rw [if_pos rfl, num_peek 8 (by omega), num_peek 10 (by omega), show ((D.length : Int) - 12) / 4 = (q : Int) by omega] at e
      by_cases h : peekV 2 D 8 + peekV 2 D 10 = (q : Int)
      · exact h
      · rw [if_pos (by simpa using h)] at e; cases e
    obtain ⟨n, q', g1, g2, g3⟩ := (cnt_iff hB q b).1 hc
    exact ⟨n, q', g1, b', g2, g3⟩
  · rintro ⟨a, c, n, q, g1, g2, g3, g4⟩
    refine ⟨a, ⟨n + q, by omega, g2⟩, c, ?_, rfl⟩
    unfold countE countB
    rw [if_pos rfl, num_peek 8 (by omega), num_peek 10 (by omega), g3, g4, show ((D.length : Int) - 12) / 4 = (n : Int) + (q : Int) by omega]
    simp
theorem rcounted_3 (A : Option Addr) (c : Nat) (l : List Int) (b : Bool) (w : World) (hC : BC w A l) (hB : ∀ x ∈ l, 0 ≤ x ∧ x ≤ 255) (h12 : 12 ≤ l.length) (hl : l.length ≤ 1000000) (hc : l.length ≤ c) (hb : decide (4 * (peekV 2 l 8 + peekV 2 l 10) = (l.length : Int) - 12) = b) : Calls Tryz.prog 73 #[.int .u8 3, .slice A l.length c] w (IsPost (.bool b) w) := by
  have a8 := number_f hB 8 (by omega) hl
  have a10 := number_f hB 10 (by omega) hl
  rw [← peek_2 (by omega) rfl rfl] at a8 a10
  have p8 := peek_bd hB 2 8
  have p10 := peek_bd hB 2 10
  have p8' := p8.2 rfl
  have p10' := p10.2 rfl
  refine (PForwardChunks.wharfref12_counted.calls 3 A c l b w hC hc ?_).mono (fun e w' h => ⟨h.1, h.2.below⟩)
  unfold PForwardChunks.wharfref12_counted.f
  rw [if_pos rfl]
  have e8 : PForwardChunks.wharfref12_number.f l 8 = some (peekV 2 l 8) := a8
  have e10 : PForwardChunks.wharfref12_number.f l 10 = some (peekV 2 l 10) := a10
  rw [e8, e10, Option.bind_some, Option.bind_some, ← hb]
  have w1 : wrap64 (peekV 2 l 8 + peekV 2 l 10) = peekV 2 l 8 + peekV 2 l 10 := by unfold wrap64; omega
  rw [w1]
  clear w1
  have w2 : wrap64 (4 * (peekV 2 l 8 + peekV 2 l 10)) = 4 * (peekV 2 l 8 + peekV 2 l 10) := by unfold wrap64; omega
  have w3 : wrap64 ((l.length : Int) - 12) = (l.length : Int) - 12 := by unfold wrap64; omega
  rw [w2, w3]
  congr 1
/-- What the reference implementation says of such a chunk, and when it is right. -/
theorem rck_3 (f : Int) (A K : Option Addr) (c m d : Nat) (D : List Int) (w : World) (h0 : 0 ≤ f) (h1 : f ≤ 255) (hC : BC w A D) (hB : Byt D) (hc : D.length ≤ c) (hl : D.length ≤ 70000) :
    ∃ r : Int, (r = 0 ↔ Right3 f D m) ∧ (True → ∀ W, Below w.heap.size w W → Calls Tryz.prog 31 #[ckV 3 f A D.length c K m d] W (IsPost (.int .i64 r) W)) := by
  have hof := fun W => rof_at 3 (by decide) 3 rfl W
  have hk : (kR 3).kids = 0 := rfl
  have hmk : (kR 3).mask = 0 := rfl
  have hbf0 := and255_ne h0 h1
  have hft : ∀ {b : Bool}, fits (kR 3).least (kR 3).most (kR 3).unit D.length = b → ∀ W, Calls Tryz.prog 71 #[(kR 3).val, .int .i64 D.length] W (IsPost (.bool b) W) := fun e W => by
    rw [← e]
    exact rfits_any (kR 3) (kR_ok 3 (by decide)) D.length W
  have hbad : Right3 f D m → fits (kR 3).least (kR 3).most (kR 3).unit D.length = true := fun g => by
    obtain ⟨_, _, n, q, a, b, _⟩ := g
    exact fits_sk.2 ⟨n + q, by omega, b⟩
  by_cases hf : f = 0
  · have hbf : (bits .and .i64 f 255 != 0) = false := by rw [hbf0]; simp [hf]
    cases ht : fits (kR 3).least (kR 3).most (kR 3).unit D.length
    · exact ⟨7, ⟨fun e => by simp at e, fun g => by rw [hbad g] at ht; cases ht⟩, fun _ W hW => rck_7a (kR 3) 3 f A K D.length c m d W hk hof hmk h0 h1 hbf (hft ht)⟩
    · by_cases hm : m = 0
      · subst hm
        obtain ⟨q, hq, hq2⟩ := fits_sk.1 ht
        obtain ⟨b, hb⟩ : ∃ b, decide (4 * (peekV 2 D 8 + peekV 2 D 10) = (D.length : Int) - 12) = b := ⟨_, rfl⟩
        have hcn := fun W (hW : Below w.heap.size w W) => rcounted_3 A c D b W (hC.below hW) hB (by omega) (by omega) hc hb
        have hiff := cnt_iff hB q hq
        cases b
        · refine ⟨8, ⟨fun e => by simp at e, fun g => ?_⟩, fun _ W hW => rck_8 (kR 3) 3 f A K D.length c d W hk hof hmk h0 h1 hbf (hft ht) (fun W' hW' => hcn W' (hW.trans (hW'.mono hW.size)))⟩
          obtain ⟨_, _, n, q', g1, _, g3, g4⟩ := g
          have h := of_decide_eq_false hb
          exact absurd (hiff.2 ⟨n, q', g1, g3, g4⟩) (fun e => h (by omega))
        · refine ⟨0, ⟨fun _ => ?_, fun _ => rfl⟩, fun _ W hW => rck_0 (kR 3) 3 f A K D.length c d W hk hof hmk h0 h1 hbf (hft ht) (fun W' hW' => hcn W' (hW.trans (hW'.mono hW.size))) (-1) (fun W' hW' => rodd_not 3 A c D W' (by decide) (by decide) (hC.below (hW.trans (hW'.mono hW.size))) hc) (by decide) (by have := hq2; omega)⟩
          have h := of_decide_eq_true hb
          obtain ⟨n, q', g1, g2, g3⟩ := hiff.1 (by omega)
          exact ⟨hf, rfl, n, q', g1, hq2, g2, g3⟩
      · exact ⟨7, ⟨fun e => by simp at e, fun g => absurd g.2.1 hm⟩, fun _ W hW => rck_7b (kR 3) 3 f A K D.length c m d W hk hof hmk h0 h1 hbf (hft ht) hm⟩
  · exact ⟨6, ⟨fun e => by simp at e, fun g => absurd g.1 hf⟩, fun _ W hW => rck_6 (kR 3) 3 f A K D.length c m d W hk hof hmk h0 h1 (by rw [hbf0]; simp [hf])⟩
end Sk14
end Go.Proofs.YtcjcgehhmjnlcaaGreatDoor
/- The walk of SackChunks. -/
set_option linter.unusedVariables false
set_option linter.unusedSimpArgs false
namespace Go.Proofs.YtcjcgehhmjnlcaaGreatDoor
open Go.RowKit Go.Shelf Go.Proofs.YtcjcgehhmjnlcaaGreatDoor.It Go.Proofs.YtcjcgehhmjnlcaaGreatDoorW.PrintWords Go.Proofs.YtcjcgehhmjnlcaaGreatDoorW.PrintLast Go.Proofs.YtcjcgehhmjnlcaaGreatDoorW.PrintMore
namespace Sk14
theorem uc_nil (w : World) : UC w none [] := ⟨rfl, by simp, fun h => absurd h (by simp)⟩
/-- 'back' of nothing, for a reader. -/
theorem sbk_none (w : World) : Calls Tryz.prog 27 #[.agg #[.int .u32 0, .int .u32 0, .slice none 0 0, .slice none 0 0]] w (fun e w' => ∃ A c, e = .returned (.agg #[.int .u32 0, .int .u32 0, .slice A 0 c, .slice none 0 0]) ∧ Below w.heap.size w w') := by
  refine (sbk_any 0 0 none none 0 0 0 [] w (Or.inl rfl) (by simp)).mono ?_
  rintro e w' ⟨A, c, rfl, -, hb⟩
  exact ⟨A, c, rfl, hb⟩
theorem rsame_none (A : Option Addr) (c : Nat) (w : World) : Calls Tryz.prog 26 #[.agg #[.int .u32 0, .int .u32 0, .slice A 0 c, .slice none 0 0], .agg #[.int .u32 0, .int .u32 0, .slice none 0 0, .slice none 0 0]] w (IsPost (.bool true) w) :=
  rsame_any 0 0 A none none none c 0 0 0 0 0 [] [] w rfl rfl (Or.inl rfl) (Or.inl rfl) (uc_nil w) (uc_nil w) (by omega) (by omega)
/-- What 'back' gives, for a reader. -/
theorem sbk_read (cu wi : Int) (A : Option Addr) (c g : Nat) (G : List Gp) (B : Option Addr) (m d : Nat) (w : World) (hg : G.length = g) (hG : GpC w A G) (hl : g ≤ 1000000) : Calls Tryz.prog 27 #[.agg #[.int .u32 cu, .int .u32 wi, .slice A g c, .slice B m d]] w (fun e w' => ∃ A c, e = .returned (.agg #[.int .u32 cu, .int .u32 wi, .slice A g c, .slice B m d]) ∧ GpC w' A G ∧ Below w.heap.size w w') := by
  subst hg
  refine (sbk_any cu wi A B c m d G w hG hl).mono ?_
  rintro e w' ⟨A', c', rfl, hO, hb⟩
  obtain ⟨A2, c2, e', -, hr, -⟩ := ownG_read hO
  injection e' with e1 e2 e3
  subst e1
  exact ⟨A', c', rfl, hr, hb⟩
/-- What the reference implementation reads, for a reader. -/
theorem rsf_read (f : Int) (A K : Option Addr) (c m d k n q : Nat) (D : List Int) (X0 X1 : Int) (G : List Gp) (U : List Int) (w : World) (h : Sk D n q) (hk : D.length = k) (hX0 : peekV 4 D 0 = X0) (hX1 : peekV 4 D 4 = X1) (hG : rGs D n = G) (hU : words (D.drop (12 + 4 * n)) q = U) (hC : BC w A D) (hc : k ≤ c) :
    Calls Tryz.prog 32 #[.agg #[.int .u8 3, .int .u8 f, .slice A k c, .slice K m d]] w (fun e w' => ∃ A c B d, e = .returned (.agg #[.int .u32 X0, .int .u32 X1, .slice A n c, .slice B q d]) ∧ GpC w' A G ∧ UC w' B U ∧ Below w.heap.size w w') := by
  subst hk
  refine (rsf_any f A K c m d n q D w hC h.byt hc (by have := h.le; omega) h.gn h.len).mono ?_
  rintro e w' ⟨v, B, d', rfl, hO, hu, hb⟩
  rw [hG] at hO
  rw [hU] at hu
  rw [hX0, hX1]
  obtain ⟨A2, c2, rfl, -, hr, -⟩ := ownG_read hO
  obtain ⟨B2, d2, e2, -, hr2⟩ := ownU_read hu
  injection e2 with e1 e2 e3
  subst e1
  rw [← hG, rGs_len]
  rw [hG]
  exact ⟨A2, c2, B, d', rfl, hr, hr2, hb⟩
/-- The package reads the same. -/
theorem sof_read (f : Int) (A K : Option Addr) (c m d k n q : Nat) (D : List Int) (X0 X1 : Int) (G : List Gp) (U : List Int) (w : World) (h : Sk D n q) (hk : D.length = k) (hX0 : peekV 4 D 0 = X0) (hX1 : peekV 4 D 4 = X1) (hG : rGs D n = G) (hU : words (D.drop (12 + 4 * n)) q = U) (hC : BC w A D) (hc : k ≤ c)
    (hck : ∀ W, Below w.heap.size w W → Calls Tryz.prog 29 #[ckV 3 f A k c K m d] W (ErrPost none W)) :
    Calls Tryz.prog 23 #[.agg #[.int .u8 3, .int .u8 f, .slice A k c, .slice K m d]] w (fun e w' => ∃ A c B d, e = .returned (.tuple #[.agg #[.int .u32 X0, .int .u32 X1, .slice A n c, .slice B q d], .bool true]) ∧ n ≤ c ∧ GpC w' A G ∧ q ≤ d ∧ UC w' B U ∧ Below w.heap.size w w') := by
  subst hk
  have hlen := h.len
  refine (sof_yes f A K c m d D w hC h.byt hc h.le (by omega) (by rw [h.sn, h.words, words_len]; omega) hck).mono ?_
  rintro e w' ⟨v, u, rfl, hO, hu, hb⟩
  rw [h.gaps, hG] at hO
  rw [h.dups, hU] at hu
  rw [h.w0, h.w1, hX0, hX1]
  obtain ⟨A2, c2, rfl, hc2, hr, -⟩ := ownG_read hO
  obtain ⟨B2, d2, rfl, hd2, hr2⟩ := ownU_read hu
  have e1 : G.length = n := by rw [← hG, rGs_len]
  have e2 : U.length = q := by rw [← hU, words_len]
  rw [e1] at hc2 ⊢
  rw [e2] at hd2 ⊢
  exact ⟨A2, c2, B2, d2, rfl, hc2, hr, hd2, hr2, hb⟩
theorem smake_read (cu wi : Int) (A B : Option Addr) (c d n m k : Nat) (G : List Gp) (D M : List Int) (w : World) (hn : G.length = n) (hm : D.length = m) (hM : sMd cu wi G D = M) (hk : M.length = k) (hS : GpC w A G) (hc : n ≤ c) (hU : UC w B D) (hd : m ≤ d) (hs : n + m ≤ 16379) :
    Calls Tryz.prog 21 #[.agg #[.int .u32 cu, .int .u32 wi, .slice A n c, .slice B m d]] w (fun e w' => ∃ A c, e = .returned (.tuple #[.agg #[.int .u8 3, .int .u8 0, .slice A k c, .slice none 0 0], .bool true]) ∧ k ≤ c ∧ BC w' A M ∧ Below w.heap.size w w') := by
  subst hn
  subst hm
  refine (smake_yes cu wi A B c d G D w hS hc hU hd hs).mono ?_
  rintro e w' ⟨v, rfl, hO, hb⟩
  obtain ⟨A', c', rfl, hcd, hbc, -⟩ := own_slice hO
  rw [hM] at hcd hbc ⊢
  rw [hk] at hcd ⊢
  exact ⟨A', c', rfl, hcd, hbc, hb⟩
set_option maxRecDepth 100000 in
set_option maxHeartbeats 4000000 in
theorem law6_long (t f : Int) (A K : Option Addr) (c d : Nat) (D : List Int) (xs : List PForwardChunks.S114) (w : World) (hlong : 70000 < D.length ∨ 200 < xs.length) (hC : BC w A D) (hc : D.length ≤ c) (hK : Kd.C PForwardChunks.k114 w K xs.length xs) (hd : xs.length ≤ d) (hg : GTab w) :
    Calls Tryz.prog 6 #[ckV t f A D.length c K xs.length d] w (IsPost (.bool true) w) := by
  have B0 := hid (below_alloc (Below.refl w.heap.size w) (.cells #[.int .u8 t, .int .u8 f, .slice A D.length c, .slice K xs.length d] 35))
  have K0 := hid (blk_new w (.cells #[.int .u8 t, .int .u8 f, .slice A D.length c, .slice K xs.length d] 35))
  have hA := sawake_any _ (hg.below B0.out)
  have hFew := hid (fun W (hW : Below w.heap.size w W) => few_any t f A K c d D xs W (hC.below hW) hc (Kd.C_below hK hW) hd)
  have HG := hid hg
  clear hC hc hK hd hg
  unfold ckV at *
  go_enter Tryz.func6, Tryz.ntmps6
  go_wp2_with fail
  refine hA.mono ?_
  rintro e w1 ⟨rfl, hb⟩
  have B1 := hid (cthen B0.out hb)
  have K1 := hid (blk_below K0.out hb)
  clear hb hA K0 B0
  obtain ⟨⟨x0, x1, x2, x3⟩, -⟩ := four K1.out
  go_wp2_with fail
  refine (hFew.out _ B1.out).mono ?_
  rintro e w2 ⟨b, rfl, hb70, hb⟩
  have B2 := hid (cthen B1.out hb)
  have H70 := hid hb70
  clear hb hFew K1 x0 x1 x2 x3 hb70
  cases b
  · have hA := sawake_any w2 (HG.out.below B2.out)
    go_wp2_with fail
    refine hA.mono ?_
    rintro e w3 ⟨rfl, hb⟩
    have B3 := hid (cthen B2.out hb)
    clear hb hA
    go_wp2_with fail
    go_ret
    exact ⟨rfl, B3.out⟩
  · exact absurd (H70.out rfl) (by omega)
/-- A chunk that is none: there is no description. -/
theorem law6_no (t f : Int) (A K : Option Addr) (c d : Nat) (D : List Int) (xs : List PForwardChunks.S114) (w : World) (r : Int) (hr0 : (t == 3) = false ∨ (r == 0) = false) (hC : BC w A D) (hc : D.length ≤ c) (hK : Kd.C PForwardChunks.k114 w K xs.length xs) (hd : xs.length ≤ d) (hg : GTab w)
    (hof : ∀ W, Below w.heap.size w W → Calls Tryz.prog 23 #[ckV t f A D.length c K xs.length d] W (SofNo W))
    (hr : t = 3 → ∀ W, Below w.heap.size w W → Calls Tryz.prog 31 #[ckV t f A D.length c K xs.length d] W (IsPost (.int .i64 r) W)) :
    Calls Tryz.prog 6 #[ckV t f A D.length c K xs.length d] w (IsPost (.bool true) w) := by
  have B0 := hid (below_alloc (Below.refl w.heap.size w) (.cells #[.int .u8 t, .int .u8 f, .slice A D.length c, .slice K xs.length d] 35))
  have K0 := hid (blk_new w (.cells #[.int .u8 t, .int .u8 f, .slice A D.length c, .slice K xs.length d] 35))
  have hA := sawake_any _ (hg.below B0.out)
  have hFew := hid (fun W (hW : Below w.heap.size w W) => few_any t f A K c d D xs W (hC.below hW) hc (Kd.C_below hK hW) hd)
  have HG := hid hg
  have HOF := hid hof
  have HR := hid hr
  clear hC hc hK hd hg hof hr
  unfold ckV at *
  unfold SofNo at HOF
  go_enter Tryz.func6, Tryz.ntmps6
  go_wp2_with fail
  refine hA.mono ?_
  rintro e w1 ⟨rfl, hb⟩
  have B1 := hid (cthen B0.out hb)
  have K1 := hid (blk_below K0.out hb)
  clear hb hA K0 B0
  obtain ⟨⟨x0, x1, x2, x3⟩, -⟩ := four K1.out
  go_wp2_with fail
  refine (hFew.out _ B1.out).mono ?_
  rintro e w2 ⟨b, rfl, hb70, hb⟩
  have B2 := hid (cthen B1.out hb)
  have K2 := hid (blk_below K1.out hb)
  clear hb hFew K1 x0 x1 x2 x3 hb70
  obtain ⟨⟨x0, x1, x2, x3⟩, -⟩ := four K2.out
  cases b
  · have hA := sawake_any w2 (HG.out.below B2.out)
    go_wp2_with fail
    refine hA.mono ?_
    rintro e w3 ⟨rfl, hb⟩
    have B3 := hid (cthen B2.out hb)
    clear hb hA
    go_wp2_with fail
    go_ret
    exact ⟨rfl, B3.out⟩
  · go_wp2_with fail
    refine (HOF.out _ B2.out).mono ?_
    rintro e w3 ⟨rfl, hb⟩
    have B3 := hid (cthen B2.out hb)
    have K3 := hid (blk_below K2.out hb)
    clear hb K2 x0 x1 x2 x3
    have hN := hid (blk_new w3 (.cells #[.int .u32 0, .int .u32 0, .slice none 0 0, .slice none 0 0] 49))
    have hX := hid (blk_alloc (x := .cells #[.int .u32 0, .int .u32 0, .slice none 0 0, .slice none 0 0] 49) K3.out)
    have B4 := hid (below_alloc B3.out (.cells #[.int .u32 0, .int .u32 0, .slice none 0 0, .slice none 0 0] 49))
    clear K3 B3
    obtain ⟨⟨x0, x1, x2, x3⟩, -⟩ := four hX.out
    obtain ⟨⟨y0, y1, y2, y3⟩, -⟩ := four hN.out
    by_cases ht : t = 3
    · have HR3 := hid (HR.out ht)
      subst ht
      have hrz : (r == 0) = false := by
        rcases hr0 with h | h
        · simp at h
        · exact h
      clear hr0 HR
      go_wp2_with fail
      refine (HR3.out _ B4.out).mono ?_
      rintro e w5 ⟨rfl, hb⟩
      have B5 := hid (cthen B4.out hb)
      have N5 := hid (blk_below hN.out hb)
      clear hb x0 x1 x2 x3 y0 y1 y2 y3 hX hN B4
      obtain ⟨⟨y0, y1, y2, y3⟩, -⟩ := four N5.out
      go_wp2_with fail
      refine (sbk_none _).mono ?_
      rintro e w6 ⟨A6, c6, rfl, hb⟩
      have B6 := hid (cthen B5.out hb)
      clear hb y0 y1 y2 y3 N5
      go_wp2_with fail
      refine (rsame_none A6 c6 _).mono ?_
      rintro e w7 ⟨rfl, hb⟩
      have B7 := hid (cthen B6.out hb)
      clear hb
      go_wp2_with fail
      go_ret
      exact ⟨rfl, B7.out⟩
    · have htz : (t == 3) = false := by simpa using ht
      clear hr0
      go_wp2_with fail
      refine (sbk_none _).mono ?_
      rintro e w6 ⟨A6, c6, rfl, hb⟩
      have B6 := hid (cthen B4.out hb)
      clear hb x0 x1 x2 x3 y0 y1 y2 y3 hN hX
      go_wp2_with fail
      refine (rsame_none A6 c6 _).mono ?_
      rintro e w7 ⟨rfl, hb⟩
      have B7 := hid (cthen B6.out hb)
      clear hb
      go_wp2_with fail
      go_ret
      exact ⟨rfl, B7.out⟩
abbrev C12 (w0 : World) (p q r : Nat) (a0 a1 a2 a3 b0 b1 b2 b3 c0 c1 c2 c3 : Value) (W : World) : Prop := Below w0.heap.size w0 W ∧ W.cell? ⟨p, 0, none⟩ = some a0 ∧ W.cell? ⟨p, 1, none⟩ = some a1 ∧ W.cell? ⟨p, 2, none⟩ = some a2 ∧ W.cell? ⟨p, 3, none⟩ = some a3 ∧ W.cell? ⟨q, 0, none⟩ = some b0 ∧ W.cell? ⟨q, 1, none⟩ = some b1 ∧ W.cell? ⟨q, 2, none⟩ = some b2 ∧ W.cell? ⟨q, 3, none⟩ = some b3 ∧ W.cell? ⟨r, 0, none⟩ = some c0 ∧ W.cell? ⟨r, 1, none⟩ = some c1 ∧ W.cell? ⟨r, 2, none⟩ = some c2 ∧ W.cell? ⟨r, 3, none⟩ = some c3
theorem C12.blw {w0 W W' : World} {p q r : Nat} {a0 a1 a2 a3 b0 b1 b2 b3 c0 c1 c2 c3 : Value} (h : C12 w0 p q r a0 a1 a2 a3 b0 b1 b2 b3 c0 c1 c2 c3 W) (hb : Below W.heap.size W W') : C12 w0 p q r a0 a1 a2 a3 b0 b1 b2 b3 c0 c1 c2 c3 W' :=
  have k : ∀ {p : Addr} {v : Value}, W.cell? p = some v → W'.cell? p = some v := fun h => (hb.cell (World.block_lt_of_cell? W _ h)).trans h
  ⟨cthen h.1 hb, k h.2.1, k h.2.2.1, k h.2.2.2.1, k h.2.2.2.2.1, k h.2.2.2.2.2.1, k h.2.2.2.2.2.2.1, k h.2.2.2.2.2.2.2.1, k h.2.2.2.2.2.2.2.2.1, k h.2.2.2.2.2.2.2.2.2.1, k h.2.2.2.2.2.2.2.2.2.2.1, k h.2.2.2.2.2.2.2.2.2.2.2.1, k h.2.2.2.2.2.2.2.2.2.2.2.2⟩
set_option maxRecDepth 100000 in
set_option maxHeartbeats 8000000 in
theorem law6_good (A K : Option Addr) (c d n q : Nat) (D : List Int) (xs : List PForwardChunks.S114) (w : World) (h : Sk D n q) (hm : xs.length = 0) (hC : BC w A D) (hc : D.length ≤ c) (hK : Kd.C PForwardChunks.k114 w K 0 xs) (hg : GTab w) :
    Calls Tryz.prog 6 #[ckV 3 0 A D.length c K 0 d] w (IsPost (.bool true) w) := by
  have B0 := hid (below_alloc (Below.refl w.heap.size w) (.cells #[.int .u8 3, .int .u8 0, .slice A D.length c, .slice K 0 d] 35))
  have K0 := hid (blk_new w (.cells #[.int .u8 3, .int .u8 0, .slice A D.length c, .slice K 0 d] 35))
  have hA := sawake_any _ (hg.below B0.out)
  have hFew := hid (fun W (hW : Below w.heap.size w W) => by
    have h := few_any 3 0 A K c d D xs W (hC.below hW) hc (by rw [hm]; exact Kd.C_below hK hW) (by omega)
    rwa [hm] at h)
  have HG := hid hg
  have HS := hid h
  have hlen := h.len
  have hle := h.le
  have hR3 : Right3 0 D 0 := ⟨rfl, rfl, n, q, hlen, hle, h.gn, h.dn⟩
  have hE : codeOnly (E3 0 D 0) = none := (pgood_3 (by omega) (by omega) h.byt).2 hR3
  obtain ⟨r, hr0, hr⟩ := rck_3 0 A K c 0 d D w (by omega) (by omega) hC h.byt hc (by omega)
  have hrz : r = 0 := hr0.2 hR3
  subst hrz
  have HR := hid (hr trivial)
  have hck := fun W (hW : Below w.heap.size w W) => by
    have h := check_3 0 A K c 0 d D W (hg.below hW) (by omega) (hC.below hW) h.byt hc (by omega)
    rwa [hE] at h
  obtain ⟨k, hk⟩ : ∃ k, D.length = k := ⟨_, rfl⟩
  obtain ⟨X0, hX0⟩ : ∃ X, peekV 4 D 0 = X := ⟨_, rfl⟩
  obtain ⟨X1, hX1⟩ : ∃ X, peekV 4 D 4 = X := ⟨_, rfl⟩
  obtain ⟨G, hG⟩ : ∃ G, rGs D n = G := ⟨_, rfl⟩
  obtain ⟨U, hU⟩ : ∃ U, words (D.drop (12 + 4 * n)) q = U := ⟨_, rfl⟩
  have hM : sMd X0 X1 G U = D := by rw [← hX0, ← hX1, ← hG, ← hU]; exact h.made
  have hGn : G.length = n := by rw [← hG, rGs_len]
  have hUq : U.length = q := by rw [← hU, words_len]
  rw [hk] at hck hA B0 K0 HR hFew ⊢
  have HC := hid hC
  have HCC := hid (show k ≤ c by omega)
  have HCK := hid hck
  have HK := hid hk
  have H0 := hid hX0
  have H1 := hid hX1
  have HGG := hid hG
  have HUU := hid hU
  have HM := hid hM
  have HGN := hid hGn
  have HUQ := hid hUq
  have HNQ := hid (show n + q ≤ 16379 by omega)
  have HKL := hid (show k ≤ 65531 by omega)
  clear h hC hc hK hg hr hr0 hE hR3 hck hlen hle hk hX0 hX1 hG hU hM hGn hUq hm
  unfold ckV at *
  go_enter Tryz.func6, Tryz.ntmps6
  go_wp2_with fail
  refine hA.mono ?_
  rintro e w1 ⟨rfl, hb⟩
  have B1 := hid (cthen B0.out hb)
  have K1 := hid (blk_below K0.out hb)
  clear hb hA K0 B0
  obtain ⟨⟨x0, x1, x2, x3⟩, -⟩ := four K1.out
  go_wp2_with fail
  refine (hFew.out _ B1.out).mono ?_
  rintro e w2 ⟨b, rfl, hb70, hb⟩
  have B2 := hid (cthen B1.out hb)
  have K2 := hid (blk_below K1.out hb)
  clear hb hFew K1 x0 x1 x2 x3 hb70
  obtain ⟨⟨x0, x1, x2, x3⟩, -⟩ := four K2.out
  cases b
  · have hA := sawake_any w2 (HG.out.below B2.out)
    go_wp2_with fail
    refine hA.mono ?_
    rintro e w3 ⟨rfl, hb⟩
    have B3 := hid (cthen B2.out hb)
    clear hb hA
    go_wp2_with fail
    go_ret
    exact ⟨rfl, B3.out⟩
  · have hof := sof_read 0 A K c 0 d k n q D X0 X1 G U w2 HS.out HK.out H0.out H1.out HGG.out HUU.out (HC.out.below B2.out) HCC.out (fun W hW => HCK.out W (cthen B2.out hW))
    go_wp2_with fail
    refine hof.mono ?_
    rintro e w3 ⟨A3, c3, B3', d3, rfl, hc3, hg3, hd3, hu3, hb⟩
    have B3 := hid (cthen B2.out hb)
    have K3 := hid (blk_below K2.out hb)
    have C3 := hid hc3
    have G3 := hid hg3
    have D3 := hid hd3
    have U3 := hid hu3
    clear hb K2 x0 x1 x2 x3 hof hc3 hg3 hd3 hu3
    go_upto_region 4 with fail
    obtain ⟨S4, hS4⟩ : ∃ S4, w3.alloc (.cells #[.int .u32 X0, .int .u32 X1, .slice A3 n c3, .slice B3' q d3] 49) = S4 := ⟨_, rfl⟩
    have hbS : Below w3.heap.size w3 S4 := by rw [← hS4]; exact below_alloc (Below.refl _ _) _
    have P4 := hid (show S4.heap[w3.heap.size]? = some (.cells #[.int .u32 X0, .int .u32 X1, .slice A3 n c3, .slice B3' q d3] 49 (0, 0)) by rw [← hS4]; exact blk_new w3 _)
    have B4 := hid (cthen B3.out hbS)
    have K4 := hid (blk_below K3.out hbS)
    have G4 := hid (G3.out.below hbS)
    have U4 := hid (U3.out.below hbS)
    rw [hS4]
    clear hS4 hbS
    obtain ⟨⟨x0, x1, x2, x3⟩, -⟩ := four K4.out
    go_wp2_with fail
    refine (HR.out _ B4.out).mono ?_
    rintro e w5 ⟨rfl, hb⟩
    have B5 := hid (cthen B4.out hb)
    have K5 := hid (blk_below K4.out hb)
    have P5 := hid (blk_below P4.out hb)
    have G5 := hid (G4.out.below hb)
    have U5 := hid (U4.out.below hb)
    clear hb K4 x0 x1 x2 x3
    obtain ⟨⟨y0, y1, y2, y3⟩, -⟩ := four P5.out
    have hmk := smake_read X0 X1 A3 B3' c3 d3 n q k G U D w5 HGN.out HUQ.out HM.out HK.out G5.out C3.out U5.out D3.out HNQ.out
    go_wp2_with fail
    refine hmk.mono ?_
    rintro e w6 ⟨A6, c6, rfl, hc6, hg6, hb⟩
    have B6 := hid (cthen B5.out hb)
    have K6 := hid (blk_below K5.out hb)
    have P6 := hid (blk_below P5.out hb)
    have G6 := hid (G5.out.below hb)
    have U6 := hid (U5.out.below hb)
    have C6 := hid hc6
    have M6 := hid hg6
    clear hb K5 y0 y1 y2 y3 hmk hc6 hg6
    go_upto_region 9 with fail
    obtain ⟨S7, hS7⟩ : ∃ S7, w6.alloc (.cells #[.int .u8 3, .int .u8 0, .slice A6 k c6, .slice none 0 0] 35) = S7 := ⟨_, rfl⟩
    have hbS : Below w6.heap.size w6 S7 := by rw [← hS7]; exact below_alloc (Below.refl _ _) _
    have R7 := hid (show S7.heap[w6.heap.size]? = some (.cells #[.int .u8 3, .int .u8 0, .slice A6 k c6, .slice none 0 0] 35 (0, 0)) by rw [← hS7]; exact blk_new w6 _)
    have B7 := hid (cthen B6.out hbS)
    have K7 := hid (blk_below K6.out hbS)
    have P7 := hid (blk_below P6.out hbS)
    have G7 := hid (G6.out.below hbS)
    have U7 := hid (U6.out.below hbS)
    have M7 := hid (M6.out.below hbS)
    rw [hS7]
    clear hS7 hbS
    obtain ⟨⟨x0, x1, x2, x3⟩, -⟩ := four K7.out
    obtain ⟨⟨y0, y1, y2, y3⟩, -⟩ := four P7.out
    obtain ⟨⟨z0, z1, z2, z3⟩, -⟩ := four R7.out
    have hS0 : C12 S7 w3.heap.size w.heap.size w6.heap.size (.int .u32 X0) (.int .u32 X1) (.slice A3 n c3) (.slice B3' q d3) (.int .u8 3) (.int .u8 0) (.slice A k c) (.slice K 0 d) (.int .u8 3) (.int .u8 0) (.slice A6 k c6) (.slice none 0 0) S7.drew := ⟨below_drew (Below.refl _ _) 1, y0, y1, y2, y3, x0, x1, x2, x3, z0, z1, z2, z3⟩
    unfold C12 at hS0
    have C1 := hid (fun W (hW : Below S7.heap.size S7 W) => sbk_read X0 X1 A3 c3 n G B3' q d3 W HGN.out (G7.out.below hW) (by have := HNQ.out; omega))
    have C2 := hid (fun W (hW : Below S7.heap.size S7 W) => rsf_read 0 A K c 0 d k n q D X0 X1 G U W HS.out HK.out H0.out H1.out HGG.out HUU.out (HC.out.below (cthen B7.out hW)) HCC.out)
    have CS := hid (fun W (hW : Below S7.heap.size S7 W) => show Calls Tryz.prog 24 #[.agg #[.int .u8 3, .int .u8 0, .slice A6 k c6, .slice none 0 0], .agg #[.int .u8 3, .int .u8 0, .slice A k c, .slice K 0 d]] W (IsPost (.bool true) W) by
      have := same12_any 3 0 A6 A none K c6 c 0 d D W (M7.out.below hW) (HC.out.below (cthen B7.out hW)) (by rw [HK.out]; exact C6.out) (by rw [HK.out]; exact HCC.out) (by rw [HK.out]; have := HKL.out; omega)
      rw [HK.out] at this
      exact this)
    clear x0 x1 x2 x3 y0 y1 y2 y3 z0 z1 z2 z3
    go_wp2_with fail
    go_region_held3 (fun W => Below S7.heap.size S7 W ∧ W.cell? ⟨w3.heap.size, 0, none⟩ = some (.int .u32 X0) ∧ W.cell? ⟨w3.heap.size, 1, none⟩ = some (.int .u32 X1) ∧ W.cell? ⟨w3.heap.size, 2, none⟩ = some (.slice A3 n c3) ∧ W.cell? ⟨w3.heap.size, 3, none⟩ = some (.slice B3' q d3) ∧ W.cell? ⟨w.heap.size, 0, none⟩ = some (.int .u8 3) ∧ W.cell? ⟨w.heap.size, 1, none⟩ = some (.int .u8 0) ∧ W.cell? ⟨w.heap.size, 2, none⟩ = some (.slice A k c) ∧ W.cell? ⟨w.heap.size, 3, none⟩ = some (.slice K 0 d) ∧ W.cell? ⟨w6.heap.size, 0, none⟩ = some (.int .u8 3) ∧ W.cell? ⟨w6.heap.size, 1, none⟩ = some (.int .u8 0) ∧ W.cell? ⟨w6.heap.size, 2, none⟩ = some (.slice A6 k c6) ∧ W.cell? ⟨w6.heap.size, 3, none⟩ = some (.slice none 0 0))
      (first | with_reducible assumption | (refine C12.blw ?_ (by with_reducible assumption); with_reducible assumption))
      (first
        | (go_at_call 27; refine Calls.mono (C1.out _ (And.left (by with_reducible assumption))) ?_; rintro e W ⟨A8, c8, rfl, hg8, hb⟩)
        | (go_at_call 32; refine Calls.mono (C2.out _ (And.left (by with_reducible assumption))) ?_; rintro e W ⟨A9, c9, B9, d9, rfl, hg9, hu9, hb⟩; have hg8 := GpC.below hg8 hb)
        | (go_at_call 26; refine Calls.mono (rsame_any X0 X1 A8 A9 B3' B9 c8 c9 d3 d9 n q G U _ HGN.out HUQ.out (by with_reducible exact hg8) (by with_reducible exact hg9) (U7.out.below (And.left (by with_reducible assumption))) (by with_reducible exact hu9) (by have := HNQ.out; omega) (by have := HNQ.out; omega)) ?_; rintro e W ⟨rfl, hb⟩)
        | (go_at_call 24; refine Calls.mono (CS.out _ (And.left (by with_reducible assumption))) ?_; rintro e W ⟨rfl, hb⟩))
    all_goals
      have HW7 := hid (show Below S7.heap.size S7 W from And.left (by with_reducible assumption))
      have B8 := hid (cthen B7.out HW7.out)
      go_wp2_with fail
      go_ret
      exact ⟨rfl, B8.out⟩
set_option maxRecDepth 100000 in
theorem law6_any (t f : Int) (A K : Option Addr) (c d : Nat) (D : List Int) (xs : List PForwardChunks.S114) (w : World) (h0 : 0 ≤ f) (h1 : f ≤ 255) (hC : BC w A D) (hB : Byt D) (hc : D.length ≤ c) (hK : Kd.C PForwardChunks.k114 w K xs.length xs) (hd : xs.length ≤ d) (hg : GTab w) :
    Calls Tryz.prog 6 #[ckV t f A D.length c K xs.length d] w (IsPost (.bool true) w) := by
  by_cases hl : D.length ≤ 70000 ∧ xs.length ≤ 200
  · by_cases ht : t = 3
    · subst ht
      obtain ⟨Y, hE⟩ : ∃ Y, codeOnly (E3 f D xs.length) = Y := ⟨_, rfl⟩
      obtain ⟨r, hr0, hr⟩ := rck_3 f A K c xs.length d D w h0 h1 hC hB hc hl.1
      rcases Y with _ | X
      · obtain ⟨hf, hm, n, q, g1, g2, g3, g4⟩ := (pgood_3 h0 h1 hB).1 hE
        subst hf
        rw [hm] at hK ⊢
        exact law6_good A K c d n q D xs w ⟨hB, g1, g2, g3, g4⟩ hm hC hc hK hg
      · have hrn : (r == 0) = false := by
          have : r ≠ 0 := fun e => by
            have := (pgood_3 h0 h1 hB).2 (hr0.1 e)
            rw [hE] at this
            cases this
          simpa using this
        exact law6_no 3 f A K c d D xs w r (Or.inr hrn) hC hc hK hd hg (fun W0 hW0 => sof_bad f A K D.length c xs.length d W0 X (fun W hWW => by
          have hW := cthen hW0 hWW
          have h := check_3 f A K c xs.length d D W (hg.below hW) (by omega) (hC.below hW) hB hc (by omega)
          rwa [hE] at h)) (fun _ => hr trivial)
    · exact law6_no t f A K c d D xs w 0 (Or.inl (by simpa using ht)) hC hc hK hd hg (fun W _ => sof_other t f A K D.length c xs.length d W ht) (fun e => absurd e ht)
  · exact law6_long t f A K c d D xs w (by omega) hC hc hK hd hg
end Sk14
end Go.Proofs.YtcjcgehhmjnlcaaGreatDoor
