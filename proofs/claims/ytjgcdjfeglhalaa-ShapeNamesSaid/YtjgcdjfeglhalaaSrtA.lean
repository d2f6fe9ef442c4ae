import Derived.Test.YtjgcdjfeglhalaaProg
import Derived.Sort.LotA
import Derived.Sort.Walk13a
import Derived.BigGuard
import Derived.BigCall
import Derived.CellFam
import Derived.Deep.Draws
import Derived.Deep.QuietTactic
import Derived.WalkKit
import Derived.KernelRfl
import Derived.RowKit3
import Derived.BigQuiet
import Derived.Deep.Cut
import Derived.BigRegion
namespace Go.Proofs.Ytjgcdjfeglhalaa.Srt
open Go.RowKit Go.Sort

/-- The cells of a row of numbers of this kind. -/
abbrev encU : Int → Value := Value.int .u16

def intOf : Value → Int | .int _ q => q | _ => 0

section
variable {α : Type} [Inhabited α] (lt : α → α → Bool)
theorem ins_step (a j : Nat) (d : Array α) (hj : a < j) (hl : lt d[j]! d[j - 1]! = true) : insInner lt a j d = insInner lt a (j - 1) (swp d j (j - 1)) := by
  cases j with
  | zero => omega
  | succ k =>
    rw [insInner]
    simp only [Nat.add_sub_cancel] at hl ⊢
    rw [if_pos (by simp [hl]; omega)]
theorem ins_end (a j : Nat) (d : Array α) (h : j ≤ a ∨ lt d[j]! d[j - 1]! = false) : insInner lt a j d = d := by
  cases j with
  | zero => rw [insInner]
  | succ k =>
    rw [insInner, if_neg]
    simp only [Nat.add_sub_cancel] at h
    rcases h with h | h
    · simp; omega
    · simp [h]
theorem insO_step (a b i : Nat) (d : Array α) (h : i < b) : insOuter lt a b i d = insOuter lt a b (i + 1) (insInner lt a i d) := by rw [insOuter, if_pos h]
theorem insO_end (a b i : Nat) (d : Array α) (h : ¬ i < b) : insOuter lt a b i d = d := by rw [insOuter, if_neg h]
end

theorem isNaN_calls (x : Int) (w : World) : Calls Try.prog 45 #[.int .u16 x] w fun e w' => e = .returned (.bool false) ∧ w' = w := by
  go_enter Try.func45, Try.ntmps45
  go_wp2
  go_ret
  exact ⟨by simp, rfl⟩

theorem less_calls (x y : Int) (w : World) : Calls Try.prog 33 #[.int .u16 x, .int .u16 y] w fun e w' => e = .returned (.bool (ltInt x y)) ∧ w' = w := by
  go_enter Try.func33, Try.ntmps33
  go_wp2_with (go_at_call 45; refine (isNaN_calls _ _).mono ?_; rintro e w' ⟨rfl, rfl⟩)
  go_ret
  exact ⟨rfl, rfl⟩

section
variable {w wr : World} {blk off : Nat} {d0 d : Array Int}
/-- What the cells of a row say, by a function of the index. -/
theorem At.cells (h : At encU w blk off d wr) (h0 : Holds encU w blk off d0) (hs : d.size = d0.size) (hb : blk < w.heap.size) :
    ∃ G : Nat → Int, (∀ t, G t = d[t]!) ∧ (∀ t, t < d0.size → wr.cell? ⟨blk, off + t, none⟩ = some (.int .u16 (G t))) ∧ (∀ t, t < d0.size → wr.frozen? ⟨blk, off + t, none⟩ = false) ∧ blk < wr.heap.size :=
  have H := h.holds h0 hs hb
  ⟨fun t => d[t]!, fun _ => rfl, fun t ht => (H.1 t (by omega)).1, fun t ht => (H.1 t (by omega)).2, H.2⟩
/-- Two stores that exchange. -/
theorem At.swap {G : Nat → Int} (h : At encU w blk off d wr) (hb : blk < w.heap.size) (hG : ∀ t, G t = d[t]!) (q i j : Nat) (hi : i < d.size) (hj : j < d.size) :
    At encU w blk off (swp d i j) (((wr.drewN q).setCell ⟨blk, off + i, none⟩ (.int .u16 (G j))).setCell ⟨blk, off + j, none⟩ (.int .u16 (G i))) := by
  obtain ⟨n, os, rfl⟩ := h
  refine ⟨n + q, os, ?_⟩
  have e1 : (grow (putRow encU (Sort.ahead w n) blk off d) os).drewN q = grow (putRow encU (Sort.ahead w (n + q)) blk off d) os := by
    show Sort.ahead (grow (putRow encU (Sort.ahead w n) blk off d) os) q = _
    rw [ahead_grow, putRow_ahead, ahead_ahead, ← putRow_ahead]
  rw [e1, ← putRow_grow _ _ _ _ _ _ (by simpa using hb), hG, hG, putRow_swp encU _ blk off d i j hi hj, putRow_grow _ _ _ _ _ _ (by simpa using hb)]
end

theorem insertion_calls (blk off cap a b : Nat) (d : Array Int) (w : World) (hH : Holds encU w blk off d) (hblk : blk < w.heap.size) (hab : a ≤ b) (hb : b ≤ d.size) (hsz : d.size < 4611686018427387904) :
    Calls Try.prog 27 #[.slice (some ⟨blk, off, none⟩) d.size cap, .int .i64 a, .int .i64 b] w fun e w' =>
      e = .returned (.tuple #[]) ∧ At encU w blk off (Sort.insertionSort ltInt d a b) w' := by
  go_enter Try.func27, Try.ntmps27
  go_wp2
  go_loopw [6] (fun vi wr => ∃ (i : Nat) (dk : Array Int), vi = .int .i64 i ∧ a < i ∧ i ≤ b + 1 ∧ dk.size = d.size ∧ At encU w blk off dk wr ∧
      insOuter ltInt a b i dk = insOuter ltInt a b (a + 1) d) (fun vi _ => b + 1 - (intOf vi).toNat)
  case atStart => exact ⟨a + 1, d, by go_num, by omega, by omega, rfl, At.refl hH, rfl⟩
  case round =>
    obtain ⟨i, dk, rfl, hai, hib, hsk, hwr, hO⟩ := hrel
    have HO : Hid (insOuter ltInt a b i dk = insOuter ltInt a b (a + 1) d) := hO
    clear hO
    by_cases hlt : i < b
    · go_wp2
      go_loopw [7] (fun vj wr2 => ∃ (j : Nat) (dj : Array Int), vj = .int .i64 j ∧ a ≤ j ∧ j ≤ i ∧ dj.size = d.size ∧ At encU w blk off dj wr2 ∧
          insInner ltInt a j dj = insInner ltInt a i dk) (fun vj _ => (intOf vj).toNat)
      case atStart => exact ⟨i, dk, rfl, by omega, Nat.le_refl _, hsk, hwr, rfl⟩
      case round =>
        obtain ⟨j, dj, rfl, haj, hji, hsj, hw2, hI⟩ := hrel
        have HI : Hid (insInner ltInt a j dj = insInner ltInt a i dk) := hI
        clear hI
        obtain ⟨G, hG, hcw, hfw, hbw⟩ := At.cells hw2 hH hsj hblk
        have HG : Hid (∀ t, G t = dj[t]!) := hG
        clear hG
        have OUT : Hid ((j ≤ a ∨ ltInt (G j) (G (j - 1)) = false) → insOuter ltInt a b (i + 1) dj = insOuter ltInt a b (a + 1) d) := fun hs => by
          rw [HG.out, HG.out] at hs
          rw [← HO.out, insO_step _ _ _ _ _ hlt, ← HI.out, ins_end _ _ _ _ hs]
        go_wp2
        by_cases hja : a < j
        · go_quiet (first | (go_at_call 33; refine Calls.quiet_of_same (less_calls _ _ _)))
          cases hl : ltInt (G j) (G (j - 1))
          · go_wp2
            go_roundw
            case rel => exact ⟨i + 1, dj, by go_num, by omega, by omega, hsj, hw2.ahead nq, OUT.out (Or.inr hl)⟩
            case measure => simp [intOf]; omega
          · go_wp2
            go_region
            all_goals go_wp2
            go_roundw
            case rel =>
              refine ⟨j - 1, swp dj j (j - 1), by congr 1; omega, by omega, by omega, by rw [size_swp]; exact hsj, ?_, ?_⟩
              · exact At.swap hw2 hblk HG.out (nq + 1) j (j - 1) (by omega) (by omega)
              · rw [← HI.out, ins_step ltInt a j dj hja (by rw [← HG.out, ← HG.out]; exact hl)]
            case measure => simp [intOf]; omega
        · go_quiet (first | (go_at_call 33; refine Calls.quiet_of_same (less_calls _ _ _)))
          go_wp2
          go_roundw
          case rel => exact ⟨i + 1, dj, by go_num, by omega, by omega, hsj, hw2.ahead nq, OUT.out (Or.inl (by omega))⟩
          case measure => simp [intOf]; omega
    · go_wp2
      go_end0
      exact ⟨rfl, by unfold Sort.insertionSort; rw [← HO.out, insO_end _ _ _ _ _ hlt]; exact hwr⟩
#print axioms insertion_calls
end Go.Proofs.Ytjgcdjfeglhalaa.Srt
