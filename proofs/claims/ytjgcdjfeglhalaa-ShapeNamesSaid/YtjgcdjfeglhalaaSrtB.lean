import Derived.Test.YtjgcdjfeglhalaaSrtA
import Derived.Sort.LotB
namespace Go.Proofs.Ytjgcdjfeglhalaa.Srt
open Go.RowKit Go.Sort

section
variable {α : Type} [Inhabited α] (lt : α → α → Bool)
/-- The child that a round of siftDown compares. -/
def sdChild (hi F root : Nat) (d : Array α) : Nat := if 2 * root + 2 < hi ∧ lt d[F + (2 * root + 1)]! d[F + (2 * root + 2)]! = true then 2 * root + 2 else 2 * root + 1
theorem sd_none {hi F root : Nat} (d : Array α) (h : hi ≤ 2 * root + 1) : siftDown lt hi F root d = d := by rw [siftDown, dif_pos h]
theorem sd_round {hi F root : Nat} (d : Array α) (h : ¬ hi ≤ 2 * root + 1) :
    siftDown lt hi F root d = if lt d[F + root]! d[F + sdChild lt hi F root d]! = true then siftDown lt hi F (sdChild lt hi F root d) (swp d (F + root) (F + sdChild lt hi F root d)) else d := by
  have e : F + (2 * root + 1) + 1 = F + (2 * root + 2) := by omega
  by_cases hX : 2 * root + 2 < hi ∧ lt d[F + (2 * root + 1)]! d[F + (2 * root + 2)]! = true
  · rw [show sdChild lt hi F root d = 2 * root + 2 from if_pos hX, siftDown, dif_neg (by omega), e, if_pos (by simp [hX.2]; omega)]
    cases lt d[F + root]! d[F + (2 * root + 2)]! <;> simp [hX.1]
  · rw [show sdChild lt hi F root d = 2 * root + 1 from if_neg hX, siftDown, dif_neg (by omega), e, if_neg (fun h => hX (by simp only [Bool.and_eq_true, decide_eq_true_eq] at h; exact ⟨by omega, h.2⟩))]
    cases lt d[F + root]! d[F + (2 * root + 1)]! <;> simp
theorem sdChild_range {hi F root : Nat} (d : Array α) (h : ¬ hi ≤ 2 * root + 1) : root < sdChild lt hi F root d ∧ sdChild lt hi F root d < hi := by
  unfold sdChild
  split <;> omega
end

theorem siftDown_calls (blk off cap : Nat) (d : Array Int) (lo hi first : Nat) (w : World) (hH : Holds encU w blk off d) (hblk : blk < w.heap.size) (hlo : lo ≤ hi) (hb : first + hi ≤ d.size) (hsz : d.size < 4611686018427387904) :
    Calls Try.prog 40 #[.slice (some ⟨blk, off, none⟩) d.size cap, .int .i64 lo, .int .i64 hi, .int .i64 first] w fun e w' =>
      e = .returned (.tuple #[]) ∧ At encU w blk off (siftDown ltInt hi first lo d) w' := by
  go_enter Try.func40, Try.ntmps40
  go_wp2
  go_loopg [8] (hi - lo) (fun k s8 wr => ∃ (root : Nat) (dk : Array Int), s8 = .int .i64 root ∧ root ≤ hi ∧ hi - root ≤ k ∧ dk.size = d.size ∧ At encU w blk off dk wr ∧ siftDown ltInt hi first root dk = siftDown ltInt hi first lo d)
  case atStart => exact ⟨lo, d, rfl, hlo, Nat.le_refl _, rfl, At.refl hH, rfl⟩
  case round =>
    obtain ⟨root, dk, rfl, hr, hk, hds, hwr, heq⟩ := hrel
    have A : Hid (siftDown ltInt hi first root dk = siftDown ltInt hi first lo d) := heq
    clear heq
    by_cases h0 : hi ≤ 2 * root + 1
    · have h0z : (hi : Int) ≤ 2 * (root : Int) + 1 := by omega
      go_wp2
      go_end0
      exact ⟨rfl, by rw [← A.out, sd_none ltInt dk h0]; exact hwr⟩
    · have h0z : ¬ ((hi : Int) ≤ 2 * (root : Int) + 1) := by omega
      obtain ⟨hc1, hc2⟩ := sdChild_range ltInt (F := first) dk h0
      obtain ⟨c, hc⟩ : ∃ c, sdChild ltInt hi first root dk = c := ⟨_, rfl⟩
      rw [hc] at hc1 hc2
      have C : Hid (sdChild ltInt hi first root dk = c) := hc
      clear hc
      obtain ⟨G, hG, hcw, hfw, hbw⟩ := At.cells hwr hH hds hblk
      have HG : Hid (∀ t, G t = dk[t]!) := hG
      clear hG
      go_upto_region 3 with fail
      go_cut [36] from 11 (fun s36 wx => s36 = .bool (c == 2 * root + 2) ∧ At encU w blk off dk wx)
      case first =>
        by_cases h1 : 2 * root + 2 < hi
        · have h1z : 2 * (root : Int) + 1 + 1 < (hi : Int) := by omega
          go_big_quiet (first | (go_at_call 33; refine Calls.quiet_of_same (less_calls _ _ _)))
          go_wp2_with fail
          go_meet
          case rel =>
            refine ⟨?_, hwr.ahead nq⟩
            rw [← C.out]
            unfold sdChild
            have e1 : first + 2 * root + 1 = first + (2 * root + 1) := by omega
            have e2 : first + 2 * root + 2 = first + (2 * root + 2) := by omega
            simp only [e1, e2, HG.out]
            cases ltInt dk[first + (2 * root + 1)]! dk[first + (2 * root + 2)]! <;> simp [h1]
        · have h1z : decide (2 * (root : Int) + 1 + 1 < (hi : Int)) = false := decide_eq_false (by omega)
          go_big_quiet (first | (go_at_call 33; refine Calls.quiet_of_same (less_calls _ _ _)))
          go_wp2_with fail
          go_meet
          case rel => exact ⟨by rw [← C.out]; unfold sdChild; rw [if_neg (fun h => h1 h.1)]; simp, hwr.ahead nq⟩
      case rest =>
      obtain ⟨rfl, hAt0⟩ := hcut
      clear hcw hfw hbw HG G hwr
      go_upto_if 36 with fail
      go_cut [9] from 11 (fun s9 wx => s9 = .int .i64 c ∧ At encU w blk off dk wx)
      case first =>
        have hcc : c = 2 * root + 1 ∨ c = 2 * root + 2 := by
          rw [← C.out]; unfold sdChild; split <;> simp
        rcases hcc with hcc | hcc
        · have hb0 : (c == 2 * root + 2) = false := by simp [hcc]
          go_wp2_with fail
          go_meet
          case rel => exact ⟨by rw [hcc]; simp, hAt0⟩
        · have hb0 : (c == 2 * root + 2) = true := by simp [hcc]
          go_wp2_with fail
          go_meet
          case rel => exact ⟨by rw [hcc]; simp; omega, hAt0⟩
      case rest =>
        obtain ⟨rfl, hAt⟩ := hcut
        obtain ⟨G, hG, hcw, hfw, hbw⟩ := At.cells hAt hH hds hblk
        have HG : Hid (∀ t, G t = dk[t]!) := hG
        clear hG
        go_wp2_with fail
        go_big_quiet (first | (go_at_call 33; refine Calls.quiet_of_same (less_calls _ _ _)))
        cases hS : ltInt (G (first + root)) (G (first + c))
        · go_wp2_with fail
          (try simp only [Exit.inBlock, Exit.then]); refine bodyPost_ret (results_none rfl _ _ _) rfl ?_
          refine ⟨rfl, ?_⟩
          rw [← A.out, sd_round ltInt dk h0, C.out, ← HG.out, ← HG.out, hS]
          exact hAt.ahead nq
        · go_wp2_with fail
          go_region
          go_wp2
          go_roundg (hi - c)
          case measure => omega
          case rel =>
            refine ⟨c, swp dk (first + root) (first + c), by simp, by omega, Nat.le_refl _, by rw [size_swp]; exact hds, ?_, ?_⟩
            · exact At.swap hAt hblk HG.out _ (first + root) (first + c) (by omega) (by omega)
            · rw [← A.out, sd_round ltInt dk h0, C.out, if_pos (by rw [← HG.out, ← HG.out]; exact hS)]
#print axioms siftDown_calls
end Go.Proofs.Ytjgcdjfeglhalaa.Srt
