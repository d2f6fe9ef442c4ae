import Derived.Test.YtjgcdjfeglhalaaSrtB
namespace Go.Proofs.Ytjgcdjfeglhalaa.Srt
open Go.RowKit Go.Sort

section
variable {α : Type} [Inhabited α] (lt : α → α → Bool)
theorem siftDown_size (hi F : Nat) : ∀ (n root : Nat) (d : Array α), hi - root ≤ n → (siftDown lt hi F root d).size = d.size := by
  intro n
  induction n with
  | zero => intro root d h; rw [sd_none lt d (by omega)]
  | succ n ih =>
    intro root d h
    by_cases h0 : hi ≤ 2 * root + 1
    · rw [sd_none lt d h0]
    · have hr := sdChild_range lt (F := F) d h0
      rw [sd_round lt d h0]
      split
      · rw [ih _ _ (by omega), size_swp]
      · rfl
theorem hbuild_step (hi F k : Nat) (d : Array α) : heapBuild lt hi F (k + 1) d = heapBuild lt hi F k (siftDown lt hi F k d) := rfl
theorem hpop_step (F k : Nat) (d : Array α) : heapPop lt F (k + 1) d = heapPop lt F k (siftDown lt k F 0 (swp d F (F + k))) := rfl
theorem rev_step {i j : Nat} (d : Array α) (h : i < j) : reverseLoop i j d = reverseLoop (i + 1) (j - 1) (swp d i j) := by rw [reverseLoop, if_pos h]
theorem rev_end {i j : Nat} (d : Array α) (h : ¬ i < j) : reverseLoop i j d = d := by rw [reverseLoop, if_neg h]
end

theorem half_nat (a b : Nat) (hab : a ≤ b) : ((b : Int) - (a : Int) - 1).tdiv 2 = (((b - a - 1) / 2 : Nat) : Int) := by
  by_cases h : a = b
  · subst h; simp
  · have e : (b : Int) - (a : Int) - 1 = ((b - a - 1 : Nat) : Int) := by omega
    rw [e]
    exact (Int.ofNat_tdiv _ _).symm

theorem reverse_calls (blk off cap a b : Nat) (d : Array Int) (w : World) (hH : Holds encU w blk off d) (hblk : blk < w.heap.size) (hab : a ≤ b) (hb : b ≤ d.size) (hsz : d.size < 4611686018427387904) :
    Calls Try.prog 31 #[.slice (some ⟨blk, off, none⟩) d.size cap, .int .i64 a, .int .i64 b] w fun e w' =>
      e = .returned (.tuple #[]) ∧ At encU w blk off (reverseRange d a b) w' := by
  go_enter Try.func31, Try.ntmps31
  go_wp2
  go_loopg [6, 7] b (fun k s6 s7 wr => ∃ (i : Nat) (z : Int) (dk : Array Int), s6 = .int .i64 i ∧ s7 = .int .i64 z ∧ -1 ≤ z ∧ z < b ∧ a ≤ i ∧ i ≤ b ∧ z.toNat ≤ k ∧ dk.size = d.size ∧ At encU w blk off dk wr ∧ reverseLoop i z.toNat dk = reverseRange d a b)
  case atStart => exact ⟨a, (b : Int) - 1, d, rfl, rfl, by omega, by omega, by omega, by omega, by omega, rfl, At.refl hH, by rw [show ((b : Int) - 1).toNat = b - 1 by omega]; rfl⟩
  case round =>
    obtain ⟨i, z, dk, rfl, rfl, hz0, hz1, hi0, hi1, hk, hds, hwr, heq⟩ := hrel
    have A : Hid (reverseLoop i z.toNat dk = reverseRange d a b) := heq
    clear heq
    by_cases h : (i : Int) < z
    · obtain ⟨j, rfl⟩ : ∃ j : Nat, z = j := ⟨z.toNat, by omega⟩
      have hij : i < j := by omega
      obtain ⟨G, hG, hcw, hfw, hbw⟩ := At.cells hwr hH hds hblk
      have HG : Hid (∀ t, G t = dk[t]!) := hG
      clear hG
      go_wp2_with fail
      go_region
      have hA2 := At.swap hwr hblk HG.out 1 i j (by omega) (by omega)
      go_wp2_with fail
      go_roundg (j - 1)
      case measure => omega
      case rel =>
        refine ⟨i + 1, (j : Int) - 1, swp dk i j, by simp, rfl, by omega, by omega, by omega, by omega, by omega, by rw [size_swp]; exact hds, hA2, ?_⟩
        rw [← A.out, rev_step dk (show i < (j : Int).toNat by omega), show ((j : Int) - 1).toNat = j - 1 by omega]
        rfl
    · go_wp2_with fail
      go_end0
      exact ⟨rfl, by rw [← A.out, rev_end dk (by omega)]; exact hwr⟩

theorem heapSort_calls (blk off cap a b : Nat) (d : Array Int) (w : World) (hH : Holds encU w blk off d) (hblk : blk < w.heap.size) (hab : a ≤ b) (hb : b ≤ d.size) (hsz : d.size < 4611686018427387904) :
    Calls Try.prog 28 #[.slice (some ⟨blk, off, none⟩) d.size cap, .int .i64 a, .int .i64 b] w fun e w' =>
      e = .returned (.tuple #[]) ∧ At encU w blk off (heapSort ltInt d a b) w' := by
  go_enter Try.func28, Try.ntmps28
  go_wp2
  go_loopg [9] ((b - a - 1) / 2 + 1) (fun k s9 wr => ∃ (dk : Array Int), s9 = .int .i64 ((k : Int) - 1) ∧ k ≤ (b - a - 1) / 2 + 1 ∧ dk.size = d.size ∧ At encU w blk off dk wr ∧ heapBuild ltInt (b - a) a k dk = heapBuild ltInt (b - a) a ((b - a - 1) / 2 + 1) d)
  case atStart =>
    refine ⟨d, ?_, Nat.le_refl _, rfl, At.refl hH, rfl⟩
    rw [half_nat a b hab]
    congr 1
    omega
  case round =>
    obtain ⟨dk, rfl, hk, hds, hwr, heq⟩ := hrel
    have A : Hid (heapBuild ltInt (b - a) a gk dk = heapBuild ltInt (b - a) a ((b - a - 1) / 2 + 1) d) := heq
    clear heq
    have H := hwr.holds hH hds hblk
    cases gk with
    | zero =>
      go_wp2
      have B : Hid (dk = heapBuild ltInt (b - a) a ((b - a - 1) / 2 + 1) d) := A.out
      clear A
      go_loopg [10] (b - a) (fun k s10 wr => ∃ (dj : Array Int), s10 = .int .i64 ((k : Int) - 1) ∧ k ≤ b - a ∧ dj.size = d.size ∧ At encU w blk off dj wr ∧ heapPop ltInt a k dj = heapSort ltInt d a b)
      case atStart =>
        refine ⟨dk, ?_, Nat.le_refl _, hds, hwr, ?_⟩
        · congr 1; omega
        · rw [B.out]; rfl
      case round =>
        clear B hwr H hds
        obtain ⟨dj, rfl, hk, hds, hwr, heq⟩ := hrel
        have A : Hid (heapPop ltInt a gk dj = heapSort ltInt d a b) := heq
        clear heq
        cases gk with
        | zero =>
          go_wp2
          go_end0
          exact ⟨rfl, by rw [← A.out]; exact hwr⟩
        | succ k =>
          rw [show (((k + 1 : Nat) : Int) - 1) = (k : Int) by omega]
          obtain ⟨G, hG, hcw, hfw, hbw⟩ := At.cells hwr hH hds hblk
          have HG : Hid (∀ t, G t = dj[t]!) := hG
          clear hG
          rcases Nat.eq_zero_or_pos k with rfl | hk0
          · go_wp2_with fail
            go_region
            have hA2 := At.swap hwr hblk HG.out 1 a a (by omega) (by omega)
            have hs2 : (swp dj a a).size = d.size := by rw [size_swp]; exact hds
            have H2 := hA2.holds hH hs2 hblk
            have hc := siftDown_calls blk off cap (swp dj a a) 0 0 a _ H2.1 H2.2 (by omega) (by omega) (by omega)
            rw [hs2] at hc
            go_wp2_with (go_at_call 40; refine hc.mono ?_; rintro e w1 ⟨rfl, hw1⟩)
            go_roundg 0
            case measure => omega
            case rel =>
              refine ⟨siftDown ltInt 0 a 0 (swp dj a a), rfl, by omega, by rw [siftDown_size ltInt _ _ _ _ _ (Nat.le_refl _)]; exact hs2, hA2.stepG hblk (siftDown_size ltInt _ _ _ _ _ (Nat.le_refl _)) hw1, ?_⟩
              rw [← A.out, hpop_step]
              rfl
          · go_wp2_with fail
            go_region
            have hA2 := At.swap hwr hblk HG.out 1 a (a + k) (by omega) (by omega)
            have hs2 : (swp dj a (a + k)).size = d.size := by rw [size_swp]; exact hds
            have H2 := hA2.holds hH hs2 hblk
            have hc := siftDown_calls blk off cap (swp dj a (a + k)) 0 k a _ H2.1 H2.2 (by omega) (by omega) (by omega)
            rw [hs2] at hc
            go_wp2_with (go_at_call 40; refine hc.mono ?_; rintro e w1 ⟨rfl, hw1⟩)
            go_roundg k
            case measure => omega
            case rel =>
              refine ⟨siftDown ltInt k a 0 (swp dj a (a + k)), rfl, by omega, by rw [siftDown_size ltInt _ _ _ _ _ (Nat.le_refl _)]; exact hs2, hA2.stepG hblk (siftDown_size ltInt _ _ _ _ _ (Nat.le_refl _)) hw1, ?_⟩
              rw [← hpop_step, A.out]
    | succ k =>
      rw [show (((k + 1 : Nat) : Int) - 1) = (k : Int) by omega]
      have hc := siftDown_calls blk off cap dk k (b - a) a wr H.1 H.2 (by omega) (by omega) (by omega)
      rw [hds, show ((b - a : Nat) : Int) = (b : Int) - (a : Int) by omega] at hc
      go_wp2_with (go_at_call 40; refine hc.mono ?_; rintro e w1 ⟨rfl, hw1⟩)
      go_roundg k
      case measure => omega
      case rel =>
        refine ⟨siftDown ltInt (b - a) a k dk, rfl, by omega, by rw [siftDown_size ltInt _ _ _ _ _ (Nat.le_refl _)]; exact hds, ?_, ?_⟩
        · exact hwr.stepG hblk (siftDown_size ltInt _ _ _ _ _ (Nat.le_refl _)) hw1
        · rw [← hbuild_step, A.out]
#print axioms reverse_calls
#print axioms heapSort_calls
end Go.Proofs.Ytjgcdjfeglhalaa.Srt
