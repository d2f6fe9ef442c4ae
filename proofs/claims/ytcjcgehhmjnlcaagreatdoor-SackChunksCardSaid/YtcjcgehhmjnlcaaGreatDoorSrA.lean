/- Joined: SrtA, SrtB, SrtC, SrtD. -/
import Derived.Test.YtcjcgehhmjnlcaaGreatDoorProg
import Derived.Sort.LotA
import Derived.Sort.Walk13a
import Derived.BigGuard
import Derived.BigCall
import Derived.CellFam
import Derived.Deep.Draws
import Derived.Deep.QuietTactic
import Derived.WalkKit
import Derived.KernelRfl
import Derived.RowKit3
import Derived.BigQuiet
import Derived.Deep.Cut
import Derived.BigRegion
import Derived.Sort.LotB
import Derived.Sort.LotC
import Derived.Deep.CutRange
namespace Go.Proofs.YtcjcgehhmjnlcaaGreatDoor.Srt
open Go.RowKit Go.Sort

/-- The cells of a row of numbers of this kind. -/
abbrev encU : Int → Value := Value.int .u32

def intOf : Value → Int | .int _ q => q | _ => 0

section
variable {α : Type} [Inhabited α] (lt : α → α → Bool)
theorem ins_step (a j : Nat) (d : Array α) (hj : a < j) (hl : lt d[j]! d[j - 1]! = true) : insInner lt a j d = insInner lt a (j - 1) (swp d j (j - 1)) := by
  cases j with
  | zero => omega
  | succ k =>
    rw [insInner]
    simp only [Nat.add_sub_cancel] at hl ⊢
    rw [if_pos (by simp [hl]; omega)]
theorem ins_end (a j : Nat) (d : Array α) (h : j ≤ a ∨ lt d[j]! d[j - 1]! = false) : insInner lt a j d = d := by
  cases j with
  | zero => rw [insInner]
  | succ k =>
    rw [insInner, if_neg]
    simp only [Nat.add_sub_cancel] at h
    rcases h with h | h
    · simp; omega
    · simp [h]
theorem insO_step (a b i : Nat) (d : Array α) (h : i < b) : insOuter lt a b i d = insOuter lt a b (i + 1) (insInner lt a i d) := by rw [insOuter, if_pos h]
theorem insO_end (a b i : Nat) (d : Array α) (h : ¬ i < b) : insOuter lt a b i d = d := by rw [insOuter, if_neg h]
end

theorem isNaN_calls (x : Int) (w : World) : Calls Tryz.prog 92 #[.int .u32 x] w fun e w' => e = .returned (.bool false) ∧ w' = w := by
  go_enter Tryz.func92, Tryz.ntmps92
  go_wp2
  go_ret
  exact ⟨by simp, rfl⟩

theorem less_calls (x y : Int) (w : World) : Calls Tryz.prog 159 #[.int .u32 x, .int .u32 y] w fun e w' => e = .returned (.bool (ltInt x y)) ∧ w' = w := by
  go_enter Tryz.func159, Tryz.ntmps159
  go_wp2_with (go_at_call 92; refine (isNaN_calls _ _).mono ?_; rintro e w' ⟨rfl, rfl⟩)
  go_ret
  exact ⟨rfl, rfl⟩

section
variable {w wr : World} {blk off : Nat} {d0 d : Array Int}
/-- What the cells of a row say, by a function of the index. -/
theorem At.cells (h : At encU w blk off d wr) (h0 : Holds encU w blk off d0) (hs : d.size = d0.size) (hb : blk < w.heap.size) :
    ∃ G : Nat → Int, (∀ t, G t = d[t]!) ∧ (∀ t, t < d0.size → wr.cell? ⟨blk, off + t, none⟩ = some (.int .u32 (G t))) ∧ (∀ t, t < d0.size → wr.frozen? ⟨blk, off + t, none⟩ = false) ∧ blk < wr.heap.size :=
  have H := h.holds h0 hs hb
  ⟨fun t => d[t]!, fun _ => rfl, fun t ht => (H.1 t (by omega)).1, fun t ht => (H.1 t (by omega)).2, H.2⟩
/-- Two stores that exchange. -/
theorem At.swap {G : Nat → Int} (h : At encU w blk off d wr) (hb : blk < w.heap.size) (hG : ∀ t, G t = d[t]!) (q i j : Nat) (hi : i < d.size) (hj : j < d.size) :
    At encU w blk off (swp d i j) (((wr.drewN q).setCell ⟨blk, off + i, none⟩ (.int .u32 (G j))).setCell ⟨blk, off + j, none⟩ (.int .u32 (G i))) := by
  obtain ⟨n, os, rfl⟩ := h
  refine ⟨n + q, os, ?_⟩
  have e1 : (grow (putRow encU (Sort.ahead w n) blk off d) os).drewN q = grow (putRow encU (Sort.ahead w (n + q)) blk off d) os := by
    show Sort.ahead (grow (putRow encU (Sort.ahead w n) blk off d) os) q = _
    rw [ahead_grow, putRow_ahead, ahead_ahead, ← putRow_ahead]
  rw [e1, ← putRow_grow _ _ _ _ _ _ (by simpa using hb), hG, hG, putRow_swp encU _ blk off d i j hi hj, putRow_grow _ _ _ _ _ _ (by simpa using hb)]
end

theorem insertion_calls (blk off cap a b : Nat) (d : Array Int) (w : World) (hH : Holds encU w blk off d) (hblk : blk < w.heap.size) (hab : a ≤ b) (hb : b ≤ d.size) (hsz : d.size < 4611686018427387904) :
    Calls Tryz.prog 153 #[.slice (some ⟨blk, off, none⟩) d.size cap, .int .i64 a, .int .i64 b] w fun e w' =>
      e = .returned (.tuple #[]) ∧ At encU w blk off (Sort.insertionSort ltInt d a b) w' := by
  go_enter Tryz.func153, Tryz.ntmps153
  go_wp2
  go_loopw [6] (fun vi wr => ∃ (i : Nat) (dk : Array Int), vi = .int .i64 i ∧ a < i ∧ i ≤ b + 1 ∧ dk.size = d.size ∧ At encU w blk off dk wr ∧
      insOuter ltInt a b i dk = insOuter ltInt a b (a + 1) d) (fun vi _ => b + 1 - (intOf vi).toNat)
  case atStart => exact ⟨a + 1, d, by go_num, by omega, by omega, rfl, At.refl hH, rfl⟩
  case round =>
    obtain ⟨i, dk, rfl, hai, hib, hsk, hwr, hO⟩ := hrel
    have HO : Hid (insOuter ltInt a b i dk = insOuter ltInt a b (a + 1) d) := hO
    clear hO
    by_cases hlt : i < b
    · go_wp2
      go_loopw [7] (fun vj wr2 => ∃ (j : Nat) (dj : Array Int), vj = .int .i64 j ∧ a ≤ j ∧ j ≤ i ∧ dj.size = d.size ∧ At encU w blk off dj wr2 ∧
          insInner ltInt a j dj = insInner ltInt a i dk) (fun vj _ => (intOf vj).toNat)
      case atStart => exact ⟨i, dk, rfl, by omega, Nat.le_refl _, hsk, hwr, rfl⟩
      case round =>
        obtain ⟨j, dj, rfl, haj, hji, hsj, hw2, hI⟩ := hrel
        have HI : Hid (insInner ltInt a j dj = insInner ltInt a i dk) := hI
        clear hI
        obtain ⟨G, hG, hcw, hfw, hbw⟩ := At.cells hw2 hH hsj hblk
        have HG : Hid (∀ t, G t = dj[t]!) := hG
        clear hG
        have OUT : Hid ((j ≤ a ∨ ltInt (G j) (G (j - 1)) = false) → insOuter ltInt a b (i + 1) dj = insOuter ltInt a b (a + 1) d) := fun hs => by
          rw [HG.out, HG.out] at hs
          rw [← HO.out, insO_step _ _ _ _ _ hlt, ← HI.out, ins_end _ _ _ _ hs]
        go_wp2
        by_cases hja : a < j
        · go_quiet (first | (go_at_call 159; refine Calls.quiet_of_same (less_calls _ _ _)))
          cases hl : ltInt (G j) (G (j - 1))
          · go_wp2
            go_roundw
            case rel => exact ⟨i + 1, dj, by go_num, by omega, by omega, hsj, hw2.ahead nq, OUT.out (Or.inr hl)⟩
            case measure => simp [intOf]; omega
          · go_wp2
            go_region
            all_goals go_wp2
            go_roundw
            case rel =>
              refine ⟨j - 1, swp dj j (j - 1), by congr 1; omega, by omega, by omega, by rw [size_swp]; exact hsj, ?_, ?_⟩
              · exact At.swap hw2 hblk HG.out (nq + 1) j (j - 1) (by omega) (by omega)
              · rw [← HI.out, ins_step ltInt a j dj hja (by rw [← HG.out, ← HG.out]; exact hl)]
            case measure => simp [intOf]; omega
        · go_quiet (first | (go_at_call 159; refine Calls.quiet_of_same (less_calls _ _ _)))
          go_wp2
          go_roundw
          case rel => exact ⟨i + 1, dj, by go_num, by omega, by omega, hsj, hw2.ahead nq, OUT.out (Or.inl (by omega))⟩
          case measure => simp [intOf]; omega
    · go_wp2
      go_end0
      exact ⟨rfl, by unfold Sort.insertionSort; rw [← HO.out, insO_end _ _ _ _ _ hlt]; exact hwr⟩
#print axioms insertion_calls
end Go.Proofs.YtcjcgehhmjnlcaaGreatDoor.Srt
namespace Go.Proofs.YtcjcgehhmjnlcaaGreatDoor.Srt
open Go.RowKit Go.Sort

section
variable {α : Type} [Inhabited α] (lt : α → α → Bool)
/-- The child that a round of siftDown compares. -/
def sdChild (hi F root : Nat) (d : Array α) : Nat := if 2 * root + 2 < hi ∧ lt d[F + (2 * root + 1)]! d[F + (2 * root + 2)]! = true then 2 * root + 2 else 2 * root + 1
theorem sd_none {hi F root : Nat} (d : Array α) (h : hi ≤ 2 * root + 1) : siftDown lt hi F root d = d := by rw [siftDown, dif_pos h]
theorem sd_round {hi F root : Nat} (d : Array α) (h : ¬ hi ≤ 2 * root + 1) :
    siftDown lt hi F root d = if lt d[F + root]! d[F + sdChild lt hi F root d]! = true then siftDown lt hi F (sdChild lt hi F root d) (swp d (F + root) (F + sdChild lt hi F root d)) else d := by
  have e : F + (2 * root + 1) + 1 = F + (2 * root + 2) := by omega
  by_cases hX : 2 * root + 2 < hi ∧ lt d[F + (2 * root + 1)]! d[F + (2 * root + 2)]! = true
  · rw [show sdChild lt hi F root d = 2 * root + 2 from if_pos hX, siftDown, dif_neg (by omega), e, if_pos (by simp [hX.2]; omega)]
    cases lt d[F + root]! d[F + (2 * root + 2)]! <;> simp [hX.1]
  · rw [show sdChild lt hi F root d = 2 * root + 1 from if_neg hX, siftDown, dif_neg (by omega), e, if_neg (fun h => hX (by simp only [Bool.and_eq_true, decide_eq_true_eq] at h; exact ⟨by omega, h.2⟩))]
    cases lt d[F + root]! d[F + (2 * root + 1)]! <;> simp
theorem sdChild_range {hi F root : Nat} (d : Array α) (h : ¬ hi ≤ 2 * root + 1) : root < sdChild lt hi F root d ∧ sdChild lt hi F root d < hi := by
  unfold sdChild
  split <;> omega
end

theorem siftDown_calls (blk off cap : Nat) (d : Array Int) (lo hi first : Nat) (w : World) (hH : Holds encU w blk off d) (hblk : blk < w.heap.size) (hlo : lo ≤ hi) (hb : first + hi ≤ d.size) (hsz : d.size < 4611686018427387904) :
    Calls Tryz.prog 174 #[.slice (some ⟨blk, off, none⟩) d.size cap, .int .i64 lo, .int .i64 hi, .int .i64 first] w fun e w' =>
      e = .returned (.tuple #[]) ∧ At encU w blk off (siftDown ltInt hi first lo d) w' := by
  go_enter Tryz.func174, Tryz.ntmps174
  go_wp2
  go_loopg [8] (hi - lo) (fun k s8 wr => ∃ (root : Nat) (dk : Array Int), s8 = .int .i64 root ∧ root ≤ hi ∧ hi - root ≤ k ∧ dk.size = d.size ∧ At encU w blk off dk wr ∧ siftDown ltInt hi first root dk = siftDown ltInt hi first lo d)
  case atStart => exact ⟨lo, d, rfl, hlo, Nat.le_refl _, rfl, At.refl hH, rfl⟩
  case round =>
    obtain ⟨root, dk, rfl, hr, hk, hds, hwr, heq⟩ := hrel
    have A : Hid (siftDown ltInt hi first root dk = siftDown ltInt hi first lo d) := heq
    clear heq
    by_cases h0 : hi ≤ 2 * root + 1
    · have h0z : (hi : Int) ≤ 2 * (root : Int) + 1 := by omega
      go_wp2
      go_end0
      exact ⟨rfl, by rw [← A.out, sd_none ltInt dk h0]; exact hwr⟩
    · have h0z : ¬ ((hi : Int) ≤ 2 * (root : Int) + 1) := by omega
      obtain ⟨hc1, hc2⟩ := sdChild_range ltInt (F := first) dk h0
      obtain ⟨c, hc⟩ : ∃ c, sdChild ltInt hi first root dk = c := ⟨_, rfl⟩
      rw [hc] at hc1 hc2
      have C : Hid (sdChild ltInt hi first root dk = c) := hc
      clear hc
      obtain ⟨G, hG, hcw, hfw, hbw⟩ := At.cells hwr hH hds hblk
      have HG : Hid (∀ t, G t = dk[t]!) := hG
      clear hG
      go_upto_region 3 with fail
      go_cut [36] from 11 (fun s36 wx => s36 = .bool (c == 2 * root + 2) ∧ At encU w blk off dk wx)
      case first =>
        by_cases h1 : 2 * root + 2 < hi
        · have h1z : 2 * (root : Int) + 1 + 1 < (hi : Int) := by omega
          go_big_quiet (first | (go_at_call 159; refine Calls.quiet_of_same (less_calls _ _ _)))
          go_wp2_with fail
          go_meet
          case rel =>
            refine ⟨?_, hwr.ahead nq⟩
            rw [← C.out]
            unfold sdChild
            have e1 : first + 2 * root + 1 = first + (2 * root + 1) := by omega
            have e2 : first + 2 * root + 2 = first + (2 * root + 2) := by omega
            simp only [e1, e2, HG.out]
            cases ltInt dk[first + (2 * root + 1)]! dk[first + (2 * root + 2)]! <;> simp [h1]
        · have h1z : decide (2 * (root : Int) + 1 + 1 < (hi : Int)) = false := decide_eq_false (by omega)
          go_big_quiet (first | (go_at_call 159; refine Calls.quiet_of_same (less_calls _ _ _)))
          go_wp2_with fail
          go_meet
          case rel => exact ⟨by rw [← C.out]; unfold sdChild; rw [if_neg (fun h => h1 h.1)]; simp, hwr.ahead nq⟩
      case rest =>
      obtain ⟨rfl, hAt0⟩ := hcut
      clear hcw hfw hbw HG G hwr
      go_upto_if 36 with fail
      go_cut [9] from 11 (fun s9 wx => s9 = .int .i64 c ∧ At encU w blk off dk wx)
      case first =>
        have hcc : c = 2 * root + 1 ∨ c = 2 * root + 2 := by
          rw [← C.out]; unfold sdChild; split <;> simp
        rcases hcc with hcc | hcc
        · have hb0 : (c == 2 * root + 2) = false := by simp [hcc]
          go_wp2_with fail
          go_meet
          case rel => exact ⟨by rw [hcc]; simp, hAt0⟩
        · have hb0 : (c == 2 * root + 2) = true := by simp [hcc]
          go_wp2_with fail
          go_meet
          case rel => exact ⟨by rw [hcc]; simp; omega, hAt0⟩
      case rest =>
        obtain ⟨rfl, hAt⟩ := hcut
        obtain ⟨G, hG, hcw, hfw, hbw⟩ := At.cells hAt hH hds hblk
        have HG : Hid (∀ t, G t = dk[t]!) := hG
        clear hG
        go_wp2_with fail
        go_big_quiet (first | (go_at_call 159; refine Calls.quiet_of_same (less_calls _ _ _)))
        cases hS : ltInt (G (first + root)) (G (first + c))
        · go_wp2_with fail
          (try simp only [Exit.inBlock, Exit.then]); refine bodyPost_ret (results_none rfl _ _ _) rfl ?_
          refine ⟨rfl, ?_⟩
          rw [← A.out, sd_round ltInt dk h0, C.out, ← HG.out, ← HG.out, hS]
          exact hAt.ahead nq
        · go_wp2_with fail
          go_region
          go_wp2
          go_roundg (hi - c)
          case measure => omega
          case rel =>
            refine ⟨c, swp dk (first + root) (first + c), by simp, by omega, Nat.le_refl _, by rw [size_swp]; exact hds, ?_, ?_⟩
            · exact At.swap hAt hblk HG.out _ (first + root) (first + c) (by omega) (by omega)
            · rw [← A.out, sd_round ltInt dk h0, C.out, if_pos (by rw [← HG.out, ← HG.out]; exact hS)]
#print axioms siftDown_calls
end Go.Proofs.YtcjcgehhmjnlcaaGreatDoor.Srt
namespace Go.Proofs.YtcjcgehhmjnlcaaGreatDoor.Srt
open Go.RowKit Go.Sort

section
variable {α : Type} [Inhabited α] (lt : α → α → Bool)
theorem siftDown_size (hi F : Nat) : ∀ (n root : Nat) (d : Array α), hi - root ≤ n → (siftDown lt hi F root d).size = d.size := by
  intro n
  induction n with
  | zero => intro root d h; rw [sd_none lt d (by omega)]
  | succ n ih =>
    intro root d h
    by_cases h0 : hi ≤ 2 * root + 1
    · rw [sd_none lt d h0]
    · have hr := sdChild_range lt (F := F) d h0
      rw [sd_round lt d h0]
      split
      · rw [ih _ _ (by omega), size_swp]
      · rfl
theorem hbuild_step (hi F k : Nat) (d : Array α) : heapBuild lt hi F (k + 1) d = heapBuild lt hi F k (siftDown lt hi F k d) := rfl
theorem hpop_step (F k : Nat) (d : Array α) : heapPop lt F (k + 1) d = heapPop lt F k (siftDown lt k F 0 (swp d F (F + k))) := rfl
theorem rev_step {i j : Nat} (d : Array α) (h : i < j) : reverseLoop i j d = reverseLoop (i + 1) (j - 1) (swp d i j) := by rw [reverseLoop, if_pos h]
theorem rev_end {i j : Nat} (d : Array α) (h : ¬ i < j) : reverseLoop i j d = d := by rw [reverseLoop, if_neg h]
end

theorem half_nat (a b : Nat) (hab : a ≤ b) : ((b : Int) - (a : Int) - 1).tdiv 2 = (((b - a - 1) / 2 : Nat) : Int) := by
  by_cases h : a = b
  · subst h; simp
  · have e : (b : Int) - (a : Int) - 1 = ((b - a - 1 : Nat) : Int) := by omega
    rw [e]
    exact (Int.ofNat_tdiv _ _).symm

theorem reverse_calls (blk off cap a b : Nat) (d : Array Int) (w : World) (hH : Holds encU w blk off d) (hblk : blk < w.heap.size) (hab : a ≤ b) (hb : b ≤ d.size) (hsz : d.size < 4611686018427387904) :
    Calls Tryz.prog 157 #[.slice (some ⟨blk, off, none⟩) d.size cap, .int .i64 a, .int .i64 b] w fun e w' =>
      e = .returned (.tuple #[]) ∧ At encU w blk off (reverseRange d a b) w' := by
  go_enter Tryz.func157, Tryz.ntmps157
  go_wp2
  go_loopg [6, 7] b (fun k s6 s7 wr => ∃ (i : Nat) (z : Int) (dk : Array Int), s6 = .int .i64 i ∧ s7 = .int .i64 z ∧ -1 ≤ z ∧ z < b ∧ a ≤ i ∧ i ≤ b ∧ z.toNat ≤ k ∧ dk.size = d.size ∧ At encU w blk off dk wr ∧ reverseLoop i z.toNat dk = reverseRange d a b)
  case atStart => exact ⟨a, (b : Int) - 1, d, rfl, rfl, by omega, by omega, by omega, by omega, by omega, rfl, At.refl hH, by rw [show ((b : Int) - 1).toNat = b - 1 by omega]; rfl⟩
  case round =>
    obtain ⟨i, z, dk, rfl, rfl, hz0, hz1, hi0, hi1, hk, hds, hwr, heq⟩ := hrel
    have A : Hid (reverseLoop i z.toNat dk = reverseRange d a b) := heq
    clear heq
    by_cases h : (i : Int) < z
    · obtain ⟨j, rfl⟩ : ∃ j : Nat, z = j := ⟨z.toNat, by omega⟩
      have hij : i < j := by omega
      obtain ⟨G, hG, hcw, hfw, hbw⟩ := At.cells hwr hH hds hblk
      have HG : Hid (∀ t, G t = dk[t]!) := hG
      clear hG
      go_wp2_with fail
      go_region
      have hA2 := At.swap hwr hblk HG.out 1 i j (by omega) (by omega)
      go_wp2_with fail
      go_roundg (j - 1)
      case measure => omega
      case rel =>
        refine ⟨i + 1, (j : Int) - 1, swp dk i j, by simp, rfl, by omega, by omega, by omega, by omega, by omega, by rw [size_swp]; exact hds, hA2, ?_⟩
        rw [← A.out, rev_step dk (show i < (j : Int).toNat by omega), show ((j : Int) - 1).toNat = j - 1 by omega]
        rfl
    · go_wp2_with fail
      go_end0
      exact ⟨rfl, by rw [← A.out, rev_end dk (by omega)]; exact hwr⟩

theorem heapSort_calls (blk off cap a b : Nat) (d : Array Int) (w : World) (hH : Holds encU w blk off d) (hblk : blk < w.heap.size) (hab : a ≤ b) (hb : b ≤ d.size) (hsz : d.size < 4611686018427387904) :
    Calls Tryz.prog 154 #[.slice (some ⟨blk, off, none⟩) d.size cap, .int .i64 a, .int .i64 b] w fun e w' =>
      e = .returned (.tuple #[]) ∧ At encU w blk off (heapSort ltInt d a b) w' := by
  go_enter Tryz.func154, Tryz.ntmps154
  go_wp2
  go_loopg [9] ((b - a - 1) / 2 + 1) (fun k s9 wr => ∃ (dk : Array Int), s9 = .int .i64 ((k : Int) - 1) ∧ k ≤ (b - a - 1) / 2 + 1 ∧ dk.size = d.size ∧ At encU w blk off dk wr ∧ heapBuild ltInt (b - a) a k dk = heapBuild ltInt (b - a) a ((b - a - 1) / 2 + 1) d)
  case atStart =>
    refine ⟨d, ?_, Nat.le_refl _, rfl, At.refl hH, rfl⟩
    rw [half_nat a b hab]
    congr 1
    omega
  case round =>
    obtain ⟨dk, rfl, hk, hds, hwr, heq⟩ := hrel
    have A : Hid (heapBuild ltInt (b - a) a gk dk = heapBuild ltInt (b - a) a ((b - a - 1) / 2 + 1) d) := heq
    clear heq
    have H := hwr.holds hH hds hblk
    cases gk with
    | zero =>
      go_wp2
      have B : Hid (dk = heapBuild ltInt (b - a) a ((b - a - 1) / 2 + 1) d) := A.out
      clear A
      go_loopg [10] (b - a) (fun k s10 wr => ∃ (dj : Array Int), s10 = .int .i64 ((k : Int) - 1) ∧ k ≤ b - a ∧ dj.size = d.size ∧ At encU w blk off dj wr ∧ heapPop ltInt a k dj = heapSort ltInt d a b)
      case atStart =>
        refine ⟨dk, ?_, Nat.le_refl _, hds, hwr, ?_⟩
        · congr 1; omega
        · rw [B.out]; rfl
      case round =>
        clear B hwr H hds
        obtain ⟨dj, rfl, hk, hds, hwr, heq⟩ := hrel
        have A : Hid (heapPop ltInt a gk dj = heapSort ltInt d a b) := heq
        clear heq
        cases gk with
        | zero =>
          go_wp2
          go_end0
          exact ⟨rfl, by rw [← A.out]; exact hwr⟩
        | succ k =>
          rw [show (((k + 1 : Nat) : Int) - 1) = (k : Int) by omega]
          obtain ⟨G, hG, hcw, hfw, hbw⟩ := At.cells hwr hH hds hblk
          have HG : Hid (∀ t, G t = dj[t]!) := hG
          clear hG
          rcases Nat.eq_zero_or_pos k with rfl | hk0
          · go_wp2_with fail
            go_region
            have hA2 := At.swap hwr hblk HG.out 1 a a (by omega) (by omega)
            have hs2 : (swp dj a a).size = d.size := by rw [size_swp]; exact hds
            have H2 := hA2.holds hH hs2 hblk
            have hc := siftDown_calls blk off cap (swp dj a a) 0 0 a _ H2.1 H2.2 (by omega) (by omega) (by omega)
            rw [hs2] at hc
            go_wp2_with (go_at_call 174; refine hc.mono ?_; rintro e w1 ⟨rfl, hw1⟩)
            go_roundg 0
            case measure => omega
            case rel =>
              refine ⟨siftDown ltInt 0 a 0 (swp dj a a), rfl, by omega, by rw [siftDown_size ltInt _ _ _ _ _ (Nat.le_refl _)]; exact hs2, hA2.stepG hblk (siftDown_size ltInt _ _ _ _ _ (Nat.le_refl _)) hw1, ?_⟩
              rw [← A.out, hpop_step]
              rfl
          · go_wp2_with fail
            go_region
            have hA2 := At.swap hwr hblk HG.out 1 a (a + k) (by omega) (by omega)
            have hs2 : (swp dj a (a + k)).size = d.size := by rw [size_swp]; exact hds
            have H2 := hA2.holds hH hs2 hblk
            have hc := siftDown_calls blk off cap (swp dj a (a + k)) 0 k a _ H2.1 H2.2 (by omega) (by omega) (by omega)
            rw [hs2] at hc
            go_wp2_with (go_at_call 174; refine hc.mono ?_; rintro e w1 ⟨rfl, hw1⟩)
            go_roundg k
            case measure => omega
            case rel =>
              refine ⟨siftDown ltInt k a 0 (swp dj a (a + k)), rfl, by omega, by rw [siftDown_size ltInt _ _ _ _ _ (Nat.le_refl _)]; exact hs2, hA2.stepG hblk (siftDown_size ltInt _ _ _ _ _ (Nat.le_refl _)) hw1, ?_⟩
              rw [← hpop_step, A.out]
    | succ k =>
      rw [show (((k + 1 : Nat) : Int) - 1) = (k : Int) by omega]
      have hc := siftDown_calls blk off cap dk k (b - a) a wr H.1 H.2 (by omega) (by omega) (by omega)
      rw [hds, show ((b - a : Nat) : Int) = (b : Int) - (a : Int) by omega] at hc
      go_wp2_with (go_at_call 174; refine hc.mono ?_; rintro e w1 ⟨rfl, hw1⟩)
      go_roundg k
      case measure => omega
      case rel =>
        refine ⟨siftDown ltInt (b - a) a k dk, rfl, by omega, by rw [siftDown_size ltInt _ _ _ _ _ (Nat.le_refl _)]; exact hds, ?_, ?_⟩
        · exact hwr.stepG hblk (siftDown_size ltInt _ _ _ _ _ (Nat.le_refl _)) hw1
        · rw [← hbuild_step, A.out]
#print axioms reverse_calls
#print axioms heapSort_calls
end Go.Proofs.YtcjcgehhmjnlcaaGreatDoor.Srt
namespace Go.Proofs.YtcjcgehhmjnlcaaGreatDoor.Srt
open Go.RowKit Go.Sort

theorem hid {p : Prop} (h : p) : Hid p := h

section
variable {α : Type} [Inhabited α] (p : α → Bool) (d : Array α)
theorem up_step {i j : Nat} (h : (decide (i ≤ j) && p d[i]!) = true) : scanUp p d j i = scanUp p d j (i + 1) := by rw [scanUp, if_pos h]
theorem up_end {i j : Nat} (h : (decide (i ≤ j) && p d[i]!) = false) : scanUp p d j i = i := by rw [scanUp, if_neg (by rw [h]; exact Bool.false_ne_true)]
theorem down_step {i j : Nat} (hi : 0 < i) (h : (decide (i ≤ j) && p d[j]!) = true) : scanDown p d i j = scanDown p d i (j - 1) := by
  cases j with
  | zero => simp only [Bool.and_eq_true, decide_eq_true_eq] at h; omega
  | succ j => rw [scanDown, if_pos h]; rfl
theorem down_end {i j : Nat} (h : (decide (i ≤ j) && p d[j]!) = false) : scanDown p d i j = j := by
  cases j with
  | zero => rfl
  | succ j => rw [scanDown, if_neg (by rw [h]; exact Bool.false_ne_true)]
end

theorem partitionEqual_calls (blk off cap a b pivot : Nat) (d : Array Int) (w : World) (hH : Holds encU w blk off d) (hblk : blk < w.heap.size) (hap : a ≤ pivot) (hpb : pivot < b) (hb : b ≤ d.size) (hsz : d.size < 4611686018427387904) :
    Calls Tryz.prog 160 #[.slice (some ⟨blk, off, none⟩) d.size cap, .int .i64 a, .int .i64 b, .int .i64 pivot] w fun e w' =>
      e = .returned (.int .i64 (partitionEqual ltInt d a b pivot).1) ∧ At encU w blk off (partitionEqual ltInt d a b pivot).2 w' := by
  go_enter Tryz.func160, Tryz.ntmps160
  go_upto_region 1 with fail
  go_cut [] from 11 (fun wx => At encU w blk off (swp d a pivot) wx)
  case first =>
    have hA := At.refl hH
    obtain ⟨G, hG, hcw, hfw, hbw⟩ := At.cells hA hH rfl hblk
    have HG : Hid (∀ t, G t = d[t]!) := hG
    clear hG
    rcases Nat.eq_or_lt_of_le hap with rfl | hlt
    · go_region
      go_wp2_with fail
      go_meet
      case rel => exact At.swap hA hblk HG.out 1 a a (by omega) (by omega)
    · go_region
      go_wp2_with fail
      go_meet
      case rel => exact At.swap hA hblk HG.out 1 a pivot (by omega) (by omega)
  case rest =>
    have hA1 := hcut
    clear hcut
    obtain ⟨D, hD⟩ : ∃ D, swp d a pivot = D := ⟨_, rfl⟩
    have hDs : D.size = d.size := by rw [← hD, size_swp]
    have HD : Hid (swp d a pivot = D) := hD
    rw [hD] at hA1
    clear hD
    go_wp2_with fail
    go_loopg [9, 10] b (fun k s9 s10 wr => ∃ (i j : Nat) (dk : Array Int), s9 = .int .i64 i ∧ s10 = .int .i64 j ∧ a < i ∧ i ≤ j + 2 ∧ j < b ∧ j + 1 - i ≤ k ∧ dk.size = d.size ∧ At encU w blk off dk wr ∧ partEqLoop ltInt a i j dk = partEqLoop ltInt a (a + 1) (b - 1) D)
    case atStart => exact ⟨a + 1, b - 1, D, by simp, by congr 1; omega, by omega, by omega, by omega, by omega, hDs, hA1, rfl⟩
    case round =>
      obtain ⟨i, j, dk, rfl, rfl, hi, hij, hjb, hk, hds, hwr, heq⟩ := hrel
      have A : Hid (partEqLoop ltInt a i j dk = partEqLoop ltInt a (a + 1) (b - 1) D) := heq
      clear heq
      rw [partEqLoop_eq] at A
      obtain ⟨i2, hi2⟩ : ∃ i2, scanUp (fun x => !ltInt dk[a]! x) dk j i = i2 := ⟨_, rfl⟩
      have hi2g : i ≤ i2 := by rw [← hi2]; exact scanUp_ge _ _ _ _
      rw [hi2] at A
      have HI2 : Hid (scanUp (fun x => !ltInt dk[a]! x) dk j i = i2) := hi2
      clear hi2
      obtain ⟨j2, hj2⟩ : ∃ j2, scanDown (fun x => ltInt dk[a]! x) dk i2 j = j2 := ⟨_, rfl⟩
      have hj2l : j2 ≤ j := by rw [← hj2]; exact scanDown_le _ _ _ _
      rw [hj2] at A
      have HJ2 : Hid (scanDown (fun x => ltInt dk[a]! x) dk i2 j = j2) := hj2
      clear hj2
      -- the upward scan
      go_wp2_with fail
      go_loopg [9] (j + 1 - i) (fun k s9 wr => ∃ (t : Nat), s9 = .int .i64 t ∧ i ≤ t ∧ t ≤ j + 2 ∧ j + 1 - t ≤ k ∧ At encU w blk off dk wr ∧ scanUp (fun x => !ltInt dk[a]! x) dk j t = i2)
      case atStart => exact ⟨i, rfl, Nat.le_refl _, hij, Nat.le_refl _, hwr, HI2.out⟩
      case round =>
        clear HI2 hwr
        obtain ⟨t, rfl, ht1, ht2, hkt, hwr, hsc⟩ := hrel
        have S : Hid (scanUp (fun x => !ltInt dk[a]! x) dk j t = i2) := hsc
        clear hsc
        obtain ⟨G, hG, hcw, hfw, hbw⟩ := At.cells hwr hH hds hblk
        have HG : Hid (∀ t, G t = dk[t]!) := hG
        clear hG
        go_upto_region 3 with fail
        go_cut [43] from 29 to 43 (fun s43 wx => s43 = .bool (decide (t ≤ j) && !ltInt dk[a]! dk[t]!) ∧ At encU w blk off dk wx)
        case first =>
          by_cases h : t ≤ j
          · go_big_quiet (first | (go_at_call 159; refine Calls.quiet_of_same (less_calls _ _ _)))
            go_wp2_with fail
            go_meet
            case rel => exact ⟨by simp [h, HG.out], hwr.ahead nq⟩
          · have hz : decide ((t : Int) ≤ (j : Int)) = false := decide_eq_false (by omega)
            go_big_quiet (first | (go_at_call 159; refine Calls.quiet_of_same (less_calls _ _ _)))
            go_wp2_with fail
            go_meet
            case rel => exact ⟨by simp [h], hwr.ahead nq⟩
        case rest =>
          clear hcw hfw hbw HG hwr
          clear G
          obtain ⟨rfl, hwr⟩ := hcut
          cases hT : (decide (t ≤ j) && !ltInt dk[a]! dk[t]!)
          · -- out
            have hti : t = i2 := by rw [← S.out, up_end _ _ hT]
            clear hT S
            subst hti
            go_wp2_with fail
            go_loopg [10] (j + 1) (fun k s10 wr => ∃ (v : Nat), s10 = .int .i64 v ∧ t ≤ v + 2 ∧ v ≤ j ∧ v + 1 ≤ k ∧ At encU w blk off dk wr ∧ scanDown (fun x => ltInt dk[a]! x) dk t v = j2)
            case atStart => exact ⟨j, rfl, ht2, Nat.le_refl _, Nat.le_refl _, hwr, HJ2.out⟩
            case round =>
              clear HJ2 hwr
              obtain ⟨v, rfl, hv1, hv2, hkv, hwr, hsc⟩ := hrel
              have S : Hid (scanDown (fun x => ltInt dk[a]! x) dk t v = j2) := hsc
              clear hsc
              obtain ⟨G, hG, hcw, hfw, hbw⟩ := At.cells hwr hH hds hblk
              have HG : Hid (∀ t, G t = dk[t]!) := hG
              clear hG
              go_upto_region 5 with fail
              go_cut [59] from 46 to 59 (fun s59 wx => s59 = .bool (decide (t ≤ v) && ltInt dk[a]! dk[v]!) ∧ At encU w blk off dk wx)
              case first =>
                by_cases h : t ≤ v
                · go_big_quiet (first | (go_at_call 159; refine Calls.quiet_of_same (less_calls _ _ _)))
                  go_wp2_with fail
                  go_meet
                  case rel => exact ⟨by simp [h, HG.out], hwr.ahead nq⟩
                · have hz : decide ((t : Int) ≤ (v : Int)) = false := decide_eq_false (by omega)
                  go_big_quiet (first | (go_at_call 159; refine Calls.quiet_of_same (less_calls _ _ _)))
                  go_wp2_with fail
                  go_meet
                  case rel => exact ⟨by simp [h], hwr.ahead nq⟩
              case rest =>
                clear hcw hfw hbw HG hwr
                clear G
                obtain ⟨rfl, hwr⟩ := hcut
                cases hT : (decide (t ≤ v) && ltInt dk[a]! dk[v]!)
                · -- both scans are done
                  have hvj : v = j2 := by rw [← S.out, down_end _ _ hT]
                  clear hT S
                  subst hvj
                  by_cases hgt : t > v
                  · have E : partitionEqual ltInt d a b pivot = (t, dk) := by
                      unfold partitionEqual
                      rw [HD.out, ← A.out, if_pos hgt]
                    go_wp2_with fail
                    go_ret
                    exact ⟨by rw [E]; rfl, by rw [E]; exact hwr⟩
                  · have A2 : Hid (partEqLoop ltInt a (t + 1) (v - 1) (swp dk t v) = partEqLoop ltInt a (a + 1) (b - 1) D) := hid (by rw [← A.out, if_neg hgt])
                    clear A
                    go_upto_region 8 with fail
                    go_cut [] from 65 to 78 (fun wx => At encU w blk off (swp dk t v) wx)
                    case first =>
                      obtain ⟨G, hG, hcw, hfw, hbw⟩ := At.cells hwr hH hds hblk
                      have HG : Hid (∀ t, G t = dk[t]!) := hG
                      clear hG
                      rcases Nat.eq_or_lt_of_le (Nat.le_of_not_lt hgt) with rfl | hlt
                      · go_region
                        go_wp2_with fail
                        go_meet
                        case rel => exact At.swap hwr hblk HG.out 1 t t (by omega) (by omega)
                      · go_region
                        go_wp2_with fail
                        go_meet
                        case rel => exact At.swap hwr hblk HG.out 1 t v (by omega) (by omega)
                    case rest =>
                      go_wp2_with fail
                      go_roundg (v - 1 + 1 - (t + 1))
                      case measure => omega
                      case rel => exact ⟨t + 1, v - 1, swp dk t v, by simp, by congr 1; omega, by omega, by omega, by omega, Nat.le_refl _, by rw [size_swp]; exact hds, hcut, A2.out⟩
                · have htv : t ≤ v := by simp only [Bool.and_eq_true, decide_eq_true_eq] at hT; exact hT.1
                  have S2 : Hid (scanDown (fun x => ltInt dk[a]! x) dk t (v - 1) = j2) := hid (by rw [← down_step (fun x => ltInt dk[a]! x) dk (by omega) hT]; exact S.out)
                  clear S
                  clear hT
                  go_wp2_with fail
                  go_roundg v
                  case measure => omega
                  case rel => exact ⟨v - 1, by congr 1; omega, by omega, by omega, by omega, hwr, S2.out⟩
          · have htj : t ≤ j := by simp only [Bool.and_eq_true, decide_eq_true_eq] at hT; exact hT.1
            have S2 : Hid (scanUp (fun x => !ltInt dk[a]! x) dk j (t + 1) = i2) := hid (by rw [← up_step (fun x => !ltInt dk[a]! x) dk hT]; exact S.out)
            clear S
            clear hT
            go_wp2_with fail
            go_roundg (j + 1 - (t + 1))
            case measure => omega
            case rel => exact ⟨t + 1, by simp, by omega, by omega, by omega, hwr, S2.out⟩
#print axioms partitionEqual_calls
end Go.Proofs.YtcjcgehhmjnlcaaGreatDoor.Srt
