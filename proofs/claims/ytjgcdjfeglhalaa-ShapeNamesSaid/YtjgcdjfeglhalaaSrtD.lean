import Derived.Test.YtjgcdjfeglhalaaSrtC
import Derived.Sort.LotC
import Derived.Deep.CutRange
namespace Go.Proofs.Ytjgcdjfeglhalaa.Srt
open Go.RowKit Go.Sort

theorem hid {p : Prop} (h : p) : Hid p := h

section
variable {α : Type} [Inhabited α] (p : α → Bool) (d : Array α)
theorem up_step {i j : Nat} (h : (decide (i ≤ j) && p d[i]!) = true) : scanUp p d j i = scanUp p d j (i + 1) := by rw [scanUp, if_pos h]
theorem up_end {i j : Nat} (h : (decide (i ≤ j) && p d[i]!) = false) : scanUp p d j i = i := by rw [scanUp, if_neg (by rw [h]; exact Bool.false_ne_true)]
theorem down_step {i j : Nat} (hi : 0 < i) (h : (decide (i ≤ j) && p d[j]!) = true) : scanDown p d i j = scanDown p d i (j - 1) := by
  cases j with
  | zero => simp only [Bool.and_eq_true, decide_eq_true_eq] at h; omega
  | succ j => rw [scanDown, if_pos h]; rfl
theorem down_end {i j : Nat} (h : (decide (i ≤ j) && p d[j]!) = false) : scanDown p d i j = j := by
  cases j with
  | zero => rfl
  | succ j => rw [scanDown, if_neg (by rw [h]; exact Bool.false_ne_true)]
end

theorem partitionEqual_calls (blk off cap a b pivot : Nat) (d : Array Int) (w : World) (hH : Holds encU w blk off d) (hblk : blk < w.heap.size) (hap : a ≤ pivot) (hpb : pivot < b) (hb : b ≤ d.size) (hsz : d.size < 4611686018427387904) :
    Calls Try.prog 34 #[.slice (some ⟨blk, off, none⟩) d.size cap, .int .i64 a, .int .i64 b, .int .i64 pivot] w fun e w' =>
      e = .returned (.int .i64 (partitionEqual ltInt d a b pivot).1) ∧ At encU w blk off (partitionEqual ltInt d a b pivot).2 w' := by
  go_enter Try.func34, Try.ntmps34
  go_upto_region 1 with fail
  go_cut [] from 11 (fun wx => At encU w blk off (swp d a pivot) wx)
  case first =>
    have hA := At.refl hH
    obtain ⟨G, hG, hcw, hfw, hbw⟩ := At.cells hA hH rfl hblk
    have HG : Hid (∀ t, G t = d[t]!) := hG
    clear hG
    rcases Nat.eq_or_lt_of_le hap with rfl | hlt
    · go_region
      go_wp2_with fail
      go_meet
      case rel => exact At.swap hA hblk HG.out 1 a a (by omega) (by omega)
    · go_region
      go_wp2_with fail
      go_meet
      case rel => exact At.swap hA hblk HG.out 1 a pivot (by omega) (by omega)
  case rest =>
    have hA1 := hcut
    clear hcut
    obtain ⟨D, hD⟩ : ∃ D, swp d a pivot = D := ⟨_, rfl⟩
    have hDs : D.size = d.size := by rw [← hD, size_swp]
    have HD : Hid (swp d a pivot = D) := hD
    rw [hD] at hA1
    clear hD
    go_wp2_with fail
    go_loopg [9, 10] b (fun k s9 s10 wr => ∃ (i j : Nat) (dk : Array Int), s9 = .int .i64 i ∧ s10 = .int .i64 j ∧ a < i ∧ i ≤ j + 2 ∧ j < b ∧ j + 1 - i ≤ k ∧ dk.size = d.size ∧ At encU w blk off dk wr ∧ partEqLoop ltInt a i j dk = partEqLoop ltInt a (a + 1) (b - 1) D)
    case atStart => exact ⟨a + 1, b - 1, D, by simp, by congr 1; omega, by omega, by omega, by omega, by omega, hDs, hA1, rfl⟩
    case round =>
      obtain ⟨i, j, dk, rfl, rfl, hi, hij, hjb, hk, hds, hwr, heq⟩ := hrel
      have A : Hid (partEqLoop ltInt a i j dk = partEqLoop ltInt a (a + 1) (b - 1) D) := heq
      clear heq
      rw [partEqLoop_eq] at A
      obtain ⟨i2, hi2⟩ : ∃ i2, scanUp (fun x => !ltInt dk[a]! x) dk j i = i2 := ⟨_, rfl⟩
      have hi2g : i ≤ i2 := by rw [← hi2]; exact scanUp_ge _ _ _ _
      rw [hi2] at A
      have HI2 : Hid (scanUp (fun x => !ltInt dk[a]! x) dk j i = i2) := hi2
      clear hi2
      obtain ⟨j2, hj2⟩ : ∃ j2, scanDown (fun x => ltInt dk[a]! x) dk i2 j = j2 := ⟨_, rfl⟩
      have hj2l : j2 ≤ j := by rw [← hj2]; exact scanDown_le _ _ _ _
      rw [hj2] at A
      have HJ2 : Hid (scanDown (fun x => ltInt dk[a]! x) dk i2 j = j2) := hj2
      clear hj2
      -- the upward scan
      go_wp2_with fail
      go_loopg [9] (j + 1 - i) (fun k s9 wr => ∃ (t : Nat), s9 = .int .i64 t ∧ i ≤ t ∧ t ≤ j + 2 ∧ j + 1 - t ≤ k ∧ At encU w blk off dk wr ∧ scanUp (fun x => !ltInt dk[a]! x) dk j t = i2)
      case atStart => exact ⟨i, rfl, Nat.le_refl _, hij, Nat.le_refl _, hwr, HI2.out⟩
      case round =>
        clear HI2 hwr
        obtain ⟨t, rfl, ht1, ht2, hkt, hwr, hsc⟩ := hrel
        have S : Hid (scanUp (fun x => !ltInt dk[a]! x) dk j t = i2) := hsc
        clear hsc
        obtain ⟨G, hG, hcw, hfw, hbw⟩ := At.cells hwr hH hds hblk
        have HG : Hid (∀ t, G t = dk[t]!) := hG
        clear hG
        go_upto_region 3 with fail
        go_cut [43] from 29 to 43 (fun s43 wx => s43 = .bool (decide (t ≤ j) && !ltInt dk[a]! dk[t]!) ∧ At encU w blk off dk wx)
        case first =>
          by_cases h : t ≤ j
          · go_big_quiet (first | (go_at_call 33; refine Calls.quiet_of_same (less_calls _ _ _)))
            go_wp2_with fail
            go_meet
            case rel => exact ⟨by simp [h, HG.out], hwr.ahead nq⟩
          · have hz : decide ((t : Int) ≤ (j : Int)) = false := decide_eq_false (by omega)
            go_big_quiet (first | (go_at_call 33; refine Calls.quiet_of_same (less_calls _ _ _)))
            go_wp2_with fail
            go_meet
            case rel => exact ⟨by simp [h], hwr.ahead nq⟩
        case rest =>
          clear hcw hfw hbw HG hwr
          clear G
          obtain ⟨rfl, hwr⟩ := hcut
          cases hT : (decide (t ≤ j) && !ltInt dk[a]! dk[t]!)
          · -- out
            have hti : t = i2 := by rw [← S.out, up_end _ _ hT]
            clear hT S
            subst hti
            go_wp2_with fail
            go_loopg [10] (j + 1) (fun k s10 wr => ∃ (v : Nat), s10 = .int .i64 v ∧ t ≤ v + 2 ∧ v ≤ j ∧ v + 1 ≤ k ∧ At encU w blk off dk wr ∧ scanDown (fun x => ltInt dk[a]! x) dk t v = j2)
            case atStart => exact ⟨j, rfl, ht2, Nat.le_refl _, Nat.le_refl _, hwr, HJ2.out⟩
            case round =>
              clear HJ2 hwr
              obtain ⟨v, rfl, hv1, hv2, hkv, hwr, hsc⟩ := hrel
              have S : Hid (scanDown (fun x => ltInt dk[a]! x) dk t v = j2) := hsc
              clear hsc
              obtain ⟨G, hG, hcw, hfw, hbw⟩ := At.cells hwr hH hds hblk
              have HG : Hid (∀ t, G t = dk[t]!) := hG
              clear hG
              go_upto_region 5 with fail
              go_cut [59] from 46 to 59 (fun s59 wx => s59 = .bool (decide (t ≤ v) && ltInt dk[a]! dk[v]!) ∧ At encU w blk off dk wx)
              case first =>
                by_cases h : t ≤ v
                · go_big_quiet (first | (go_at_call 33; refine Calls.quiet_of_same (less_calls _ _ _)))
                  go_wp2_with fail
                  go_meet
                  case rel => exact ⟨by simp [h, HG.out], hwr.ahead nq⟩
                · have hz : decide ((t : Int) ≤ (v : Int)) = false := decide_eq_false (by omega)
                  go_big_quiet (first | (go_at_call 33; refine Calls.quiet_of_same (less_calls _ _ _)))
                  go_wp2_with fail
                  go_meet
                  case rel => exact ⟨by simp [h], hwr.ahead nq⟩
              case rest =>
                clear hcw hfw hbw HG hwr
                clear G
                obtain ⟨rfl, hwr⟩ := hcut
                cases hT : (decide (t ≤ v) && ltInt dk[a]! dk[v]!)
                · -- both scans are done
                  have hvj : v = j2 := by rw [← S.out, down_end _ _ hT]
                  clear hT S
                  subst hvj
                  by_cases hgt : t > v
                  · have E : partitionEqual ltInt d a b pivot = (t, dk) := by
                      unfold partitionEqual
                      rw [HD.out, ← A.out, if_pos hgt]
                    go_wp2_with fail
                    go_ret
                    exact ⟨by rw [E]; rfl, by rw [E]; exact hwr⟩
                  · have A2 : Hid (partEqLoop ltInt a (t + 1) (v - 1) (swp dk t v) = partEqLoop ltInt a (a + 1) (b - 1) D) := hid (by rw [← A.out, if_neg hgt])
                    clear A
                    go_upto_region 8 with fail
                    go_cut [] from 65 to 78 (fun wx => At encU w blk off (swp dk t v) wx)
                    case first =>
                      obtain ⟨G, hG, hcw, hfw, hbw⟩ := At.cells hwr hH hds hblk
                      have HG : Hid (∀ t, G t = dk[t]!) := hG
                      clear hG
                      rcases Nat.eq_or_lt_of_le (Nat.le_of_not_lt hgt) with rfl | hlt
                      · go_region
                        go_wp2_with fail
                        go_meet
                        case rel => exact At.swap hwr hblk HG.out 1 t t (by omega) (by omega)
                      · go_region
                        go_wp2_with fail
                        go_meet
                        case rel => exact At.swap hwr hblk HG.out 1 t v (by omega) (by omega)
                    case rest =>
                      go_wp2_with fail
                      go_roundg (v - 1 + 1 - (t + 1))
                      case measure => omega
                      case rel => exact ⟨t + 1, v - 1, swp dk t v, by simp, by congr 1; omega, by omega, by omega, by omega, Nat.le_refl _, by rw [size_swp]; exact hds, hcut, A2.out⟩
                · have htv : t ≤ v := by simp only [Bool.and_eq_true, decide_eq_true_eq] at hT; exact hT.1
                  have S2 : Hid (scanDown (fun x => ltInt dk[a]! x) dk t (v - 1) = j2) := hid (by rw [← down_step (fun x => ltInt dk[a]! x) dk (by omega) hT]; exact S.out)
                  clear S
                  clear hT
                  go_wp2_with fail
                  go_roundg v
                  case measure => omega
                  case rel => exact ⟨v - 1, by congr 1; omega, by omega, by omega, by omega, hwr, S2.out⟩
          · have htj : t ≤ j := by simp only [Bool.and_eq_true, decide_eq_true_eq] at hT; exact hT.1
            have S2 : Hid (scanUp (fun x => !ltInt dk[a]! x) dk j (t + 1) = i2) := hid (by rw [← up_step (fun x => !ltInt dk[a]! x) dk hT]; exact S.out)
            clear S
            clear hT
            go_wp2_with fail
            go_roundg (j + 1 - (t + 1))
            case measure => omega
            case rel => exact ⟨t + 1, by simp, by omega, by omega, by omega, hwr, S2.out⟩
#print axioms partitionEqual_calls
end Go.Proofs.Ytjgcdjfeglhalaa.Srt
