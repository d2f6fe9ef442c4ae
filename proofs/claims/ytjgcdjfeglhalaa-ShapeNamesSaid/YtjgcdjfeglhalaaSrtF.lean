import Derived.Test.YtjgcdjfeglhalaaSrtE
namespace Go.Proofs.Ytjgcdjfeglhalaa.Srt
open Go.RowKit Go.Sort

section
variable {α : Type} [Inhabited α] (lt : α → α → Bool) (d : Array α)
theorem ss_step {b i : Nat} (h : (decide (i < b) && !lt d[i]! d[i - 1]!) = true) : scanSorted lt d b i = scanSorted lt d b (i + 1) := by rw [scanSorted, if_pos h]
theorem ss_end {b i : Nat} (h : (decide (i < b) && !lt d[i]! d[i - 1]!) = false) : scanSorted lt d b i = i := by rw [scanSorted, if_neg (by rw [h]; exact Bool.false_ne_true)]
theorem ss_range (b : Nat) : ∀ (n i : Nat), b - i ≤ n → i ≤ b → i ≤ scanSorted lt d b i ∧ scanSorted lt d b i ≤ b := by
  intro n
  induction n with
  | zero =>
    intro i h1 h2
    have : (decide (i < b) && !lt d[i]! d[i - 1]!) = false := by simp; omega
    rw [ss_end lt d this]
    omega
  | succ n ih =>
    intro i h1 h2
    cases hT : (decide (i < b) && !lt d[i]! d[i - 1]!)
    · rw [ss_end lt d hT]; omega
    · have hib : i < b := by simp only [Bool.and_eq_true, decide_eq_true_eq] at hT; exact hT.1
      rw [ss_step lt d hT]
      have := ih (i + 1) (by omega) (by omega)
      omega
theorem shd_step {j : Nat} (hj : 0 < j) (h : lt d[j]! d[j - 1]! = true) : shiftDown lt j d = shiftDown lt (j - 1) (swp d j (j - 1)) := by
  cases j with
  | zero => omega
  | succ j => rw [shiftDown]; simp only [Nat.add_sub_cancel] at h ⊢; simp [h]
theorem shd_end {j : Nat} (h : j = 0 ∨ lt d[j]! d[j - 1]! = false) : shiftDown lt j d = d := by
  cases j with
  | zero => rw [shiftDown]
  | succ j =>
    rcases h with h | h
    · omega
    · rw [shiftDown]; simp only [Nat.add_sub_cancel] at h ⊢; simp [h]
theorem shu_step {b j : Nat} (hj : j < b) (h : lt d[j]! d[j - 1]! = true) : shiftUp lt b j d = shiftUp lt b (j + 1) (swp d j (j - 1)) := by
  rw [shiftUp, if_pos hj]; simp [h]
theorem shu_end {b j : Nat} (h : ¬ j < b ∨ lt d[j]! d[j - 1]! = false) : shiftUp lt b j d = d := by
  rw [shiftUp]
  split
  · rcases h with h | h
    · omega
    · simp [h]
  · rfl
theorem shd_size : ∀ (j : Nat) (d : Array α), (shiftDown lt j d).size = d.size := by
  intro j
  induction j with
  | zero => intro d; rw [shiftDown]
  | succ j ih => intro d; rw [shiftDown]; split <;> simp [ih, size_swp]
theorem shu_size (b : Nat) : ∀ (n j : Nat) (d : Array α), b - j ≤ n → (shiftUp lt b j d).size = d.size := by
  intro n
  induction n with
  | zero => intro j d h; rw [shiftUp, if_neg (by omega)]
  | succ n ih =>
    intro j d h
    rw [shiftUp]
    split
    · split
      · rfl
      · rw [ih _ _ (by omega), size_swp]
    · rfl
/-- One step of the partial sort, its stages by name. -/
theorem pin_step {a b s i i2 : Nat} {d d1 d2 d3 : Array α} (h2 : scanSorted lt d b i = i2) (hb : ¬ i2 = b) (h50 : ¬ b - a < 50) (e1 : swp d i2 (i2 - 1) = d1)
    (e2 : (if i2 - a ≥ 2 then shiftDown lt (i2 - 1) d1 else d1) = d2) (e3 : (if b - i2 ≥ 2 then shiftUp lt b (i2 + 1) d2 else d2) = d3) :
    partialIns lt a b (s + 1) i d = partialIns lt a b s i2 d3 := by
  subst h2 e1 e2 e3
  rw [partialIns]
  simp only [if_neg hb, if_neg h50]
theorem pin_done {a b s i : Nat} (h2 : scanSorted lt d b i = b) : partialIns lt a b (s + 1) i d = (d, true) := by
  rw [partialIns]
  simp only [h2, if_true]
theorem pin_few {a b s i : Nat} (h2 : ¬ scanSorted lt d b i = b) (h50 : b - a < 50) : partialIns lt a b (s + 1) i d = (d, false) := by
  rw [partialIns]
  simp only [if_neg h2, if_pos h50]
end

set_option maxRecDepth 1000000 in
set_option maxHeartbeats 6400000 in
theorem partialIns_calls (blk off cap a b : Nat) (d : Array Int) (w : World) (hH : Holds encU w blk off d) (hblk : blk < w.heap.size) (hab : a < b) (hb : b ≤ d.size) (hsz : d.size < 4611686018427387904) :
    Calls Try.prog 32 #[.slice (some ⟨blk, off, none⟩) d.size cap, .int .i64 a, .int .i64 b] w fun e w' =>
      e = .returned (.bool (partialInsertionSort ltInt d a b).2) ∧ At encU w blk off (partialInsertionSort ltInt d a b).1 w' := by
  obtain ⟨r1, r2, hr⟩ : ∃ r1 r2, partialInsertionSort ltInt d a b = (r1, r2) := ⟨_, _, rfl⟩
  rw [hr]
  have HR : Hid (partialIns ltInt a b 5 (a + 1) d = (r1, r2)) := hr
  clear hr
  go_enter Try.func32, Try.ntmps32
  go_wp2_with fail
  go_loopg [7, 8] 5 (fun k s7 s8 wr => ∃ (i m : Nat) (dk : Array Int), s7 = .int .i64 i ∧ s8 = .int .i64 m ∧ a < i ∧ i ≤ b ∧ m ≤ 5 ∧ 5 - m ≤ k ∧ dk.size = d.size ∧ At encU w blk off dk wr ∧ partialIns ltInt a b (5 - m) i dk = (r1, r2))
  case atStart => exact ⟨a + 1, 0, d, by simp, rfl, by omega, by omega, by omega, by omega, rfl, At.refl hH, HR.out⟩
  case round =>
    clear HR
    obtain ⟨i, m, dk, rfl, rfl, hi, hib, hm, hk, hds, hwr, heq⟩ := hrel
    have A : Hid (partialIns ltInt a b (5 - m) i dk = (r1, r2)) := heq
    clear heq
    by_cases hm5 : m < 5
    · have A' : Hid (partialIns ltInt a b (5 - (m + 1) + 1) i dk = (r1, r2)) := by rw [show 5 - (m + 1) + 1 = 5 - m by omega]; exact A
      clear A
      obtain ⟨i2, hi2⟩ : ∃ i2, scanSorted ltInt dk b i = i2 := ⟨_, rfl⟩
      have hi2r := ss_range ltInt dk b _ i (Nat.le_refl _) hib
      rw [hi2] at hi2r
      have HI2 : Hid (scanSorted ltInt dk b i = i2) := hi2
      have HI3 : Hid (scanSorted ltInt dk b i = i2) := hi2
      clear hi2
      go_wp2_with fail
      go_loopg [7] (b - i) (fun k s7 wr => ∃ (t : Nat), s7 = .int .i64 t ∧ i ≤ t ∧ t ≤ b ∧ b - t ≤ k ∧ At encU w blk off dk wr ∧ scanSorted ltInt dk b t = i2)
      case atStart => exact ⟨i, rfl, Nat.le_refl _, hib, Nat.le_refl _, hwr, HI2.out⟩
      case round =>
        clear HI2 hwr
        obtain ⟨t, rfl, ht1, ht2, hkt, hwr, hsc⟩ := hrel
        have S : Hid (scanSorted ltInt dk b t = i2) := hsc
        clear hsc
        obtain ⟨G, hG, hcw, hfw, hbw⟩ := At.cells hwr hH hds hblk
        have HG : Hid (∀ t, G t = dk[t]!) := hG
        clear hG
        go_upto_region 5 with fail
        go_cut [32] from 17 to 32 (fun s wx => s = .bool (decide (t < b) && !ltInt dk[t]! dk[t - 1]!) ∧ At encU w blk off dk wx)
        case first =>
          by_cases h : t < b
          · have hz : (t : Int) < (b : Int) := by omega
            go_big_quiet (first | (go_at_call 33; refine Calls.quiet_of_same (less_calls _ _ _)))
            go_wp2_with fail
            go_meet
            case rel => exact ⟨by simp [h, HG.out], hwr.ahead nq⟩
          · have hz : decide ((t : Int) < (b : Int)) = false := decide_eq_false (by omega)
            go_big_quiet (first | (go_at_call 33; refine Calls.quiet_of_same (less_calls _ _ _)))
            go_wp2_with fail
            go_meet
            case rel => exact ⟨by simp [h], hwr.ahead nq⟩
        case rest =>
          clear hcw hfw hbw HG hwr
          clear G
          obtain ⟨rfl, hwr⟩ := hcut
          cases hT : (decide (t < b) && !ltInt dk[t]! dk[t - 1]!)
          · have hti : t = i2 := by rw [← S.out, ss_end ltInt dk hT]
            clear hT S
            subst hti
            by_cases htb : t = b
            · have E := pin_done ltInt dk (a := a) (s := 5 - (m + 1)) (show scanSorted ltInt dk b i = b by rw [HI3.out, htb])
              rw [A'.out] at E
              have EQ : Hid (dk = r1 ∧ true = r2) := hid ⟨(congrArg Prod.fst E).symm, (congrArg Prod.snd E).symm⟩
              clear E A' HI3
              go_wp2_with fail
              go_ret
              exact ⟨by rw [← EQ.out.2]; rfl, by rw [← EQ.out.1]; exact hwr⟩
            · have htbz : ¬ ((t : Int) = (b : Int)) := by omega
              by_cases h50 : b - a < 50
              · have E := pin_few ltInt dk (a := a) (s := 5 - (m + 1)) (show ¬ scanSorted ltInt dk b i = b by rw [HI3.out]; exact htb) h50
                rw [A'.out] at E
                have EQ : Hid (dk = r1 ∧ false = r2) := hid ⟨(congrArg Prod.fst E).symm, (congrArg Prod.snd E).symm⟩
                clear E A' HI3
                have h50z : (b : Int) - (a : Int) < 50 := by omega
                go_wp2_with fail
                go_ret
                exact ⟨by rw [← EQ.out.2]; rfl, by rw [← EQ.out.1]; exact hwr⟩
              · have h50z : ¬ ((b : Int) - (a : Int) < 50) := by omega
                obtain ⟨d1, e1⟩ : ∃ d1, swp dk t (t - 1) = d1 := ⟨_, rfl⟩
                obtain ⟨d2, e2⟩ : ∃ d2, (if t - a ≥ 2 then shiftDown ltInt (t - 1) d1 else d1) = d2 := ⟨_, rfl⟩
                obtain ⟨d3, e3⟩ : ∃ d3, (if b - t ≥ 2 then shiftUp ltInt b (t + 1) d2 else d2) = d3 := ⟨_, rfl⟩
                have hs1 : d1.size = d.size := by rw [← e1, size_swp]; exact hds
                have hs2 : d2.size = d.size := by rw [← e2]; split <;> simp [shd_size, hs1]
                have hs3 : d3.size = d.size := by
                  rw [← e3]; split
                  · rw [shu_size ltInt b _ _ _ (Nat.le_refl _)]; exact hs2
                  · exact hs2
                have B : Hid (partialIns ltInt a b (5 - (m + 1)) t d3 = (r1, r2)) := hid (by rw [← A'.out, ← pin_step ltInt HI3.out htb h50 e1 e2 e3])
                have E1 : Hid (swp dk t (t - 1) = d1) := e1
                have E2 : Hid ((if t - a ≥ 2 then shiftDown ltInt (t - 1) d1 else d1) = d2) := e2
                have E3 : Hid ((if b - t ≥ 2 then shiftUp ltInt b (t + 1) d2 else d2) = d3) := e3
                clear e1 e2 e3 A' HI3
                go_upto_region 11 with fail
                go_cut [] from 13 to 57 (fun wx => At encU w blk off d1 wx)
                case first =>
                  obtain ⟨G, hG, hcw, hfw, hbw⟩ := At.cells hwr hH hds hblk
                  have HG : Hid (∀ t, G t = dk[t]!) := hG
                  clear hG
                  go_region
                  go_wp2_with fail
                  go_meet
                  case rel => rw [← E1.out]; exact At.swap hwr hblk HG.out 1 t (t - 1) (by omega) (by omega)
                case rest =>
                clear E1 hwr hds
                have hwr := hcut
                clear hcut
                go_upto_if 61 with fail
                go_cut [] from 13 to 94 (fun wx => At encU w blk off d2 wx)
                case first =>
                  by_cases h2 : t - a ≥ 2
                  · have h2z : (t : Int) - (a : Int) ≥ 2 := by omega
                    have ED : Hid (shiftDown ltInt (t - 1) d1 = d2) := hid (by rw [← E2.out, if_pos h2])
                    clear E2
                    go_wp2_with fail
                    go_loopg [9] t (fun k s wr => ∃ (v : Nat) (dv : Array Int), s = .int .i64 v ∧ v < t ∧ v ≤ k ∧ dv.size = d.size ∧ At encU w blk off dv wr ∧ shiftDown ltInt v dv = d2)
                    case atStart => exact ⟨t - 1, d1, by congr 1; omega, by omega, by omega, hs1, hwr, ED.out⟩
                    case round =>
                      clear ED hwr hs1
                      obtain ⟨v, dv, rfl, hvt, hkv, hsv, hwr, hsc⟩ := hrel
                      have S : Hid (shiftDown ltInt v dv = d2) := hsc
                      clear hsc
                      obtain ⟨G, hG, hcw, hfw, hbw⟩ := At.cells hwr hH hsv hblk
                      have HG : Hid (∀ t, G t = dv[t]!) := hG
                      clear hG
                      by_cases hv : 1 ≤ v
                      · have hvz : (v : Int) ≥ 1 := by omega
                        go_wp2_with fail
                        go_big_quiet (first | (go_at_call 33; refine Calls.quiet_of_same (less_calls _ _ _)))
                        cases hT : ltInt (G v) (G (v - 1))
                        · have E : Hid (dv = d2) := hid (by rw [← S.out, shd_end ltInt dv (Or.inr (by rw [← HG.out, ← HG.out]; exact hT))])
                          go_wp2_with fail
                          go_meet
                          case rel => rw [← E.out]; exact hwr.ahead nq
                        · have S2 : Hid (shiftDown ltInt (v - 1) (swp dv v (v - 1)) = d2) := hid (by rw [← shd_step ltInt dv (by omega) (by rw [← HG.out, ← HG.out]; exact hT)]; exact S.out)
                          go_wp2_with fail
                          go_region
                          go_wp2_with fail
                          go_roundg (v - 1)
                          case measure => omega
                          case rel => exact ⟨v - 1, swp dv v (v - 1), by congr 1; omega, by omega, Nat.le_refl _, by rw [size_swp]; exact hsv, At.swap hwr hblk HG.out (nq + 1) v (v - 1) (by omega) (by omega), S2.out⟩
                      · have hvz : ¬ ((v : Int) ≥ 1) := by omega
                        have E : Hid (dv = d2) := hid (by rw [← S.out, shd_end ltInt dv (Or.inl (by omega))])
                        go_wp2_with fail
                        go_meet
                        case rel => rw [← E.out]; exact hwr
                  · have h2z : ¬ ((t : Int) - (a : Int) ≥ 2) := by omega
                    have ED : Hid (d1 = d2) := hid (by rw [← E2.out, if_neg h2])
                    go_wp2_with fail
                    go_meet
                    case rel => rw [← ED.out]; exact hwr
                case rest =>
                clear E2 hwr hs1
                have hwr := hcut
                clear hcut
                go_upto_if 98 with fail
                ·
                  by_cases h2 : b - t ≥ 2
                  · have h2z : (b : Int) - (t : Int) ≥ 2 := by omega
                    have ED : Hid (shiftUp ltInt b (t + 1) d2 = d3) := hid (by rw [← E3.out, if_pos h2])
                    clear E3
                    go_wp2_with fail
                    go_loopg [10] b (fun k s wr => ∃ (v : Nat) (dv : Array Int), s = .int .i64 v ∧ t < v ∧ v ≤ b ∧ b - v ≤ k ∧ dv.size = d.size ∧ At encU w blk off dv wr ∧ shiftUp ltInt b v dv = d3)
                    case atStart => exact ⟨t + 1, d2, by simp, by omega, by omega, by omega, hs2, hwr, ED.out⟩
                    case round =>
                      clear ED hwr hs2
                      obtain ⟨v, dv, rfl, hvt, hvb, hkv, hsv, hwr, hsc⟩ := hrel
                      have S : Hid (shiftUp ltInt b v dv = d3) := hsc
                      clear hsc
                      obtain ⟨G, hG, hcw, hfw, hbw⟩ := At.cells hwr hH hsv hblk
                      have HG : Hid (∀ t, G t = dv[t]!) := hG
                      clear hG
                      by_cases hv : v < b
                      · have hvz : (v : Int) < (b : Int) := by omega
                        go_wp2_with fail
                        go_big_quiet (first | (go_at_call 33; refine Calls.quiet_of_same (less_calls _ _ _)))
                        cases hT : ltInt (G v) (G (v - 1))
                        · have E : Hid (dv = d3) := hid (by rw [← S.out, shu_end ltInt dv (Or.inr (by rw [← HG.out, ← HG.out]; exact hT))])
                          go_wp2_with fail
                          go_roundg (5 - (m + 1))
                          case measure => omega
                          case rel => exact ⟨t, m + 1, d3, rfl, by simp, by omega, by omega, by omega, Nat.le_refl _, hs3, by rw [← E.out]; exact hwr.ahead nq, B.out⟩
                        · have S2 : Hid (shiftUp ltInt b (v + 1) (swp dv v (v - 1)) = d3) := hid (by rw [← shu_step ltInt dv hv (by rw [← HG.out, ← HG.out]; exact hT)]; exact S.out)
                          go_wp2_with fail
                          go_region
                          go_wp2_with fail
                          go_roundg (b - (v + 1))
                          case measure => omega
                          case rel => exact ⟨v + 1, swp dv v (v - 1), by simp, by omega, by omega, Nat.le_refl _, by rw [size_swp]; exact hsv, At.swap hwr hblk HG.out (nq + 1) v (v - 1) (by omega) (by omega), S2.out⟩
                      · have hvz : ¬ ((v : Int) < (b : Int)) := by omega
                        have E : Hid (dv = d3) := hid (by rw [← S.out, shu_end ltInt dv (Or.inl hv)])
                        go_wp2_with fail
                        go_roundg (5 - (m + 1))
                        case measure => omega
                        case rel => exact ⟨t, m + 1, d3, rfl, by simp, by omega, by omega, by omega, Nat.le_refl _, hs3, by rw [← E.out]; exact hwr, B.out⟩
                  · have h2z : ¬ ((b : Int) - (t : Int) ≥ 2) := by omega
                    have ED : Hid (d2 = d3) := hid (by rw [← E3.out, if_neg h2])
                    go_wp2_with fail
                    go_roundg (5 - (m + 1))
                    case measure => omega
                    case rel => exact ⟨t, m + 1, d3, rfl, by simp, by omega, by omega, by omega, Nat.le_refl _, hs3, by rw [← ED.out]; exact hwr, B.out⟩
          · have htb : t < b := by simp only [Bool.and_eq_true, decide_eq_true_eq] at hT; exact hT.1
            have S2 : Hid (scanSorted ltInt dk b (t + 1) = i2) := hid (by rw [← ss_step ltInt dk hT]; exact S.out)
            clear S
            clear hT
            go_wp2_with fail
            go_roundg (b - (t + 1))
            case measure => omega
            case rel => exact ⟨t + 1, by simp, by omega, by omega, by omega, hwr, S2.out⟩
    · have hm5z : ¬ ((m : Int) < 5) := by omega
      have E := A.out
      rw [show 5 - m = 0 by omega] at E
      have EQ : Hid (dk = r1 ∧ false = r2) := hid ⟨congrArg Prod.fst E, congrArg Prod.snd E⟩
      clear E A
      go_wp2_with fail
      go_ret
      exact ⟨by rw [← EQ.out.2]; rfl, by rw [← EQ.out.1]; exact hwr⟩
#print axioms partialIns_calls
end Go.Proofs.Ytjgcdjfeglhalaa.Srt
