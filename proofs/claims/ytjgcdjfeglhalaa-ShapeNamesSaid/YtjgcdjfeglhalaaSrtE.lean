import Derived.Test.YtjgcdjfeglhalaaSrtD
namespace Go.Proofs.Ytjgcdjfeglhalaa.Srt
open Go.RowKit Go.Sort

theorem partition_stop {d D : Array Int} {a b pivot i2 j2 : Nat} (hD : swp d a pivot = D) (hi : scanUp (fun x => ltInt x D[a]!) D (b - 1) (a + 1) = i2) (hj : scanDown (fun x => !ltInt x D[a]!) D i2 (b - 1) = j2) (h : i2 > j2) :
    partition ltInt d a b pivot = (j2, true, swp D j2 a) := by
  subst hD hi hj
  unfold partition
  exact if_pos h
theorem partition_go {d D : Array Int} {a b pivot i2 j2 : Nat} (hD : swp d a pivot = D) (hi : scanUp (fun x => ltInt x D[a]!) D (b - 1) (a + 1) = i2) (hj : scanDown (fun x => !ltInt x D[a]!) D i2 (b - 1) = j2) (h : ¬ i2 > j2) :
    partition ltInt d a b pivot = ((partLoop ltInt a (i2 + 1) (j2 - 1) (swp D i2 j2)).1, false, swp (partLoop ltInt a (i2 + 1) (j2 - 1) (swp D i2 j2)).2 (partLoop ltInt a (i2 + 1) (j2 - 1) (swp D i2 j2)).1 a) := by
  subst hD hi hj
  unfold partition
  exact if_neg h

set_option maxRecDepth 1000000 in
set_option maxHeartbeats 6400000 in
theorem partition_calls (blk off cap a b pivot : Nat) (d : Array Int) (w : World) (hH : Holds encU w blk off d) (hblk : blk < w.heap.size) (hap : a ≤ pivot) (hpb : pivot < b) (hb : b ≤ d.size) (hsz : d.size < 4611686018427387904) :
    Calls Try.prog 35 #[.slice (some ⟨blk, off, none⟩) d.size cap, .int .i64 a, .int .i64 b, .int .i64 pivot] w fun e w' =>
      e = .returned (.tuple #[.int .i64 (partition ltInt d a b pivot).1, .bool (partition ltInt d a b pivot).2.1]) ∧ At encU w blk off (partition ltInt d a b pivot).2.2 w' := by
  go_enter Try.func35, Try.ntmps35
  have hwr := At.refl hH
  go_upto_region 1 with fail
  go_cut [] from 12 to 25 (fun wx => At encU w blk off (swp d a pivot) wx)
  case first =>
    obtain ⟨G, hG, hcw, hfw, hbw⟩ := At.cells hwr hH rfl hblk
    have HG : Hid (∀ t, G t = d[t]!) := hG
    clear hG
    rcases Nat.lt_or_eq_of_le hap with hlt | hlt
    · go_region
      go_wp2_with fail
      go_meet
      case rel => exact At.swap hwr hblk HG.out 1 a pivot (by omega) (by omega)
    · subst hlt
      go_region
      go_wp2_with fail
      go_meet
      case rel => exact At.swap hwr hblk HG.out 1 a a (by omega) (by omega)
  case rest =>
    clear hwr
    have hwr := hcut
    clear hcut
    obtain ⟨D, hD⟩ : ∃ D, swp d a pivot = D := ⟨_, rfl⟩
    have hDs : D.size = d.size := by rw [← hD, size_swp]
    rw [hD] at hwr
    obtain ⟨i2, hi2⟩ : ∃ i2, scanUp (fun x => ltInt x D[a]!) D (b - 1) (a + 1) = i2 := ⟨_, rfl⟩
    have hi2g : a + 1 ≤ i2 := by rw [← hi2]; exact scanUp_ge _ _ _ _
    obtain ⟨j2, hj2⟩ : ∃ j2, scanDown (fun x => !ltInt x D[a]!) D i2 (b - 1) = j2 := ⟨_, rfl⟩
    have hj2l : j2 ≤ b - 1 := by rw [← hj2]; exact scanDown_le _ _ _ _
    have hE1 : Hid (i2 > j2 → partition ltInt d a b pivot = (j2, true, swp D j2 a)) := hid (partition_stop hD hi2 hj2)
    have hE2 : Hid (¬ i2 > j2 → partition ltInt d a b pivot = ((partLoop ltInt a (i2 + 1) (j2 - 1) (swp D i2 j2)).1, false, swp (partLoop ltInt a (i2 + 1) (j2 - 1) (swp D i2 j2)).2 (partLoop ltInt a (i2 + 1) (j2 - 1) (swp D i2 j2)).1 a)) := hid (partition_go hD hi2 hj2)
    have HI2 : Hid (scanUp (fun x => ltInt x D[a]!) D (b - 1) (a + 1) = i2) := hi2
    have HJ2 : Hid (scanDown (fun x => !ltInt x D[a]!) D i2 (b - 1) = j2) := hj2
    clear hD hi2 hj2
    obtain ⟨a1, ha1⟩ : ∃ a1, a + 1 = a1 := ⟨_, rfl⟩
    obtain ⟨b1, hb1⟩ : ∃ b1, b - 1 = b1 := ⟨_, rfl⟩
    rw [ha1, hb1] at HI2
    rw [hb1] at HJ2
    go_wp2_with fail
    go_loopg [10] (b1 + 1 - a1) (fun k s wr => ∃ (t : Nat), s = .int .i64 t ∧ a1 ≤ t ∧ t ≤ b1 + 2 ∧ b1 + 1 - t ≤ k ∧ At encU w blk off D wr ∧ scanUp (fun x => ltInt x D[a]!) D b1 t = i2)
    case atStart => exact ⟨a1, by congr 1; omega, Nat.le_refl _, by omega, Nat.le_refl _, hwr, HI2.out⟩
    case round =>
      clear HI2 hwr
      obtain ⟨t, rfl, ht1, ht2, hkt, hwr, hsc⟩ := hrel
      have S : Hid (scanUp (fun x => ltInt x D[a]!) D b1 t = i2) := hsc
      clear hsc
      obtain ⟨G, hG, hcw, hfw, hbw⟩ := At.cells hwr hH hDs hblk
      have HG : Hid (∀ t, G t = D[t]!) := hG
      clear hG
      go_upto_region 3 with fail
      go_cut [43] from 30 to 43 (fun s wx => s = .bool (decide (t ≤ b1) && ltInt D[t]! D[a]!) ∧ At encU w blk off D wx)
      case first =>
        by_cases h : t ≤ b1
        · have hz : (t : Int) ≤ (b1 : Int) := by omega
          have hzz : (t : Int) ≤ (b : Int) - 1 := by omega
          go_big_quiet (first | (go_at_call 33; refine Calls.quiet_of_same (less_calls _ _ _)))
          go_wp2_with fail
          go_meet
          case rel => exact ⟨by simp [h, HG.out], hwr.ahead nq⟩
        · have hz : decide ((t : Int) ≤ (b1 : Int)) = false := decide_eq_false (by omega)
          have hzz : decide ((t : Int) ≤ (b : Int) - 1) = false := decide_eq_false (by omega)
          go_big_quiet (first | (go_at_call 33; refine Calls.quiet_of_same (less_calls _ _ _)))
          go_wp2_with fail
          go_meet
          case rel => exact ⟨by simp [h], hwr.ahead nq⟩
      case rest =>
        clear hcw hfw hbw HG hwr
        clear G
        obtain ⟨rfl, hwr⟩ := hcut
        cases hT : (decide (t ≤ b1) && ltInt D[t]! D[a]!)
        · have hti : t = i2 := by rw [← S.out, up_end (fun x => ltInt x D[a]!) D hT]
          clear hT S
          subst hti
          go_wp2_with fail
          go_loopg [11] (b1 + 1) (fun k s wr => ∃ (v : Nat), s = .int .i64 v ∧ t ≤ v + 2 ∧ v ≤ b1 ∧ v + 1 ≤ k ∧ At encU w blk off D wr ∧ scanDown (fun x => !ltInt x D[a]!) D t v = j2)
          case atStart => exact ⟨b1, by first | rfl | (congr 1; omega), ht2, Nat.le_refl _, Nat.le_refl _, hwr, HJ2.out⟩
          case round =>
            clear HJ2 hwr
            obtain ⟨v, rfl, hv1, hv2, hkv, hwr, hsc⟩ := hrel
            have S : Hid (scanDown (fun x => !ltInt x D[a]!) D t v = j2) := hsc
            clear hsc
            obtain ⟨G, hG, hcw, hfw, hbw⟩ := At.cells hwr hH hDs hblk
            have HG : Hid (∀ t, G t = D[t]!) := hG
            clear hG
            go_upto_region 5 with fail
            go_cut [60] from 46 to 60 (fun s wx => s = .bool (decide (t ≤ v) && !ltInt D[v]! D[a]!) ∧ At encU w blk off D wx)
            case first =>
              by_cases h : t ≤ v
              · have hz : (t : Int) ≤ (v : Int) := by omega
                go_big_quiet (first | (go_at_call 33; refine Calls.quiet_of_same (less_calls _ _ _)))
                go_wp2_with fail
                go_meet
                case rel => exact ⟨by simp [h, HG.out], hwr.ahead nq⟩
              · have hz : decide ((t : Int) ≤ (v : Int)) = false := decide_eq_false (by omega)
                go_big_quiet (first | (go_at_call 33; refine Calls.quiet_of_same (less_calls _ _ _)))
                go_wp2_with fail
                go_meet
                case rel => exact ⟨by simp [h], hwr.ahead nq⟩
            case rest =>
              clear hcw hfw hbw HG hwr
              clear G
              obtain ⟨rfl, hwr⟩ := hcut
              cases hT : (decide (t ≤ v) && !ltInt D[v]! D[a]!)
              · have hvj : v = j2 := by rw [← S.out, down_end (fun x => !ltInt x D[a]!) D hT]
                clear hT S
                subst hvj
                by_cases hgt : t > v
                · have E := hE1.out hgt
                  go_upto_region 8 with fail
                  go_cut [] from 66 to 79 (fun wx => At encU w blk off (swp D v a) wx)
                  case first =>
                    obtain ⟨G, hG, hcw, hfw, hbw⟩ := At.cells hwr hH hDs hblk
                    have HG : Hid (∀ t, G t = D[t]!) := hG
                    clear hG
                    rcases Nat.lt_trichotomy v a with hlt | hlt | hlt
                    · go_region
                      go_wp2_with fail
                      go_meet
                      case rel => exact At.swap hwr hblk HG.out 1 v a (by omega) (by omega)
                    · subst hlt
                      go_region
                      go_wp2_with fail
                      go_meet
                      case rel => exact At.swap hwr hblk HG.out 1 v v (by omega) (by omega)
                    · go_region
                      go_wp2_with fail
                      go_meet
                      case rel => exact At.swap hwr hblk HG.out 1 v a (by omega) (by omega)
                  case rest =>
                    clear hwr
                    have hwr := hcut
                    clear hcut
                    go_wp2_with fail
                    refine bodyPost_ret (results_tmp2 rfl _ _ _) rfl ⟨by rw [E]; rfl, by rw [E]; exact hwr⟩
                · obtain ⟨r1, r2, hr⟩ : ∃ r1 r2, partLoop ltInt a (t + 1) (v - 1) (swp D t v) = (r1, r2) := ⟨_, _, rfl⟩
                  have EP : Hid (partition ltInt d a b pivot = (r1, false, swp r2 r1 a)) := hid (by have := hE2.out hgt; rw [hr] at this; exact this)
                  have HR : Hid (partLoop ltInt a (t + 1) (v - 1) (swp D t v) = (r1, r2)) := hr
                  clear hr hE1 hE2
                  obtain ⟨D2, hD2⟩ : ∃ D2, swp D t v = D2 := ⟨_, rfl⟩
                  have hD2s : D2.size = d.size := by rw [← hD2, size_swp]; exact hDs
                  go_upto_region 10 with fail
                  go_cut [] from 81 to 94 (fun wx => At encU w blk off (swp D t v) wx)
                  case first =>
                    obtain ⟨G, hG, hcw, hfw, hbw⟩ := At.cells hwr hH hDs hblk
                    have HG : Hid (∀ t, G t = D[t]!) := hG
                    clear hG
                    rcases Nat.lt_or_eq_of_le (Nat.le_of_not_lt hgt) with hlt | hlt
                    · go_region
                      go_wp2_with fail
                      go_meet
                      case rel => exact At.swap hwr hblk HG.out 1 t v (by omega) (by omega)
                    · subst hlt
                      go_region
                      go_wp2_with fail
                      go_meet
                      case rel => exact At.swap hwr hblk HG.out 1 t t (by omega) (by omega)
                  case rest =>
                    clear hwr
                    have hwr := hcut
                    clear hcut
                    rw [hD2] at hwr HR
                    clear hD2
                    go_wp2_with fail
                    go_loopg [10, 11] b (fun k s10 s11 wr => ∃ (i j : Nat) (dk : Array Int), s10 = .int .i64 i ∧ s11 = .int .i64 j ∧ a < i ∧ i ≤ j + 2 ∧ j < b ∧ j + 1 - i ≤ k ∧ dk.size = d.size ∧ At encU w blk off dk wr ∧ partLoop ltInt a i j dk = (r1, r2))
                    case atStart => exact ⟨t + 1, v - 1, D2, by simp, by congr 1; omega, by omega, by omega, by omega, by omega, hD2s, hwr, HR.out⟩
                    case round =>
                      clear HR hwr
                      clear hD2s
                      obtain ⟨i, j, dk, rfl, rfl, hi, hij, hjb, hk, hds, hwr, heq⟩ := hrel
                      have A : Hid (partLoop ltInt a i j dk = (r1, r2)) := heq
                      clear heq
                      rw [partLoop_eq] at A
                      obtain ⟨i2, hi2⟩ : ∃ i2, scanUp (fun x => ltInt x dk[a]!) dk j i = i2 := ⟨_, rfl⟩
                      have hi2g : i ≤ i2 := by rw [← hi2]; exact scanUp_ge _ _ _ _
                      rw [hi2] at A
                      have HI2 : Hid (scanUp (fun x => ltInt x dk[a]!) dk j i = i2) := hi2
                      clear hi2
                      obtain ⟨j2, hj2⟩ : ∃ j2, scanDown (fun x => !ltInt x dk[a]!) dk i2 j = j2 := ⟨_, rfl⟩
                      have hj2l : j2 ≤ j := by rw [← hj2]; exact scanDown_le _ _ _ _
                      rw [hj2] at A
                      have HJ2 : Hid (scanDown (fun x => !ltInt x dk[a]!) dk i2 j = j2) := hj2
                      clear hj2
                      go_wp2_with fail
                      go_loopg [10] (j + 1 - i) (fun k s wr => ∃ (t' : Nat), s = .int .i64 t' ∧ i ≤ t' ∧ t' ≤ j + 2 ∧ j + 1 - t' ≤ k ∧ At encU w blk off dk wr ∧ scanUp (fun x => ltInt x dk[a]!) dk j t' = i2)
                      case atStart => exact ⟨i, rfl, Nat.le_refl _, by omega, Nat.le_refl _, hwr, HI2.out⟩
                      case round =>
                        clear HI2 hwr
                        obtain ⟨t', rfl, ht1, ht2, hkt, hwr, hsc⟩ := hrel
                        have S : Hid (scanUp (fun x => ltInt x dk[a]!) dk j t' = i2) := hsc
                        clear hsc
                        obtain ⟨G, hG, hcw, hfw, hbw⟩ := At.cells hwr hH hds hblk
                        have HG : Hid (∀ t, G t = dk[t]!) := hG
                        clear hG
                        go_upto_region 13 with fail
                        go_cut [112] from 99 to 112 (fun s wx => s = .bool (decide (t' ≤ j) && ltInt dk[t']! dk[a]!) ∧ At encU w blk off dk wx)
                        case first =>
                          by_cases h : t' ≤ j
                          · have hz : (t' : Int) ≤ (j : Int) := by omega
                            go_big_quiet (first | (go_at_call 33; refine Calls.quiet_of_same (less_calls _ _ _)))
                            go_wp2_with fail
                            go_meet
                            case rel => exact ⟨by simp [h, HG.out], hwr.ahead nq⟩
                          · have hz : decide ((t' : Int) ≤ (j : Int)) = false := decide_eq_false (by omega)
                            go_big_quiet (first | (go_at_call 33; refine Calls.quiet_of_same (less_calls _ _ _)))
                            go_wp2_with fail
                            go_meet
                            case rel => exact ⟨by simp [h], hwr.ahead nq⟩
                        case rest =>
                          clear hcw hfw hbw HG hwr
                          clear G
                          obtain ⟨rfl, hwr⟩ := hcut
                          cases hT : (decide (t' ≤ j) && ltInt dk[t']! dk[a]!)
                          · have hti : t' = i2 := by rw [← S.out, up_end (fun x => ltInt x dk[a]!) dk hT]
                            clear hT S
                            subst hti
                            go_wp2_with fail
                            go_loopg [11] (j + 1) (fun k s wr => ∃ (v' : Nat), s = .int .i64 v' ∧ t' ≤ v' + 2 ∧ v' ≤ j ∧ v' + 1 ≤ k ∧ At encU w blk off dk wr ∧ scanDown (fun x => !ltInt x dk[a]!) dk t' v' = j2)
                            case atStart => exact ⟨j, by first | rfl | (congr 1; omega), ht2, Nat.le_refl _, Nat.le_refl _, hwr, HJ2.out⟩
                            case round =>
                              clear HJ2 hwr
                              obtain ⟨v', rfl, hv1, hv2, hkv, hwr, hsc⟩ := hrel
                              have S : Hid (scanDown (fun x => !ltInt x dk[a]!) dk t' v' = j2) := hsc
                              clear hsc
                              obtain ⟨G, hG, hcw, hfw, hbw⟩ := At.cells hwr hH hds hblk
                              have HG : Hid (∀ t, G t = dk[t]!) := hG
                              clear hG
                              go_upto_region 15 with fail
                              go_cut [129] from 115 to 129 (fun s wx => s = .bool (decide (t' ≤ v') && !ltInt dk[v']! dk[a]!) ∧ At encU w blk off dk wx)
                              case first =>
                                by_cases h : t' ≤ v'
                                · have hz : (t' : Int) ≤ (v' : Int) := by omega
                                  go_big_quiet (first | (go_at_call 33; refine Calls.quiet_of_same (less_calls _ _ _)))
                                  go_wp2_with fail
                                  go_meet
                                  case rel => exact ⟨by simp [h, HG.out], hwr.ahead nq⟩
                                · have hz : decide ((t' : Int) ≤ (v' : Int)) = false := decide_eq_false (by omega)
                                  go_big_quiet (first | (go_at_call 33; refine Calls.quiet_of_same (less_calls _ _ _)))
                                  go_wp2_with fail
                                  go_meet
                                  case rel => exact ⟨by simp [h], hwr.ahead nq⟩
                              case rest =>
                                clear hcw hfw hbw HG hwr
                                clear G
                                obtain ⟨rfl, hwr⟩ := hcut
                                cases hT : (decide (t' ≤ v') && !ltInt dk[v']! dk[a]!)
                                · have hvj : v' = j2 := by rw [← S.out, down_end (fun x => !ltInt x dk[a]!) dk hT]
                                  clear hT S
                                  subst hvj
                                  by_cases hgt : t' > v'
                                  · have A2 : Hid (r1 = v' ∧ r2 = dk) := hid (by have := A.out; rw [if_pos hgt] at this; exact ⟨(congrArg Prod.fst this).symm, (congrArg Prod.snd this).symm⟩)
                                    clear A
                                    obtain ⟨e1, e2⟩ := A2.out
                                    subst e1 e2
                                    clear A2
                                    go_upto_region 21 with fail
                                    go_cut [] from 153 to 166 (fun wx => At encU w blk off (swp r2 r1 a) wx)
                                    case first =>
                                      obtain ⟨G, hG, hcw, hfw, hbw⟩ := At.cells hwr hH hds hblk
                                      have HG : Hid (∀ t, G t = r2[t]!) := hG
                                      clear hG
                                      rcases Nat.lt_trichotomy r1 a with hlt | hlt | hlt
                                      · go_region
                                        go_wp2_with fail
                                        go_meet
                                        case rel => exact At.swap hwr hblk HG.out 1 r1 a (by omega) (by omega)
                                      · subst hlt
                                        go_region
                                        go_wp2_with fail
                                        go_meet
                                        case rel => exact At.swap hwr hblk HG.out 1 r1 r1 (by omega) (by omega)
                                      · go_region
                                        go_wp2_with fail
                                        go_meet
                                        case rel => exact At.swap hwr hblk HG.out 1 r1 a (by omega) (by omega)
                                    case rest =>
                                      clear hwr
                                      have hwr := hcut
                                      clear hcut
                                      have E := EP.out
                                      go_wp2_with fail
                                      refine bodyPost_ret (results_tmp2 rfl _ _ _) rfl ⟨by rw [E]; rfl, by rw [E]; exact hwr⟩
                                  · have A2 : Hid (partLoop ltInt a (t' + 1) (v' - 1) (swp dk t' v') = (r1, r2)) := hid (by rw [← A.out, if_neg hgt])
                                    clear A
                                    go_upto_region 18 with fail
                                    go_cut [] from 135 to 148 (fun wx => At encU w blk off (swp dk t' v') wx)
                                    case first =>
                                      obtain ⟨G, hG, hcw, hfw, hbw⟩ := At.cells hwr hH hds hblk
                                      have HG : Hid (∀ t, G t = dk[t]!) := hG
                                      clear hG
                                      rcases Nat.lt_or_eq_of_le (Nat.le_of_not_lt hgt) with hlt | hlt
                                      · go_region
                                        go_wp2_with fail
                                        go_meet
                                        case rel => exact At.swap hwr hblk HG.out 1 t' v' (by omega) (by omega)
                                      · subst hlt
                                        go_region
                                        go_wp2_with fail
                                        go_meet
                                        case rel => exact At.swap hwr hblk HG.out 1 t' t' (by omega) (by omega)
                                    case rest =>
                                      clear hwr
                                      have hwr := hcut
                                      clear hcut
                                      go_wp2_with fail
                                      go_roundg (v' - 1 + 1 - (t' + 1))
                                      case measure => omega
                                      case rel => exact ⟨t' + 1, v' - 1, swp dk t' v', by simp, by congr 1; omega, by omega, by omega, by omega, Nat.le_refl _, by rw [size_swp]; exact hds, hwr, A2.out⟩
                                · have htv : t' ≤ v' := by simp only [Bool.and_eq_true, decide_eq_true_eq] at hT; exact hT.1
                                  have S2 : Hid (scanDown (fun x => !ltInt x dk[a]!) dk t' (v' - 1) = j2) := hid (by rw [← down_step (fun x => !ltInt x dk[a]!) dk (by omega) hT]; exact S.out)
                                  clear S
                                  clear hT
                                  go_wp2_with fail
                                  go_roundg v'
                                  case measure => omega
                                  case rel => exact ⟨v' - 1, by congr 1; omega, by omega, by omega, by omega, hwr, S2.out⟩
                          · have htj : t' ≤ j := by simp only [Bool.and_eq_true, decide_eq_true_eq] at hT; exact hT.1
                            have S2 : Hid (scanUp (fun x => ltInt x dk[a]!) dk j (t' + 1) = i2) := hid (by rw [← up_step (fun x => ltInt x dk[a]!) dk hT]; exact S.out)
                            clear S
                            clear hT
                            go_wp2_with fail
                            go_roundg (j + 1 - (t' + 1))
                            case measure => omega
                            case rel => exact ⟨t' + 1, by simp, by omega, by omega, by omega, hwr, S2.out⟩
              · have htv : t ≤ v := by simp only [Bool.and_eq_true, decide_eq_true_eq] at hT; exact hT.1
                have S2 : Hid (scanDown (fun x => !ltInt x D[a]!) D t (v - 1) = j2) := hid (by rw [← down_step (fun x => !ltInt x D[a]!) D (by omega) hT]; exact S.out)
                clear S
                clear hT
                go_wp2_with fail
                go_roundg v
                case measure => omega
                case rel => exact ⟨v - 1, by congr 1; omega, by omega, by omega, by omega, hwr, S2.out⟩
        · have htj : t ≤ b1 := by simp only [Bool.and_eq_true, decide_eq_true_eq] at hT; exact hT.1
          have S2 : Hid (scanUp (fun x => ltInt x D[a]!) D b1 (t + 1) = i2) := hid (by rw [← up_step (fun x => ltInt x D[a]!) D hT]; exact S.out)
          clear S
          clear hT
          go_wp2_with fail
          go_roundg (b1 + 1 - (t + 1))
          case measure => omega
          case rel => exact ⟨t + 1, by simp, by omega, by omega, by omega, hwr, S2.out⟩

#print axioms partition_calls
end Go.Proofs.Ytjgcdjfeglhalaa.Srt
