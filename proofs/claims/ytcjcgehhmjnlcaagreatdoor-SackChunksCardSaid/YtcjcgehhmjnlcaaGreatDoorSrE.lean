/- Joined: SrtE, SrtF, SrtG, SrtH, SrtP. -/
import Derived.Test.YtcjcgehhmjnlcaaGreatDoorSrA
import Derived.Test.YtcjcgehhmjnlcaaGreatDoorBits
import Derived.Sort.LotD1
import Derived.Sort.AssemblyPlain
namespace Go.Proofs.YtcjcgehhmjnlcaaGreatDoor.Srt
open Go.RowKit Go.Sort

theorem partition_stop {d D : Array Int} {a b pivot i2 j2 : Nat} (hD : swp d a pivot = D) (hi : scanUp (fun x => ltInt x D[a]!) D (b - 1) (a + 1) = i2) (hj : scanDown (fun x => !ltInt x D[a]!) D i2 (b - 1) = j2) (h : i2 > j2) :
    partition ltInt d a b pivot = (j2, true, swp D j2 a) := by
  subst hD hi hj
  unfold partition
  exact if_pos h
theorem partition_go {d D : Array Int} {a b pivot i2 j2 : Nat} (hD : swp d a pivot = D) (hi : scanUp (fun x => ltInt x D[a]!) D (b - 1) (a + 1) = i2) (hj : scanDown (fun x => !ltInt x D[a]!) D i2 (b - 1) = j2) (h : ¬ i2 > j2) :
    partition ltInt d a b pivot = ((partLoop ltInt a (i2 + 1) (j2 - 1) (swp D i2 j2)).1, false, swp (partLoop ltInt a (i2 + 1) (j2 - 1) (swp D i2 j2)).2 (partLoop ltInt a (i2 + 1) (j2 - 1) (swp D i2 j2)).1 a) := by
  subst hD hi hj
  unfold partition
  exact if_neg h

set_option maxRecDepth 1000000 in
set_option maxHeartbeats 6400000 in
theorem partition_calls (blk off cap a b pivot : Nat) (d : Array Int) (w : World) (hH : Holds encU w blk off d) (hblk : blk < w.heap.size) (hap : a ≤ pivot) (hpb : pivot < b) (hb : b ≤ d.size) (hsz : d.size < 4611686018427387904) :
    Calls Tryz.prog 161 #[.slice (some ⟨blk, off, none⟩) d.size cap, .int .i64 a, .int .i64 b, .int .i64 pivot] w fun e w' =>
      e = .returned (.tuple #[.int .i64 (partition ltInt d a b pivot).1, .bool (partition ltInt d a b pivot).2.1]) ∧ At encU w blk off (partition ltInt d a b pivot).2.2 w' := by
  go_enter Tryz.func161, Tryz.ntmps161
  have hwr := At.refl hH
  go_upto_region 1 with fail
  go_cut [] from 12 to 25 (fun wx => At encU w blk off (swp d a pivot) wx)
  case first =>
    obtain ⟨G, hG, hcw, hfw, hbw⟩ := At.cells hwr hH rfl hblk
    have HG : Hid (∀ t, G t = d[t]!) := hG
    clear hG
    rcases Nat.lt_or_eq_of_le hap with hlt | hlt
    · go_region
      go_wp2_with fail
      go_meet
      case rel => exact At.swap hwr hblk HG.out 1 a pivot (by omega) (by omega)
    · subst hlt
      go_region
      go_wp2_with fail
      go_meet
      case rel => exact At.swap hwr hblk HG.out 1 a a (by omega) (by omega)
  case rest =>
    clear hwr
    have hwr := hcut
    clear hcut
    obtain ⟨D, hD⟩ : ∃ D, swp d a pivot = D := ⟨_, rfl⟩
    have hDs : D.size = d.size := by rw [← hD, size_swp]
    rw [hD] at hwr
    obtain ⟨i2, hi2⟩ : ∃ i2, scanUp (fun x => ltInt x D[a]!) D (b - 1) (a + 1) = i2 := ⟨_, rfl⟩
    have hi2g : a + 1 ≤ i2 := by rw [← hi2]; exact scanUp_ge _ _ _ _
    obtain ⟨j2, hj2⟩ : ∃ j2, scanDown (fun x => !ltInt x D[a]!) D i2 (b - 1) = j2 := ⟨_, rfl⟩
    have hj2l : j2 ≤ b - 1 := by rw [← hj2]; exact scanDown_le _ _ _ _
    have hE1 : Hid (i2 > j2 → partition ltInt d a b pivot = (j2, true, swp D j2 a)) := hid (partition_stop hD hi2 hj2)
    have hE2 : Hid (¬ i2 > j2 → partition ltInt d a b pivot = ((partLoop ltInt a (i2 + 1) (j2 - 1) (swp D i2 j2)).1, false, swp (partLoop ltInt a (i2 + 1) (j2 - 1) (swp D i2 j2)).2 (partLoop ltInt a (i2 + 1) (j2 - 1) (swp D i2 j2)).1 a)) := hid (partition_go hD hi2 hj2)
    have HI2 : Hid (scanUp (fun x => ltInt x D[a]!) D (b - 1) (a + 1) = i2) := hi2
    have HJ2 : Hid (scanDown (fun x => !ltInt x D[a]!) D i2 (b - 1) = j2) := hj2
    clear hD hi2 hj2
    obtain ⟨a1, ha1⟩ : ∃ a1, a + 1 = a1 := ⟨_, rfl⟩
    obtain ⟨b1, hb1⟩ : ∃ b1, b - 1 = b1 := ⟨_, rfl⟩
    rw [ha1, hb1] at HI2
    rw [hb1] at HJ2
    go_wp2_with fail
    go_loopg [10] (b1 + 1 - a1) (fun k s wr => ∃ (t : Nat), s = .int .i64 t ∧ a1 ≤ t ∧ t ≤ b1 + 2 ∧ b1 + 1 - t ≤ k ∧ At encU w blk off D wr ∧ scanUp (fun x => ltInt x D[a]!) D b1 t = i2)
    case atStart => exact ⟨a1, by congr 1; omega, Nat.le_refl _, by omega, Nat.le_refl _, hwr, HI2.out⟩
    case round =>
      clear HI2 hwr
      obtain ⟨t, rfl, ht1, ht2, hkt, hwr, hsc⟩ := hrel
      have S : Hid (scanUp (fun x => ltInt x D[a]!) D b1 t = i2) := hsc
      clear hsc
      obtain ⟨G, hG, hcw, hfw, hbw⟩ := At.cells hwr hH hDs hblk
      have HG : Hid (∀ t, G t = D[t]!) := hG
      clear hG
      go_upto_region 3 with fail
      go_cut [43] from 30 to 43 (fun s wx => s = .bool (decide (t ≤ b1) && ltInt D[t]! D[a]!) ∧ At encU w blk off D wx)
      case first =>
        by_cases h : t ≤ b1
        · have hz : (t : Int) ≤ (b1 : Int) := by omega
          have hzz : (t : Int) ≤ (b : Int) - 1 := by omega
          go_big_quiet (first | (go_at_call 159; refine Calls.quiet_of_same (less_calls _ _ _)))
          go_wp2_with fail
          go_meet
          case rel => exact ⟨by simp [h, HG.out], hwr.ahead nq⟩
        · have hz : decide ((t : Int) ≤ (b1 : Int)) = false := decide_eq_false (by omega)
          have hzz : decide ((t : Int) ≤ (b : Int) - 1) = false := decide_eq_false (by omega)
          go_big_quiet (first | (go_at_call 159; refine Calls.quiet_of_same (less_calls _ _ _)))
          go_wp2_with fail
          go_meet
          case rel => exact ⟨by simp [h], hwr.ahead nq⟩
      case rest =>
        clear hcw hfw hbw HG hwr
        clear G
        obtain ⟨rfl, hwr⟩ := hcut
        cases hT : (decide (t ≤ b1) && ltInt D[t]! D[a]!)
        · have hti : t = i2 := by rw [← S.out, up_end (fun x => ltInt x D[a]!) D hT]
          clear hT S
          subst hti
          go_wp2_with fail
          go_loopg [11] (b1 + 1) (fun k s wr => ∃ (v : Nat), s = .int .i64 v ∧ t ≤ v + 2 ∧ v ≤ b1 ∧ v + 1 ≤ k ∧ At encU w blk off D wr ∧ scanDown (fun x => !ltInt x D[a]!) D t v = j2)
          case atStart => exact ⟨b1, by first | rfl | (congr 1; omega), ht2, Nat.le_refl _, Nat.le_refl _, hwr, HJ2.out⟩
          case round =>
            clear HJ2 hwr
            obtain ⟨v, rfl, hv1, hv2, hkv, hwr, hsc⟩ := hrel
            have S : Hid (scanDown (fun x => !ltInt x D[a]!) D t v = j2) := hsc
            clear hsc
            obtain ⟨G, hG, hcw, hfw, hbw⟩ := At.cells hwr hH hDs hblk
            have HG : Hid (∀ t, G t = D[t]!) := hG
            clear hG
            go_upto_region 5 with fail
            go_cut [60] from 46 to 60 (fun s wx => s = .bool (decide (t ≤ v) && !ltInt D[v]! D[a]!) ∧ At encU w blk off D wx)
            case first =>
              by_cases h : t ≤ v
              · have hz : (t : Int) ≤ (v : Int) := by omega
                go_big_quiet (first | (go_at_call 159; refine Calls.quiet_of_same (less_calls _ _ _)))
                go_wp2_with fail
                go_meet
                case rel => exact ⟨by simp [h, HG.out], hwr.ahead nq⟩
              · have hz : decide ((t : Int) ≤ (v : Int)) = false := decide_eq_false (by omega)
                go_big_quiet (first | (go_at_call 159; refine Calls.quiet_of_same (less_calls _ _ _)))
                go_wp2_with fail
                go_meet
                case rel => exact ⟨by simp [h], hwr.ahead nq⟩
            case rest =>
              clear hcw hfw hbw HG hwr
              clear G
              obtain ⟨rfl, hwr⟩ := hcut
              cases hT : (decide (t ≤ v) && !ltInt D[v]! D[a]!)
              · have hvj : v = j2 := by rw [← S.out, down_end (fun x => !ltInt x D[a]!) D hT]
                clear hT S
                subst hvj
                by_cases hgt : t > v
                · have E := hE1.out hgt
                  go_upto_region 8 with fail
                  go_cut [] from 66 to 79 (fun wx => At encU w blk off (swp D v a) wx)
                  case first =>
                    obtain ⟨G, hG, hcw, hfw, hbw⟩ := At.cells hwr hH hDs hblk
                    have HG : Hid (∀ t, G t = D[t]!) := hG
                    clear hG
                    rcases Nat.lt_trichotomy v a with hlt | hlt | hlt
                    · go_region
                      go_wp2_with fail
                      go_meet
                      case rel => exact At.swap hwr hblk HG.out 1 v a (by omega) (by omega)
                    · subst hlt
                      go_region
                      go_wp2_with fail
                      go_meet
                      case rel => exact At.swap hwr hblk HG.out 1 v v (by omega) (by omega)
                    · go_region
                      go_wp2_with fail
                      go_meet
                      case rel => exact At.swap hwr hblk HG.out 1 v a (by omega) (by omega)
                  case rest =>
                    clear hwr
                    have hwr := hcut
                    clear hcut
                    go_wp2_with fail
                    refine bodyPost_ret (results_tmp2 rfl _ _ _) rfl ⟨by rw [E]; rfl, by rw [E]; exact hwr⟩
                · obtain ⟨r1, r2, hr⟩ : ∃ r1 r2, partLoop ltInt a (t + 1) (v - 1) (swp D t v) = (r1, r2) := ⟨_, _, rfl⟩
                  have EP : Hid (partition ltInt d a b pivot = (r1, false, swp r2 r1 a)) := hid (by have := hE2.out hgt; rw [hr] at this; exact this)
                  have HR : Hid (partLoop ltInt a (t + 1) (v - 1) (swp D t v) = (r1, r2)) := hr
                  clear hr hE1 hE2
                  obtain ⟨D2, hD2⟩ : ∃ D2, swp D t v = D2 := ⟨_, rfl⟩
                  have hD2s : D2.size = d.size := by rw [← hD2, size_swp]; exact hDs
                  go_upto_region 10 with fail
                  go_cut [] from 81 to 94 (fun wx => At encU w blk off (swp D t v) wx)
                  case first =>
                    obtain ⟨G, hG, hcw, hfw, hbw⟩ := At.cells hwr hH hDs hblk
                    have HG : Hid (∀ t, G t = D[t]!) := hG
                    clear hG
                    rcases Nat.lt_or_eq_of_le (Nat.le_of_not_lt hgt) with hlt | hlt
                    · go_region
                      go_wp2_with fail
                      go_meet
                      case rel => exact At.swap hwr hblk HG.out 1 t v (by omega) (by omega)
                    · subst hlt
                      go_region
                      go_wp2_with fail
                      go_meet
                      case rel => exact At.swap hwr hblk HG.out 1 t t (by omega) (by omega)
                  case rest =>
                    clear hwr
                    have hwr := hcut
                    clear hcut
                    rw [hD2] at hwr HR
                    clear hD2
                    go_wp2_with fail
                    go_loopg [10, 11] b (fun k s10 s11 wr => ∃ (i j : Nat) (dk : Array Int), s10 = .int .i64 i ∧ s11 = .int .i64 j ∧ a < i ∧ i ≤ j + 2 ∧ j < b ∧ j + 1 - i ≤ k ∧ dk.size = d.size ∧ At encU w blk off dk wr ∧ partLoop ltInt a i j dk = (r1, r2))
                    case atStart => exact ⟨t + 1, v - 1, D2, by simp, by congr 1; omega, by omega, by omega, by omega, by omega, hD2s, hwr, HR.out⟩
                    case round =>
                      clear HR hwr
                      clear hD2s
                      obtain ⟨i, j, dk, rfl, rfl, hi, hij, hjb, hk, hds, hwr, heq⟩ := hrel
                      have A : Hid (partLoop ltInt a i j dk = (r1, r2)) := heq
                      clear heq
                      rw [partLoop_eq] at A
                      obtain ⟨i2, hi2⟩ : ∃ i2, scanUp (fun x => ltInt x dk[a]!) dk j i = i2 := ⟨_, rfl⟩
                      have hi2g : i ≤ i2 := by rw [← hi2]; exact scanUp_ge _ _ _ _
                      rw [hi2] at A
                      have HI2 : Hid (scanUp (fun x => ltInt x dk[a]!) dk j i = i2) := hi2
                      clear hi2
                      obtain ⟨j2, hj2⟩ : ∃ j2, scanDown (fun x => !ltInt x dk[a]!) dk i2 j = j2 := ⟨_, rfl⟩
                      have hj2l : j2 ≤ j := by rw [← hj2]; exact scanDown_le _ _ _ _
                      rw [hj2] at A
                      have HJ2 : Hid (scanDown (fun x => !ltInt x dk[a]!) dk i2 j = j2) := hj2
                      clear hj2
                      go_wp2_with fail
                      go_loopg [10] (j + 1 - i) (fun k s wr => ∃ (t' : Nat), s = .int .i64 t' ∧ i ≤ t' ∧ t' ≤ j + 2 ∧ j + 1 - t' ≤ k ∧ At encU w blk off dk wr ∧ scanUp (fun x => ltInt x dk[a]!) dk j t' = i2)
                      case atStart => exact ⟨i, rfl, Nat.le_refl _, by omega, Nat.le_refl _, hwr, HI2.out⟩
                      case round =>
                        clear HI2 hwr
                        obtain ⟨t', rfl, ht1, ht2, hkt, hwr, hsc⟩ := hrel
                        have S : Hid (scanUp (fun x => ltInt x dk[a]!) dk j t' = i2) := hsc
                        clear hsc
                        obtain ⟨G, hG, hcw, hfw, hbw⟩ := At.cells hwr hH hds hblk
                        have HG : Hid (∀ t, G t = dk[t]!) := hG
                        clear hG
                        go_upto_region 13 with fail
                        go_cut [112] from 99 to 112 (fun s wx => s = .bool (decide (t' ≤ j) && ltInt dk[t']! dk[a]!) ∧ At encU w blk off dk wx)
                        case first =>
                          by_cases h : t' ≤ j
                          · have hz : (t' : Int) ≤ (j : Int) := by omega
                            go_big_quiet (first | (go_at_call 159; refine Calls.quiet_of_same (less_calls _ _ _)))
                            go_wp2_with fail
                            go_meet
                            case rel => exact ⟨by simp [h, HG.out], hwr.ahead nq⟩
                          · have hz : decide ((t' : Int) ≤ (j : Int)) = false := decide_eq_false (by omega)
                            go_big_quiet (first | (go_at_call 159; refine Calls.quiet_of_same (less_calls _ _ _)))
                            go_wp2_with fail
                            go_meet
                            case rel => exact ⟨by simp [h], hwr.ahead nq⟩
                        case rest =>
                          clear hcw hfw hbw HG hwr
                          clear G
                          obtain ⟨rfl, hwr⟩ := hcut
                          cases hT : (decide (t' ≤ j) && ltInt dk[t']! dk[a]!)
                          · have hti : t' = i2 := by rw [← S.out, up_end (fun x => ltInt x dk[a]!) dk hT]
                            clear hT S
                            subst hti
                            go_wp2_with fail
                            go_loopg [11] (j + 1) (fun k s wr => ∃ (v' : Nat), s = .int .i64 v' ∧ t' ≤ v' + 2 ∧ v' ≤ j ∧ v' + 1 ≤ k ∧ At encU w blk off dk wr ∧ scanDown (fun x => !ltInt x dk[a]!) dk t' v' = j2)
                            case atStart => exact ⟨j, by first | rfl | (congr 1; omega), ht2, Nat.le_refl _, Nat.le_refl _, hwr, HJ2.out⟩
                            case round =>
                              clear HJ2 hwr
                              obtain ⟨v', rfl, hv1, hv2, hkv, hwr, hsc⟩ := hrel
                              have S : Hid (scanDown (fun x => !ltInt x dk[a]!) dk t' v' = j2) := hsc
                              clear hsc
                              obtain ⟨G, hG, hcw, hfw, hbw⟩ := At.cells hwr hH hds hblk
                              have HG : Hid (∀ t, G t = dk[t]!) := hG
                              clear hG
                              go_upto_region 15 with fail
                              go_cut [129] from 115 to 129 (fun s wx => s = .bool (decide (t' ≤ v') && !ltInt dk[v']! dk[a]!) ∧ At encU w blk off dk wx)
                              case first =>
                                by_cases h : t' ≤ v'
                                · have hz : (t' : Int) ≤ (v' : Int) := by omega
                                  go_big_quiet (first | (go_at_call 159; refine Calls.quiet_of_same (less_calls _ _ _)))
                                  go_wp2_with fail
                                  go_meet
                                  case rel => exact ⟨by simp [h, HG.out], hwr.ahead nq⟩
                                · have hz : decide ((t' : Int) ≤ (v' : Int)) = false := decide_eq_false (by omega)
                                  go_big_quiet (first | (go_at_call 159; refine Calls.quiet_of_same (less_calls _ _ _)))
                                  go_wp2_with fail
                                  go_meet
                                  case rel => exact ⟨by simp [h], hwr.ahead nq⟩
                              case rest =>
                                clear hcw hfw hbw HG hwr
                                clear G
                                obtain ⟨rfl, hwr⟩ := hcut
                                cases hT : (decide (t' ≤ v') && !ltInt dk[v']! dk[a]!)
                                · have hvj : v' = j2 := by rw [← S.out, down_end (fun x => !ltInt x dk[a]!) dk hT]
                                  clear hT S
                                  subst hvj
                                  by_cases hgt : t' > v'
                                  · have A2 : Hid (r1 = v' ∧ r2 = dk) := hid (by have := A.out; rw [if_pos hgt] at this; exact ⟨(congrArg Prod.fst this).symm, (congrArg Prod.snd this).symm⟩)
                                    clear A
                                    obtain ⟨e1, e2⟩ := A2.out
                                    subst e1 e2
                                    clear A2
                                    go_upto_region 21 with fail
                                    go_cut [] from 153 to 166 (fun wx => At encU w blk off (swp r2 r1 a) wx)
                                    case first =>
                                      obtain ⟨G, hG, hcw, hfw, hbw⟩ := At.cells hwr hH hds hblk
                                      have HG : Hid (∀ t, G t = r2[t]!) := hG
                                      clear hG
                                      rcases Nat.lt_trichotomy r1 a with hlt | hlt | hlt
                                      · go_region
                                        go_wp2_with fail
                                        go_meet
                                        case rel => exact At.swap hwr hblk HG.out 1 r1 a (by omega) (by omega)
                                      · subst hlt
                                        go_region
                                        go_wp2_with fail
                                        go_meet
                                        case rel => exact At.swap hwr hblk HG.out 1 r1 r1 (by omega) (by omega)
                                      · go_region
                                        go_wp2_with fail
                                        go_meet
                                        case rel => exact At.swap hwr hblk HG.out 1 r1 a (by omega) (by omega)
                                    case rest =>
                                      clear hwr
                                      have hwr := hcut
                                      clear hcut
                                      have E := EP.out
                                      go_wp2_with fail
                                      refine bodyPost_ret (results_tmp2 rfl _ _ _) rfl ⟨by rw [E]; rfl, by rw [E]; exact hwr⟩
                                  · have A2 : Hid (partLoop ltInt a (t' + 1) (v' - 1) (swp dk t' v') = (r1, r2)) := hid (by rw [← A.out, if_neg hgt])
                                    clear A
                                    go_upto_region 18 with fail
                                    go_cut [] from 135 to 148 (fun wx => At encU w blk off (swp dk t' v') wx)
                                    case first =>
                                      obtain ⟨G, hG, hcw, hfw, hbw⟩ := At.cells hwr hH hds hblk
                                      have HG : Hid (∀ t, G t = dk[t]!) := hG
                                      clear hG
                                      rcases Nat.lt_or_eq_of_le (Nat.le_of_not_lt hgt) with hlt | hlt
                                      · go_region
                                        go_wp2_with fail
                                        go_meet
                                        case rel => exact At.swap hwr hblk HG.out 1 t' v' (by omega) (by omega)
                                      · subst hlt
                                        go_region
                                        go_wp2_with fail
                                        go_meet
                                        case rel => exact At.swap hwr hblk HG.out 1 t' t' (by omega) (by omega)
                                    case rest =>
                                      clear hwr
                                      have hwr := hcut
                                      clear hcut
                                      go_wp2_with fail
                                      go_roundg (v' - 1 + 1 - (t' + 1))
                                      case measure => omega
                                      case rel => exact ⟨t' + 1, v' - 1, swp dk t' v', by simp, by congr 1; omega, by omega, by omega, by omega, Nat.le_refl _, by rw [size_swp]; exact hds, hwr, A2.out⟩
                                · have htv : t' ≤ v' := by simp only [Bool.and_eq_true, decide_eq_true_eq] at hT; exact hT.1
                                  have S2 : Hid (scanDown (fun x => !ltInt x dk[a]!) dk t' (v' - 1) = j2) := hid (by rw [← down_step (fun x => !ltInt x dk[a]!) dk (by omega) hT]; exact S.out)
                                  clear S
                                  clear hT
                                  go_wp2_with fail
                                  go_roundg v'
                                  case measure => omega
                                  case rel => exact ⟨v' - 1, by congr 1; omega, by omega, by omega, by omega, hwr, S2.out⟩
                          · have htj : t' ≤ j := by simp only [Bool.and_eq_true, decide_eq_true_eq] at hT; exact hT.1
                            have S2 : Hid (scanUp (fun x => ltInt x dk[a]!) dk j (t' + 1) = i2) := hid (by rw [← up_step (fun x => ltInt x dk[a]!) dk hT]; exact S.out)
                            clear S
                            clear hT
                            go_wp2_with fail
                            go_roundg (j + 1 - (t' + 1))
                            case measure => omega
                            case rel => exact ⟨t' + 1, by simp, by omega, by omega, by omega, hwr, S2.out⟩
              · have htv : t ≤ v := by simp only [Bool.and_eq_true, decide_eq_true_eq] at hT; exact hT.1
                have S2 : Hid (scanDown (fun x => !ltInt x D[a]!) D t (v - 1) = j2) := hid (by rw [← down_step (fun x => !ltInt x D[a]!) D (by omega) hT]; exact S.out)
                clear S
                clear hT
                go_wp2_with fail
                go_roundg v
                case measure => omega
                case rel => exact ⟨v - 1, by congr 1; omega, by omega, by omega, by omega, hwr, S2.out⟩
        · have htj : t ≤ b1 := by simp only [Bool.and_eq_true, decide_eq_true_eq] at hT; exact hT.1
          have S2 : Hid (scanUp (fun x => ltInt x D[a]!) D b1 (t + 1) = i2) := hid (by rw [← up_step (fun x => ltInt x D[a]!) D hT]; exact S.out)
          clear S
          clear hT
          go_wp2_with fail
          go_roundg (b1 + 1 - (t + 1))
          case measure => omega
          case rel => exact ⟨t + 1, by simp, by omega, by omega, by omega, hwr, S2.out⟩

#print axioms partition_calls
end Go.Proofs.YtcjcgehhmjnlcaaGreatDoor.Srt
namespace Go.Proofs.YtcjcgehhmjnlcaaGreatDoor.Srt
open Go.RowKit Go.Sort

section
variable {α : Type} [Inhabited α] (lt : α → α → Bool) (d : Array α)
theorem ss_step {b i : Nat} (h : (decide (i < b) && !lt d[i]! d[i - 1]!) = true) : scanSorted lt d b i = scanSorted lt d b (i + 1) := by rw [scanSorted, if_pos h]
theorem ss_end {b i : Nat} (h : (decide (i < b) && !lt d[i]! d[i - 1]!) = false) : scanSorted lt d b i = i := by rw [scanSorted, if_neg (by rw [h]; exact Bool.false_ne_true)]
theorem ss_range (b : Nat) : ∀ (n i : Nat), b - i ≤ n → i ≤ b → i ≤ scanSorted lt d b i ∧ scanSorted lt d b i ≤ b := by
  intro n
  induction n with
  | zero =>
    intro i h1 h2
    have : (decide (i < b) && !lt d[i]! d[i - 1]!) = false := by simp; omega
    rw [ss_end lt d this]
    omega
  | succ n ih =>
    intro i h1 h2
    cases hT : (decide (i < b) && !lt d[i]! d[i - 1]!)
    · rw [ss_end lt d hT]; omega
    · have hib : i < b := by simp only [Bool.and_eq_true, decide_eq_true_eq] at hT; exact hT.1
      rw [ss_step lt d hT]
      have := ih (i + 1) (by omega) (by omega)
      omega
theorem shd_step {j : Nat} (hj : 0 < j) (h : lt d[j]! d[j - 1]! = true) : shiftDown lt j d = shiftDown lt (j - 1) (swp d j (j - 1)) := by
  cases j with
  | zero => omega
  | succ j => rw [shiftDown]; simp only [Nat.add_sub_cancel] at h ⊢; simp [h]
theorem shd_end {j : Nat} (h : j = 0 ∨ lt d[j]! d[j - 1]! = false) : shiftDown lt j d = d := by
  cases j with
  | zero => rw [shiftDown]
  | succ j =>
    rcases h with h | h
    · omega
    · rw [shiftDown]; simp only [Nat.add_sub_cancel] at h ⊢; simp [h]
theorem shu_step {b j : Nat} (hj : j < b) (h : lt d[j]! d[j - 1]! = true) : shiftUp lt b j d = shiftUp lt b (j + 1) (swp d j (j - 1)) := by
  rw [shiftUp, if_pos hj]; simp [h]
theorem shu_end {b j : Nat} (h : ¬ j < b ∨ lt d[j]! d[j - 1]! = false) : shiftUp lt b j d = d := by
  rw [shiftUp]
  split
  · rcases h with h | h
    · omega
    · simp [h]
  · rfl
theorem shd_size : ∀ (j : Nat) (d : Array α), (shiftDown lt j d).size = d.size := by
  intro j
  induction j with
  | zero => intro d; rw [shiftDown]
  | succ j ih => intro d; rw [shiftDown]; split <;> simp [ih, size_swp]
theorem shu_size (b : Nat) : ∀ (n j : Nat) (d : Array α), b - j ≤ n → (shiftUp lt b j d).size = d.size := by
  intro n
  induction n with
  | zero => intro j d h; rw [shiftUp, if_neg (by omega)]
  | succ n ih =>
    intro j d h
    rw [shiftUp]
    split
    · split
      · rfl
      · rw [ih _ _ (by omega), size_swp]
    · rfl
/-- One step of the partial sort, its stages by name. -/
theorem pin_step {a b s i i2 : Nat} {d d1 d2 d3 : Array α} (h2 : scanSorted lt d b i = i2) (hb : ¬ i2 = b) (h50 : ¬ b - a < 50) (e1 : swp d i2 (i2 - 1) = d1)
    (e2 : (if i2 - a ≥ 2 then shiftDown lt (i2 - 1) d1 else d1) = d2) (e3 : (if b - i2 ≥ 2 then shiftUp lt b (i2 + 1) d2 else d2) = d3) :
    partialIns lt a b (s + 1) i d = partialIns lt a b s i2 d3 := by
  subst h2 e1 e2 e3
  rw [partialIns]
  simp only [if_neg hb, if_neg h50]
theorem pin_done {a b s i : Nat} (h2 : scanSorted lt d b i = b) : partialIns lt a b (s + 1) i d = (d, true) := by
  rw [partialIns]
  simp only [h2, if_true]
theorem pin_few {a b s i : Nat} (h2 : ¬ scanSorted lt d b i = b) (h50 : b - a < 50) : partialIns lt a b (s + 1) i d = (d, false) := by
  rw [partialIns]
  simp only [if_neg h2, if_pos h50]
end

set_option maxRecDepth 1000000 in
set_option maxHeartbeats 6400000 in
theorem partialIns_calls (blk off cap a b : Nat) (d : Array Int) (w : World) (hH : Holds encU w blk off d) (hblk : blk < w.heap.size) (hab : a < b) (hb : b ≤ d.size) (hsz : d.size < 4611686018427387904) :
    Calls Tryz.prog 158 #[.slice (some ⟨blk, off, none⟩) d.size cap, .int .i64 a, .int .i64 b] w fun e w' =>
      e = .returned (.bool (partialInsertionSort ltInt d a b).2) ∧ At encU w blk off (partialInsertionSort ltInt d a b).1 w' := by
  obtain ⟨r1, r2, hr⟩ : ∃ r1 r2, partialInsertionSort ltInt d a b = (r1, r2) := ⟨_, _, rfl⟩
  rw [hr]
  have HR : Hid (partialIns ltInt a b 5 (a + 1) d = (r1, r2)) := hr
  clear hr
  go_enter Tryz.func158, Tryz.ntmps158
  go_wp2_with fail
  go_loopg [7, 8] 5 (fun k s7 s8 wr => ∃ (i m : Nat) (dk : Array Int), s7 = .int .i64 i ∧ s8 = .int .i64 m ∧ a < i ∧ i ≤ b ∧ m ≤ 5 ∧ 5 - m ≤ k ∧ dk.size = d.size ∧ At encU w blk off dk wr ∧ partialIns ltInt a b (5 - m) i dk = (r1, r2))
  case atStart => exact ⟨a + 1, 0, d, by simp, rfl, by omega, by omega, by omega, by omega, rfl, At.refl hH, HR.out⟩
  case round =>
    clear HR
    obtain ⟨i, m, dk, rfl, rfl, hi, hib, hm, hk, hds, hwr, heq⟩ := hrel
    have A : Hid (partialIns ltInt a b (5 - m) i dk = (r1, r2)) := heq
    clear heq
    by_cases hm5 : m < 5
    · have A' : Hid (partialIns ltInt a b (5 - (m + 1) + 1) i dk = (r1, r2)) := by rw [show 5 - (m + 1) + 1 = 5 - m by omega]; exact A
      clear A
      obtain ⟨i2, hi2⟩ : ∃ i2, scanSorted ltInt dk b i = i2 := ⟨_, rfl⟩
      have hi2r := ss_range ltInt dk b _ i (Nat.le_refl _) hib
      rw [hi2] at hi2r
      have HI2 : Hid (scanSorted ltInt dk b i = i2) := hi2
      have HI3 : Hid (scanSorted ltInt dk b i = i2) := hi2
      clear hi2
      go_wp2_with fail
      go_loopg [7] (b - i) (fun k s7 wr => ∃ (t : Nat), s7 = .int .i64 t ∧ i ≤ t ∧ t ≤ b ∧ b - t ≤ k ∧ At encU w blk off dk wr ∧ scanSorted ltInt dk b t = i2)
      case atStart => exact ⟨i, rfl, Nat.le_refl _, hib, Nat.le_refl _, hwr, HI2.out⟩
      case round =>
        clear HI2 hwr
        obtain ⟨t, rfl, ht1, ht2, hkt, hwr, hsc⟩ := hrel
        have S : Hid (scanSorted ltInt dk b t = i2) := hsc
        clear hsc
        obtain ⟨G, hG, hcw, hfw, hbw⟩ := At.cells hwr hH hds hblk
        have HG : Hid (∀ t, G t = dk[t]!) := hG
        clear hG
        go_upto_region 5 with fail
        go_cut [32] from 17 to 32 (fun s wx => s = .bool (decide (t < b) && !ltInt dk[t]! dk[t - 1]!) ∧ At encU w blk off dk wx)
        case first =>
          by_cases h : t < b
          · have hz : (t : Int) < (b : Int) := by omega
            go_big_quiet (first | (go_at_call 159; refine Calls.quiet_of_same (less_calls _ _ _)))
            go_wp2_with fail
            go_meet
            case rel => exact ⟨by simp [h, HG.out], hwr.ahead nq⟩
          · have hz : decide ((t : Int) < (b : Int)) = false := decide_eq_false (by omega)
            go_big_quiet (first | (go_at_call 159; refine Calls.quiet_of_same (less_calls _ _ _)))
            go_wp2_with fail
            go_meet
            case rel => exact ⟨by simp [h], hwr.ahead nq⟩
        case rest =>
          clear hcw hfw hbw HG hwr
          clear G
          obtain ⟨rfl, hwr⟩ := hcut
          cases hT : (decide (t < b) && !ltInt dk[t]! dk[t - 1]!)
          · have hti : t = i2 := by rw [← S.out, ss_end ltInt dk hT]
            clear hT S
            subst hti
            by_cases htb : t = b
            · have E := pin_done ltInt dk (a := a) (s := 5 - (m + 1)) (show scanSorted ltInt dk b i = b by rw [HI3.out, htb])
              rw [A'.out] at E
              have EQ : Hid (dk = r1 ∧ true = r2) := hid ⟨(congrArg Prod.fst E).symm, (congrArg Prod.snd E).symm⟩
              clear E A' HI3
              go_wp2_with fail
              go_ret
              exact ⟨by rw [← EQ.out.2]; rfl, by rw [← EQ.out.1]; exact hwr⟩
            · have htbz : ¬ ((t : Int) = (b : Int)) := by omega
              by_cases h50 : b - a < 50
              · have E := pin_few ltInt dk (a := a) (s := 5 - (m + 1)) (show ¬ scanSorted ltInt dk b i = b by rw [HI3.out]; exact htb) h50
                rw [A'.out] at E
                have EQ : Hid (dk = r1 ∧ false = r2) := hid ⟨(congrArg Prod.fst E).symm, (congrArg Prod.snd E).symm⟩
                clear E A' HI3
                have h50z : (b : Int) - (a : Int) < 50 := by omega
                go_wp2_with fail
                go_ret
                exact ⟨by rw [← EQ.out.2]; rfl, by rw [← EQ.out.1]; exact hwr⟩
              · have h50z : ¬ ((b : Int) - (a : Int) < 50) := by omega
                obtain ⟨d1, e1⟩ : ∃ d1, swp dk t (t - 1) = d1 := ⟨_, rfl⟩
                obtain ⟨d2, e2⟩ : ∃ d2, (if t - a ≥ 2 then shiftDown ltInt (t - 1) d1 else d1) = d2 := ⟨_, rfl⟩
                obtain ⟨d3, e3⟩ : ∃ d3, (if b - t ≥ 2 then shiftUp ltInt b (t + 1) d2 else d2) = d3 := ⟨_, rfl⟩
                have hs1 : d1.size = d.size := by rw [← e1, size_swp]; exact hds
                have hs2 : d2.size = d.size := by rw [← e2]; split <;> simp [shd_size, hs1]
                have hs3 : d3.size = d.size := by
                  rw [← e3]; split
                  · rw [shu_size ltInt b _ _ _ (Nat.le_refl _)]; exact hs2
                  · exact hs2
                have B : Hid (partialIns ltInt a b (5 - (m + 1)) t d3 = (r1, r2)) := hid (by rw [← A'.out, ← pin_step ltInt HI3.out htb h50 e1 e2 e3])
                have E1 : Hid (swp dk t (t - 1) = d1) := e1
                have E2 : Hid ((if t - a ≥ 2 then shiftDown ltInt (t - 1) d1 else d1) = d2) := e2
                have E3 : Hid ((if b - t ≥ 2 then shiftUp ltInt b (t + 1) d2 else d2) = d3) := e3
                clear e1 e2 e3 A' HI3
                go_upto_region 11 with fail
                go_cut [] from 13 to 57 (fun wx => At encU w blk off d1 wx)
                case first =>
                  obtain ⟨G, hG, hcw, hfw, hbw⟩ := At.cells hwr hH hds hblk
                  have HG : Hid (∀ t, G t = dk[t]!) := hG
                  clear hG
                  go_region
                  go_wp2_with fail
                  go_meet
                  case rel => rw [← E1.out]; exact At.swap hwr hblk HG.out 1 t (t - 1) (by omega) (by omega)
                case rest =>
                clear E1 hwr hds
                have hwr := hcut
                clear hcut
                go_upto_if 61 with fail
                go_cut [] from 13 to 94 (fun wx => At encU w blk off d2 wx)
                case first =>
                  by_cases h2 : t - a ≥ 2
                  · have h2z : (t : Int) - (a : Int) ≥ 2 := by omega
                    have ED : Hid (shiftDown ltInt (t - 1) d1 = d2) := hid (by rw [← E2.out, if_pos h2])
                    clear E2
                    go_wp2_with fail
                    go_loopg [9] t (fun k s wr => ∃ (v : Nat) (dv : Array Int), s = .int .i64 v ∧ v < t ∧ v ≤ k ∧ dv.size = d.size ∧ At encU w blk off dv wr ∧ shiftDown ltInt v dv = d2)
                    case atStart => exact ⟨t - 1, d1, by congr 1; omega, by omega, by omega, hs1, hwr, ED.out⟩
                    case round =>
                      clear ED hwr hs1
                      obtain ⟨v, dv, rfl, hvt, hkv, hsv, hwr, hsc⟩ := hrel
                      have S : Hid (shiftDown ltInt v dv = d2) := hsc
                      clear hsc
                      obtain ⟨G, hG, hcw, hfw, hbw⟩ := At.cells hwr hH hsv hblk
                      have HG : Hid (∀ t, G t = dv[t]!) := hG
                      clear hG
                      by_cases hv : 1 ≤ v
                      · have hvz : (v : Int) ≥ 1 := by omega
                        go_wp2_with fail
                        go_big_quiet (first | (go_at_call 159; refine Calls.quiet_of_same (less_calls _ _ _)))
                        cases hT : ltInt (G v) (G (v - 1))
                        · have E : Hid (dv = d2) := hid (by rw [← S.out, shd_end ltInt dv (Or.inr (by rw [← HG.out, ← HG.out]; exact hT))])
                          go_wp2_with fail
                          go_meet
                          case rel => rw [← E.out]; exact hwr.ahead nq
                        · have S2 : Hid (shiftDown ltInt (v - 1) (swp dv v (v - 1)) = d2) := hid (by rw [← shd_step ltInt dv (by omega) (by rw [← HG.out, ← HG.out]; exact hT)]; exact S.out)
                          go_wp2_with fail
                          go_region
                          go_wp2_with fail
                          go_roundg (v - 1)
                          case measure => omega
                          case rel => exact ⟨v - 1, swp dv v (v - 1), by congr 1; omega, by omega, Nat.le_refl _, by rw [size_swp]; exact hsv, At.swap hwr hblk HG.out (nq + 1) v (v - 1) (by omega) (by omega), S2.out⟩
                      · have hvz : ¬ ((v : Int) ≥ 1) := by omega
                        have E : Hid (dv = d2) := hid (by rw [← S.out, shd_end ltInt dv (Or.inl (by omega))])
                        go_wp2_with fail
                        go_meet
                        case rel => rw [← E.out]; exact hwr
                  · have h2z : ¬ ((t : Int) - (a : Int) ≥ 2) := by omega
                    have ED : Hid (d1 = d2) := hid (by rw [← E2.out, if_neg h2])
                    go_wp2_with fail
                    go_meet
                    case rel => rw [← ED.out]; exact hwr
                case rest =>
                clear E2 hwr hs1
                have hwr := hcut
                clear hcut
                go_upto_if 98 with fail
                ·
                  by_cases h2 : b - t ≥ 2
                  · have h2z : (b : Int) - (t : Int) ≥ 2 := by omega
                    have ED : Hid (shiftUp ltInt b (t + 1) d2 = d3) := hid (by rw [← E3.out, if_pos h2])
                    clear E3
                    go_wp2_with fail
                    go_loopg [10] b (fun k s wr => ∃ (v : Nat) (dv : Array Int), s = .int .i64 v ∧ t < v ∧ v ≤ b ∧ b - v ≤ k ∧ dv.size = d.size ∧ At encU w blk off dv wr ∧ shiftUp ltInt b v dv = d3)
                    case atStart => exact ⟨t + 1, d2, by simp, by omega, by omega, by omega, hs2, hwr, ED.out⟩
                    case round =>
                      clear ED hwr hs2
                      obtain ⟨v, dv, rfl, hvt, hvb, hkv, hsv, hwr, hsc⟩ := hrel
                      have S : Hid (shiftUp ltInt b v dv = d3) := hsc
                      clear hsc
                      obtain ⟨G, hG, hcw, hfw, hbw⟩ := At.cells hwr hH hsv hblk
                      have HG : Hid (∀ t, G t = dv[t]!) := hG
                      clear hG
                      by_cases hv : v < b
                      · have hvz : (v : Int) < (b : Int) := by omega
                        go_wp2_with fail
                        go_big_quiet (first | (go_at_call 159; refine Calls.quiet_of_same (less_calls _ _ _)))
                        cases hT : ltInt (G v) (G (v - 1))
                        · have E : Hid (dv = d3) := hid (by rw [← S.out, shu_end ltInt dv (Or.inr (by rw [← HG.out, ← HG.out]; exact hT))])
                          go_wp2_with fail
                          go_roundg (5 - (m + 1))
                          case measure => omega
                          case rel => exact ⟨t, m + 1, d3, rfl, by simp, by omega, by omega, by omega, Nat.le_refl _, hs3, by rw [← E.out]; exact hwr.ahead nq, B.out⟩
                        · have S2 : Hid (shiftUp ltInt b (v + 1) (swp dv v (v - 1)) = d3) := hid (by rw [← shu_step ltInt dv hv (by rw [← HG.out, ← HG.out]; exact hT)]; exact S.out)
                          go_wp2_with fail
                          go_region
                          go_wp2_with fail
                          go_roundg (b - (v + 1))
                          case measure => omega
                          case rel => exact ⟨v + 1, swp dv v (v - 1), by simp, by omega, by omega, Nat.le_refl _, by rw [size_swp]; exact hsv, At.swap hwr hblk HG.out (nq + 1) v (v - 1) (by omega) (by omega), S2.out⟩
                      · have hvz : ¬ ((v : Int) < (b : Int)) := by omega
                        have E : Hid (dv = d3) := hid (by rw [← S.out, shu_end ltInt dv (Or.inl hv)])
                        go_wp2_with fail
                        go_roundg (5 - (m + 1))
                        case measure => omega
                        case rel => exact ⟨t, m + 1, d3, rfl, by simp, by omega, by omega, by omega, Nat.le_refl _, hs3, by rw [← E.out]; exact hwr, B.out⟩
                  · have h2z : ¬ ((b : Int) - (t : Int) ≥ 2) := by omega
                    have ED : Hid (d2 = d3) := hid (by rw [← E3.out, if_neg h2])
                    go_wp2_with fail
                    go_roundg (5 - (m + 1))
                    case measure => omega
                    case rel => exact ⟨t, m + 1, d3, rfl, by simp, by omega, by omega, by omega, Nat.le_refl _, hs3, by rw [← ED.out]; exact hwr, B.out⟩
          · have htb : t < b := by simp only [Bool.and_eq_true, decide_eq_true_eq] at hT; exact hT.1
            have S2 : Hid (scanSorted ltInt dk b (t + 1) = i2) := hid (by rw [← ss_step ltInt dk hT]; exact S.out)
            clear S
            clear hT
            go_wp2_with fail
            go_roundg (b - (t + 1))
            case measure => omega
            case rel => exact ⟨t + 1, by simp, by omega, by omega, by omega, hwr, S2.out⟩
    · have hm5z : ¬ ((m : Int) < 5) := by omega
      have E := A.out
      rw [show 5 - m = 0 by omega] at E
      have EQ : Hid (dk = r1 ∧ false = r2) := hid ⟨congrArg Prod.fst E, congrArg Prod.snd E⟩
      clear E A
      go_wp2_with fail
      go_ret
      exact ⟨by rw [← EQ.out.2]; rfl, by rw [← EQ.out.1]; exact hwr⟩
#print axioms partialIns_calls
end Go.Proofs.YtcjcgehhmjnlcaaGreatDoor.Srt
set_option linter.unusedVariables false
namespace Go.Proofs.YtcjcgehhmjnlcaaGreatDoor.Srt
open Go.RowKit Go.Sort

/-- The count of swaps stands in a block of its own behind the heap of w. -/
def Cnt (w : World) (s : Nat) (wr : World) : Prop := ∃ n, wr = grow (Sort.ahead w n) #[.cells #[.int .i64 s] 3 (0, 0)]

theorem cnt_facts {w wr : World} {s blk off : Nat} {d : Array Int} (h : Cnt w s wr) (hH : Holds encU w blk off d) (hblk : blk < w.heap.size) :
    ∃ G : Nat → Int, (∀ t, G t = d[t]!) ∧ (∀ t, t < d.size → wr.cell? ⟨blk, off + t, none⟩ = some (.int .u32 (G t))) ∧
      wr.cell? ⟨w.heap.size, 0, none⟩ = some (.int .i64 s) ∧ wr.frozen? ⟨w.heap.size, 0, none⟩ = false := by
  obtain ⟨n, rfl⟩ := h
  refine ⟨fun t => d[t]!, fun _ => rfl, fun t ht => ?_, ?_, ?_⟩
  · rw [cell?_grow _ _ _ (by simpa using hblk)]
    exact (hH t ht).1
  · simp [World.cell?, grow]
  · simp [World.frozen?, grow]
theorem cnt_drew {w wr : World} {s : Nat} (h : Cnt w s wr) (q : Nat) : Cnt w s (wr.drewN q) := by
  obtain ⟨n, rfl⟩ := h
  exact ⟨n + q, by show Sort.ahead (grow (Sort.ahead w n) _) q = _; rw [ahead_grow, ahead_ahead]⟩
theorem cnt_set {w wr : World} {s : Nat} (h : Cnt w s wr) : Cnt w (s + 1) (wr.setCell ⟨w.heap.size, 0, none⟩ (.int .i64 ((s : Int) + 1))) := by
  obtain ⟨n, rfl⟩ := h
  refine ⟨n, ?_⟩
  rw [setCell_eq, mapBlock_grow_new _ _ _ _ (by simp)]
  simp [onCells]

set_option maxRecDepth 1000000 in
theorem order2_calls (w : World) (blk off cap a b s : Nat) (d : Array Int) (hH : Holds encU w blk off d) (hblk : blk < w.heap.size) (ha : a < d.size) (hb : b < d.size) (hs : s < 4611686018427387904) (hsz : d.size < 4611686018427387904) (wr : World) (hC : Cnt w s wr) :
    Calls Tryz.prog 182 #[.slice (some ⟨blk, off, none⟩) d.size cap, .int .i64 a, .int .i64 b, .pointer (some ⟨w.heap.size, 0, none⟩)] wr fun e w' =>
      e = .returned (.tuple #[.int .i64 (order2 ltInt d a b s).1, .int .i64 (order2 ltInt d a b s).2.1]) ∧ Cnt w (order2 ltInt d a b s).2.2 w' := by
  obtain ⟨G, hG, hcw, hcc, hcf⟩ := cnt_facts hC hH hblk
  have HG : Hid (∀ t, G t = d[t]!) := hG
  clear hG
  go_enter Tryz.func182, Tryz.ntmps182
  go_wp2_with fail
  go_big_quiet (first | (go_at_call 159; refine Calls.quiet_of_same (less_calls _ _ _)))
  cases hT : ltInt (G b) (G a)
  · have E : order2 ltInt d a b s = (a, b, s) := by unfold order2; rw [← HG.out, ← HG.out, hT]; rfl
    go_wp2_with fail
    go_ret2
    exact ⟨by rw [E]; rfl, by rw [E]; exact cnt_drew hC nq⟩
  · have E : order2 ltInt d a b s = (b, a, s + 1) := by unfold order2; rw [← HG.out, ← HG.out, hT]; rfl
    have hC2 := cnt_drew hC nq
    have hcc2 : (wr.drewN nq).cell? ⟨w.heap.size, 0, none⟩ = some (.int .i64 s) := hcc
    have hcf2 : (wr.drewN nq).frozen? ⟨w.heap.size, 0, none⟩ = false := hcf
    go_wp2_with fail
    go_ret2
    exact ⟨by rw [E]; rfl, by rw [E]; exact cnt_set hC2⟩

theorem order2_range {α : Type} [Inhabited α] (lt : α → α → Bool) (d : Array α) (a b s : Nat) :
    ((order2 lt d a b s).1 = a ∧ (order2 lt d a b s).2.1 = b ∨ (order2 lt d a b s).1 = b ∧ (order2 lt d a b s).2.1 = a) ∧ (order2 lt d a b s).2.2 ≤ s + 1 := by
  unfold order2
  split <;> simp

set_option maxRecDepth 1000000 in
theorem median_calls (w : World) (blk off cap a b c s : Nat) (d : Array Int) (hH : Holds encU w blk off d) (hblk : blk < w.heap.size) (ha : a < d.size) (hb : b < d.size) (hc : c < d.size) (hs : s < 4611686018427387900) (hsz : d.size < 4611686018427387904) (wr : World) (hC : Cnt w s wr) :
    Calls Tryz.prog 178 #[.slice (some ⟨blk, off, none⟩) d.size cap, .int .i64 a, .int .i64 b, .int .i64 c, .pointer (some ⟨w.heap.size, 0, none⟩)] wr fun e w' =>
      e = .returned (.int .i64 (median ltInt d a b c s).1) ∧ Cnt w (median ltInt d a b c s).2 w' := by
  have R1 := order2_range ltInt d a b s
  have C1 := order2_calls w blk off cap a b s d hH hblk ha hb (by omega) hsz wr hC
  obtain ⟨a1, b1, s1, h1⟩ : ∃ a1 b1 s1, order2 ltInt d a b s = (a1, b1, s1) := ⟨_, _, _, rfl⟩
  rw [h1] at R1 C1
  simp only at R1 C1
  have R2 := order2_range ltInt d b1 c s1
  have C2 := fun wx hx => order2_calls w blk off cap b1 c s1 d hH hblk (by omega) hc (by omega) hsz wx hx
  obtain ⟨b2, c2, s2, h2⟩ : ∃ b2 c2 s2, order2 ltInt d b1 c s1 = (b2, c2, s2) := ⟨_, _, _, rfl⟩
  rw [h2] at R2
  simp only at R2
  simp only [h2] at C2
  have R3 := order2_range ltInt d a1 b2 s2
  have C3 := fun wx hx => order2_calls w blk off cap a1 b2 s2 d hH hblk (by omega) (by omega) (by omega) hsz wx hx
  obtain ⟨a3, b3, s3, h3⟩ : ∃ a3 b3 s3, order2 ltInt d a1 b2 s2 = (a3, b3, s3) := ⟨_, _, _, rfl⟩
  simp only [h3] at C3
  have E : median ltInt d a b c s = (b3, s3) := by
    unfold median
    simp only [h1, h2, h3]
  rw [E]
  clear E h1 h2 h3 R1 R2 R3
  go_enter Tryz.func178, Tryz.ntmps178
  go_wp2_with (first | (go_at_call 182; first | (refine C1.mono ?_; rintro e w1 ⟨rfl, hw1⟩; clear C1; have C2 := C2 w1 hw1) | (refine C2.mono ?_; rintro e w2 ⟨rfl, hw2⟩; clear C2; have C3 := C3 w2 hw2) | (refine C3.mono ?_; rintro e w3 ⟨rfl, hw3⟩; clear C3)))
  go_ret
  exact ⟨rfl, hw3⟩

theorem median_range {α : Type} [Inhabited α] (lt : α → α → Bool) (d : Array α) (a b c s : Nat) :
    ((median lt d a b c s).1 = a ∨ (median lt d a b c s).1 = b ∨ (median lt d a b c s).1 = c) ∧ (median lt d a b c s).2 ≤ s + 3 := by
  unfold median
  have R1 := order2_range lt d a b s
  have R2 := order2_range lt d (order2 lt d a b s).2.1 c (order2 lt d a b s).2.2
  have R3 := order2_range lt d (order2 lt d a b s).1 (order2 lt d (order2 lt d a b s).2.1 c (order2 lt d a b s).2.2).1 (order2 lt d (order2 lt d a b s).2.1 c (order2 lt d a b s).2.2).2.2
  simp only
  omega

set_option maxRecDepth 1000000 in
theorem adjacent_calls (w : World) (blk off cap a s : Nat) (d : Array Int) (hH : Holds encU w blk off d) (hblk : blk < w.heap.size) (ha : 0 < a) (hb : a + 1 < d.size) (hs : s < 4611686018427387900) (hsz : d.size < 4611686018427387904) (wr : World) (hC : Cnt w s wr) :
    Calls Tryz.prog 177 #[.slice (some ⟨blk, off, none⟩) d.size cap, .int .i64 a, .pointer (some ⟨w.heap.size, 0, none⟩)] wr fun e w' =>
      e = .returned (.int .i64 (medianAdjacent ltInt d a s).1) ∧ Cnt w (medianAdjacent ltInt d a s).2 w' := by
  have C1 := median_calls w blk off cap (a - 1) a (a + 1) s d hH hblk (by omega) (by omega) hb hs hsz wr hC
  rw [show ((a - 1 : Nat) : Int) = (a : Int) - 1 by omega, show ((a + 1 : Nat) : Int) = (a : Int) + 1 by omega] at C1
  have E : medianAdjacent ltInt d a s = median ltInt d (a - 1) a (a + 1) s := rfl
  rw [E]
  clear E
  go_enter Tryz.func177, Tryz.ntmps177
  go_wp2_with (go_at_call 178; refine C1.mono ?_; rintro e w1 ⟨rfl, hw1⟩; clear C1)
  go_ret
  exact ⟨rfl, hw1⟩

/-- The pivot and the count of swaps. -/
def pvPair {α : Type} [Inhabited α] (lt : α → α → Bool) (d : Array α) (l i j k : Nat) : Nat × Nat :=
  if l ≥ 8 then
    if l ≥ 50 then
      median lt d (medianAdjacent lt d i 0).1 (medianAdjacent lt d j (medianAdjacent lt d i 0).2).1 (medianAdjacent lt d k (medianAdjacent lt d j (medianAdjacent lt d i 0).2).2).1 (medianAdjacent lt d k (medianAdjacent lt d j (medianAdjacent lt d i 0).2).2).2
    else median lt d i j k 0
  else (j, 0)
theorem choosePivot_eq {α : Type} [Inhabited α] (lt : α → α → Bool) (d : Array α) (a b : Nat) :
    choosePivot lt d a b = ((pvPair lt d (b - a) (a + (b - a) / 4 * 1) (a + (b - a) / 4 * 2) (a + (b - a) / 4 * 3)).1, if (pvPair lt d (b - a) (a + (b - a) / 4 * 1) (a + (b - a) / 4 * 2) (a + (b - a) / 4 * 3)).2 = 0 then .increasing else if (pvPair lt d (b - a) (a + (b - a) / 4 * 1) (a + (b - a) / 4 * 2) (a + (b - a) / 4 * 3)).2 = 12 then .decreasing else .unknown) := rfl

/-- A hint's number. -/
def hcode : Hint → Int
  | .unknown => 0
  | .increasing => 1
  | .decreasing => 2

set_option maxRecDepth 1000000 in
set_option maxHeartbeats 3200000 in
theorem choosePivot_calls (blk off cap a b : Nat) (d : Array Int) (w : World) (hH : Holds encU w blk off d) (hblk : blk < w.heap.size) (hab : a < b) (hb : b ≤ d.size) (hsz : d.size < 4611686018427387904) :
    Calls Tryz.prog 156 #[.slice (some ⟨blk, off, none⟩) d.size cap, .int .i64 a, .int .i64 b] w fun e w' =>
      e = .returned (.tuple #[.int .i64 (choosePivot ltInt d a b).1, .int .i64 (hcode (choosePivot ltInt d a b).2)]) ∧ At encU w blk off d w' := by
  rw [choosePivot_eq]
  obtain ⟨i, hi⟩ : ∃ i, a + (b - a) / 4 * 1 = i := ⟨_, rfl⟩
  obtain ⟨j, hj⟩ : ∃ j, a + (b - a) / 4 * 2 = j := ⟨_, rfl⟩
  obtain ⟨k, hk⟩ : ∃ k, a + (b - a) / 4 * 3 = k := ⟨_, rfl⟩
  have hiz : (a : Int) + ((b : Int) - (a : Int)) / 4 = (i : Int) := by omega
  have hjz : (a : Int) + ((b : Int) - (a : Int)) / 4 * 2 = (j : Int) := by omega
  have hkz : (a : Int) + ((b : Int) - (a : Int)) / 4 * 3 = (k : Int) := by omega
  rw [hi, hj, hk]
  have hij : i < b ∧ j < b ∧ k < b := by omega
  have h8f : 8 ≤ b - a → 0 < i ∧ 0 < j ∧ 0 < k ∧ k + 1 < b ∧ i + 1 < b ∧ j + 1 < b := by omega
  clear hi hj hk
  obtain ⟨pv, hpv⟩ : ∃ pv, pvPair ltInt d (b - a) i j k = pv := ⟨_, rfl⟩
  rw [hpv]
  obtain ⟨p, s⟩ := pv
  have HP : Hid (pvPair ltInt d (b - a) i j k = (p, s)) := hpv
  clear hpv
  go_enter Tryz.func156, Tryz.ntmps156
  go_upto_if 32 with fail
  clear hiz hjz hkz
  have hC0 : Cnt w 0 (w.alloc (Obj.cells #[Value.int IntKind.i64 0] 3)) := ⟨0, alloc_eq_grow _ _⟩
  go_cut [11] from 13 (fun s11 wx => s11 = .int .i64 p ∧ Cnt w s wx)
  case first =>
    by_cases h8 : 8 ≤ b - a
    · have h8z : 8 ≤ (b : Int) - (a : Int) := by omega
      have H8 := h8f h8
      by_cases h50 : 50 ≤ b - a
      · have h50z : 50 ≤ (b : Int) - (a : Int) := by omega
        have HP2 := HP.out
        unfold pvPair at HP2
        rw [if_pos h8, if_pos h50] at HP2
        have C1 := adjacent_calls w blk off cap i 0 d hH hblk H8.1 (by omega) (by omega) hsz _ hC0
        have R1 := median_range ltInt d (i - 1) i (i + 1) 0
        obtain ⟨i1, s1, h1⟩ : ∃ i1 s1, medianAdjacent ltInt d i 0 = (i1, s1) := ⟨_, _, rfl⟩
        rw [show median ltInt d (i - 1) i (i + 1) 0 = (i1, s1) from h1] at R1
        simp only [h1] at C1 R1 HP2
        have C2 := fun wx hx => adjacent_calls w blk off cap j s1 d hH hblk H8.2.1 (by omega) (by omega) hsz wx hx
        have R2 := median_range ltInt d (j - 1) j (j + 1) s1
        obtain ⟨j1, s2, h2⟩ : ∃ j1 s2, medianAdjacent ltInt d j s1 = (j1, s2) := ⟨_, _, rfl⟩
        rw [show median ltInt d (j - 1) j (j + 1) s1 = (j1, s2) from h2] at R2
        simp only [h2] at C2 R2 HP2
        have C3 := fun wx hx => adjacent_calls w blk off cap k s2 d hH hblk H8.2.2.1 (by omega) (by omega) hsz wx hx
        have R3 := median_range ltInt d (k - 1) k (k + 1) s2
        obtain ⟨k1, s3, h3⟩ : ∃ k1 s3, medianAdjacent ltInt d k s2 = (k1, s3) := ⟨_, _, rfl⟩
        rw [show median ltInt d (k - 1) k (k + 1) s2 = (k1, s3) from h3] at R3
        simp only [h3] at C3 R3 HP2
        have C4 := fun wx hx => median_calls w blk off cap i1 j1 k1 s3 d hH hblk (by omega) (by omega) (by omega) (by omega) hsz wx hx
        simp only [HP2] at C4
        clear HP2 h1 h2 h3 R1 R2 R3 hC0
        go_wp2_with (first
          | (go_at_call 177; first
            | (refine C1.mono ?_; rintro e w1 ⟨rfl, hw1⟩; clear C1; have C2 := C2 w1 hw1)
            | (refine C2.mono ?_; rintro e w2 ⟨rfl, hw2⟩; clear C2; have C3 := C3 w2 hw2)
            | (refine C3.mono ?_; rintro e w3 ⟨rfl, hw3⟩; clear C3; have C4 := C4 w3 hw3))
          | (go_at_call 178; refine C4.mono ?_; rintro e w4 ⟨rfl, hw4⟩; clear C4))
        go_meet
        case rel => exact ⟨rfl, hw4⟩
      · have h50z : ¬ (50 ≤ (b : Int) - (a : Int)) := by omega
        have HP2 := HP.out
        unfold pvPair at HP2
        rw [if_pos h8, if_neg h50] at HP2
        have C1 := median_calls w blk off cap i j k 0 d hH hblk (by omega) (by omega) (by omega) (by omega) hsz _ hC0
        rw [HP2] at C1
        clear HP2
        go_wp2_with (go_at_call 178; refine C1.mono ?_; rintro e w1 ⟨rfl, hw1⟩; clear C1)
        go_meet
        case rel => exact ⟨rfl, hw1⟩
    · have h8z : ¬ (8 ≤ (b : Int) - (a : Int)) := by omega
      have HP2 := HP.out
      unfold pvPair at HP2
      rw [if_neg h8] at HP2
      have E : Hid (j = p ∧ 0 = s) := hid ⟨congrArg Prod.fst HP2, congrArg Prod.snd HP2⟩
      clear HP2
      go_wp2_with fail
      go_meet
      case rel => exact ⟨by rw [← E.out.1], by rw [← E.out.2]; exact hC0⟩
  case rest =>
    obtain ⟨rfl, hC⟩ := hcut
    clear hC0
    obtain ⟨G, hG, hcw, hcc, hcf⟩ := cnt_facts hC hH hblk
    clear hG
    have hA : At encU w blk off d wc := by
      obtain ⟨n, rfl⟩ := hC
      exact (At.refl hH).same hH rfl hblk ⟨n, _, rfl⟩
    by_cases h0 : s = 0
    · subst h0
      go_wp2_with fail
      go_ret2
      exact ⟨rfl, hA⟩
    · have h0z : ¬ ((s : Int) = 0) := by omega
      by_cases h12 : s = 12
      · subst h12
        go_wp2_with fail
        go_ret2
        exact ⟨rfl, hA⟩
      · have h12z : ¬ ((s : Int) = 12) := by omega
        go_wp2_with fail
        go_ret2
        exact ⟨rfl, hA⟩
#print axioms choosePivot_calls
end Go.Proofs.YtcjcgehhmjnlcaaGreatDoor.Srt
set_option linter.unusedVariables false
namespace Go.Proofs.YtcjcgehhmjnlcaaGreatDoor.Srt
open Go.RowKit Go.Sort

theorem bitLenAux_le : ∀ (f x : Nat), 0 < x → 2 ^ Lib.bitLenAux f x ≤ 2 * x := by
  intro f
  induction f with
  | zero => intro x hx; simp [Lib.bitLenAux]; omega
  | succ f ih =>
    intro x hx
    rw [Lib.bitLenAux, if_neg (by omega)]
    by_cases h : x / 2 = 0
    · have : Lib.bitLenAux f (x / 2) = 0 := by
        rw [h]; cases f <;> simp [Lib.bitLenAux]
      rw [this]; omega
    · have := ih (x / 2) (by omega)
      rw [Nat.add_comm, Nat.pow_succ]
      omega
theorem bitLen_bound {x : Nat} (hx : 0 < x) (hx2 : x < 4611686018427387904) : 2 ^ Lib.bitLen x ≤ 2 * x ∧ Lib.bitLen x ≤ 63 := by
  have h := bitLenAux_le 64 x hx
  refine ⟨h, ?_⟩
  rcases Nat.lt_or_ge 63 (Lib.bitLen x) with hl | hl
  · have : 2 ^ 64 ≤ 2 ^ Lib.bitLen x := Nat.pow_le_pow_right (by omega) hl
    have h' : 2 ^ Lib.bitLen x ≤ 2 * x := h
    omega
  · exact hl

theorem npt_calls (n : Nat) (hx : 0 < n) (hx2 : n < 4611686018427387904) (w : World) :
    Calls Tryz.prog 175 #[.int .i64 n] w fun e w' => ∃ M : Nat, e = .returned (.int .u64 M) ∧ 1 ≤ M ∧ M ≤ 2 * n ∧ w' = w := by
  have hl := fun w => bits_Len (n : Int) w (by omega) (by omega)
  simp only [Int.toNat_natCast] at hl
  obtain ⟨hp, hl63⟩ := bitLen_bound hx hx2
  obtain ⟨L, hL⟩ : ∃ L, Lib.bitLen n = L := ⟨_, rfl⟩
  rw [hL] at hp hl63
  simp only [hL] at hl
  clear hL
  have hM : IntKind.u64.wrap (2 ^ L) = ((2 ^ L : Nat) : Int) := by
    have h1 : ((2 ^ L : Nat) : Int) = (2 : Int) ^ L := by simp
    rw [← h1]
    have h2 : (2 ^ L : Nat) < 18446744073709551616 := by omega
    generalize (2 ^ L : Nat) = M at h2
    simp [IntKind.wrap, IntKind.bits, IntKind.signed]
    omega
  have h1 : 1 ≤ 2 ^ L := Nat.one_le_two_pow
  have HM : Hid (IntKind.u64.wrap (2 ^ L) = ((2 ^ L : Nat) : Int)) := hM
  clear hM
  go_enter Tryz.func175, Tryz.ntmps175
  go_wp2_with (go_at_call 142; refine (hl _).mono ?_; rintro e w1 ⟨rfl, rfl⟩)
  go_ret
  exact ⟨2 ^ L, by rw [← HM.out]; rfl, h1, hp, rfl⟩

/-- What a number of 64 bits may be. -/
def U64 (r : Int) : Prop := 0 ≤ r ∧ r < 18446744073709551616
theorem wrap_u64 (z : Int) : U64 (IntKind.u64.wrap z) := by
  unfold U64
  simp [IntKind.wrap, IntKind.bits, IntKind.signed]
  omega
theorem bits_u64 (op : BinOp) (x y : Int) : U64 (bits op .u64 x y) := wrap_u64 _
theorem and_u64 (x : Int) (m : Nat) (hm : m < 18446744073709551616) : 0 ≤ bits .and .u64 x m ∧ bits .and .u64 x m ≤ m := by
  refine ⟨(bits_u64 _ _ _).1, ?_⟩
  have h1 : (BitVec.ofInt 64 x &&& BitVec.ofInt 64 (m : Int)).toNat ≤ m := by
    rw [BitVec.toNat_and]
    refine Nat.le_trans Nat.and_le_right ?_
    simp
    omega
  have h2 : bits .and .u64 x m = IntKind.u64.wrap ((BitVec.ofInt 64 x &&& BitVec.ofInt 64 (m : Int)).toNat : Int) := rfl
  rw [h2]
  generalize (BitVec.ofInt 64 x &&& BitVec.ofInt 64 (m : Int)).toNat = z at h1
  simp [IntKind.wrap, IntKind.bits, IntKind.signed]
  omega

/-- The generator's state stands in a block of its own behind the heap of X. -/
def Rnd (X : World) (r : Int) (wr : World) : Prop := ∃ n, wr = grow (Sort.ahead X n) #[.cells #[.int .u64 r] 261 (0, 0)]
theorem rnd_cell {X wr : World} {r : Int} (h : Rnd X r wr) : wr.cell? ⟨X.heap.size, 0, none⟩ = some (.int .u64 r) ∧ wr.frozen? ⟨X.heap.size, 0, none⟩ = false := by
  obtain ⟨n, rfl⟩ := h
  exact ⟨by simp [World.cell?, grow], by simp [World.frozen?, grow]⟩
theorem rnd_drew {X wr : World} {r : Int} (h : Rnd X r wr) : Rnd X r wr.drew := by
  obtain ⟨n, rfl⟩ := h
  exact ⟨n + 1, by rw [drew_grow, ahead_drew]⟩
theorem rnd_set {X wr : World} {r : Int} (h : Rnd X r wr) (r' : Int) : Rnd X r' (wr.setCell ⟨X.heap.size, 0, none⟩ (.int .u64 r')) := by
  obtain ⟨n, rfl⟩ := h
  refine ⟨n, ?_⟩
  rw [setCell_eq, mapBlock_grow_new _ _ _ _ (by simp)]
  simp [onCells]

set_option maxRecDepth 1000000 in
theorem next_calls (X : World) (r : Int) (wr : World) (hR : Rnd X r wr) :
    Calls Tryz.prog 176 #[.pointer (some ⟨X.heap.size, 0, none⟩)] wr fun e w' => ∃ r' : Int, e = .returned (.int .u64 r') ∧ U64 r' ∧ Rnd X r' w' := by
  have hc := (rnd_cell hR).1
  have hf := (rnd_cell hR).2
  go_enter Tryz.func176, Tryz.ntmps176
  go_upto_region 1 with fail
  go_cut [] from 3 (fun wx => ∃ r', Rnd X r' wx)
  case first =>
    go_region
    go_wp2_with fail
    go_meet
    case rel => exact ⟨_, rnd_drew (rnd_set hR _)⟩
  case rest =>
    clear hc hf
    clear hR
    obtain ⟨r1, hR⟩ := hcut
    have hc := (rnd_cell hR).1
    have hf := (rnd_cell hR).2
    go_upto_region 2 with fail
    go_cut [] from 3 (fun wx => ∃ r', Rnd X r' wx)
    case first =>
      go_region
      go_wp2_with fail
      go_meet
      case rel => exact ⟨_, rnd_drew (rnd_set hR _)⟩
    case rest =>
      clear hc hf
      clear hR
      obtain ⟨r1, hR⟩ := hcut
      have hc := (rnd_cell hR).1
      have hf := (rnd_cell hR).2
      go_upto_region 3 with fail
      go_cut [] from 3 (fun wx => ∃ r', U64 r' ∧ Rnd X r' wx)
      case first =>
        go_region
        go_wp2_with fail
        go_meet
        case rel => exact ⟨_, bits_u64 _ _ _, rnd_drew (rnd_set hR _)⟩
      case rest =>
        clear hc hf
        clear hR
        obtain ⟨r1, hU, hR⟩ := hcut
        have hc := (rnd_cell hR).1
        go_wp2_with fail
        go_ret
        exact ⟨r1, rfl, hU, hR⟩
#print axioms next_calls

/-- The row holds d; behind the heap of w these blocks, which nothing has touched. -/
def AtO (w : World) (blk off : Nat) (d : Array Int) (r : Int) (wr : World) : Prop := ∃ n, wr = grow (putRow encU (Sort.ahead w n) blk off d) #[.cells #[.int .u64 r] 261 (0, 0)]
theorem ato_rnd {w wr : World} {blk off : Nat} {d : Array Int} {r : Int} (h : AtO w blk off d r wr) : ∃ X : World, X.heap.size = w.heap.size ∧ Rnd X r wr ∧ ∀ r' w', Rnd X r' w' → AtO w blk off d r' w' := by
  obtain ⟨n, rfl⟩ := h
  refine ⟨putRow encU (Sort.ahead w n) blk off d, by simp, ⟨0, by rw [ahead_zero]⟩, ?_⟩
  rintro r' w' ⟨m, rfl⟩
  exact ⟨n + m, by rw [putRow_ahead, ahead_ahead, ← putRow_ahead]⟩
theorem ato_at {w wr : World} {blk off : Nat} {d : Array Int} {r : Int} (h : AtO w blk off d r wr) : At encU w blk off d wr := by
  obtain ⟨n, rfl⟩ := h
  exact ⟨n, _, rfl⟩
theorem ato_swap {w wr : World} {blk off : Nat} {d : Array Int} {r : Int} {G : Nat → Int} (h : AtO w blk off d r wr) (hb : blk < w.heap.size) (hG : ∀ t, G t = d[t]!) (q i j : Nat) (hi : i < d.size) (hj : j < d.size) :
    AtO w blk off (swp d i j) r (((wr.drewN q).setCell ⟨blk, off + i, none⟩ (.int .u32 (G j))).setCell ⟨blk, off + j, none⟩ (.int .u32 (G i))) := by
  obtain ⟨n, rfl⟩ := h
  refine ⟨n + q, ?_⟩
  have e1 : (grow (putRow encU (Sort.ahead w n) blk off d) #[.cells #[.int .u64 r] 261 (0, 0)]).drewN q = grow (putRow encU (Sort.ahead w (n + q)) blk off d) #[.cells #[.int .u64 r] 261 (0, 0)] := by
    show Sort.ahead (grow (putRow encU (Sort.ahead w n) blk off d) _) q = _
    rw [ahead_grow, putRow_ahead, ahead_ahead, ← putRow_ahead]
  rw [e1, ← putRow_grow _ _ _ _ _ _ (by simpa using hb), hG, hG, putRow_swp encU _ blk off d i j hi hj, putRow_grow _ _ _ _ _ _ (by simpa using hb)]

set_option maxRecDepth 1000000 in
set_option maxHeartbeats 3200000 in
theorem breakPatterns_calls (blk off cap a b : Nat) (d : Array Int) (w : World) (hH : Holds encU w blk off d) (hblk : blk < w.heap.size) (hab : a ≤ b) (hb : b ≤ d.size) (hsz : d.size < 4611686018427387904) :
    Calls Tryz.prog 155 #[.slice (some ⟨blk, off, none⟩) d.size cap, .int .i64 a, .int .i64 b] w fun e w' =>
      e = .returned (.tuple #[]) ∧ ∃ d', PermIn a b d d' ∧ At encU w blk off d' w' := by
  go_enter Tryz.func155, Tryz.ntmps155
  by_cases h8 : 8 ≤ b - a
  · have h8z : 8 ≤ (b : Int) - (a : Int) := by omega
    obtain ⟨L, hL⟩ : ∃ L : Nat, (b : Int) - (a : Int) = (L : Int) := ⟨b - a, by omega⟩
    have hLn : b - a = L := by omega
    obtain ⟨i0, hi0⟩ : ∃ i0 : Nat, (a : Int) + ((b : Int) - (a : Int)) / 4 * 2 - 1 = (i0 : Int) := ⟨a + (b - a) / 4 * 2 - 1, by omega⟩
    have hi0r : a ≤ i0 ∧ i0 + 2 < b := by omega
    go_wp2_with (first | (go_at_call 175; refine (npt_calls L (by omega) (by omega) _).mono ?_; rintro e w1 ⟨M, rfl, hM1, hM2, rfl⟩))
    obtain ⟨m, rfl⟩ : ∃ m, M = m + 1 := ⟨M - 1, by omega⟩
    have hA0 : AtO w blk off d L (w.alloc (Obj.cells #[Value.int IntKind.u64 ↑L] 261)) := ⟨0, by rw [ahead_zero, putRow_self encU w blk off d hH, alloc_eq_grow]⟩
    go_loopg [9] (i0 + 3) (fun k s9 wr => ∃ (i : Nat) (dk : Array Int) (r : Int), s9 = .int .i64 i ∧ i0 ≤ i ∧ i ≤ i0 + 3 ∧ i0 + 3 - i ≤ k ∧ PermIn a b d dk ∧ AtO w blk off dk r wr)
    case atStart => exact ⟨i0, d, L, by congr 1; omega, Nat.le_refl _, by omega, by omega, permIn_refl d a b, hA0⟩
    case round =>
      clear hA0
      obtain ⟨i, dk, r, rfl, hi1, hi2, hk, hP, hwr⟩ := hrel
      have hds : dk.size = d.size := hP.1
      by_cases hi : i < i0 + 3
      · have hz : (i : Int) ≤ (a : Int) + (L : Int) / 4 * 2 + 1 := by omega
        obtain ⟨X, hX, hR, hback⟩ := ato_rnd hwr
        have hc := next_calls X r _ hR
        rw [hX] at hc
        go_upto_region 7 with fail
        go_cut [10] from 26 to 40 (fun s10 wx => ∃ (o : Nat) (r' : Int), s10 = .int .i64 o ∧ o < 2 * L ∧ AtO w blk off dk r' wx)
        case first =>
          go_wp2_with (go_at_call 176; refine hc.mono ?_; rintro e w2 ⟨r', rfl, hU, hR'⟩)
          go_meet
          case rel =>
            have ha := and_u64 r' m (by omega)
            have hb2 := hback r' w2 hR'
            have hw : wrap64 (bits BinOp.and IntKind.u64 r' (m : Int)) = ((bits BinOp.and IntKind.u64 r' (m : Int)).toNat : Int) := by
              generalize bits BinOp.and IntKind.u64 r' (m : Int) = z at ha
              unfold wrap64
              omega
            exact ⟨(bits BinOp.and IntKind.u64 r' (m : Int)).toNat, r', by rw [hw], by omega, hb2⟩
        case rest =>
          clear hc hR
          clear hback hX
          clear X hwr
          obtain ⟨o, r', rfl, ho, hwr⟩ := hcut
          go_upto_if 43 with fail
          go_cut [10] from 26 to 46 (fun s10 wx => ∃ (o' : Nat), s10 = .int .i64 o' ∧ o' < L ∧ AtO w blk off dk r' wx)
          case first =>
            by_cases hoL : L ≤ o
            · have hoz : (L : Int) ≤ (o : Int) := by omega
              go_wp2_with fail
              go_meet
              case rel => exact ⟨o - L, by congr 1; omega, by omega, hwr⟩
            · have hoz : ¬ ((L : Int) ≤ (o : Int)) := by omega
              go_wp2_with fail
              go_meet
              case rel => exact ⟨o, rfl, by omega, hwr⟩
          case rest =>
            clear hwr
            obtain ⟨o', rfl, ho', hwr⟩ := hcut
            obtain ⟨q, hq⟩ : ∃ q : Nat, (a : Int) + (o' : Int) = (q : Int) := ⟨a + o', by omega⟩
            have hqr : a ≤ q ∧ q < b := by omega
            obtain ⟨G, hG, hcw, hfw, hbw⟩ := At.cells (ato_at hwr) hH hds hblk
            have HG : Hid (∀ t, G t = dk[t]!) := hG
            clear hG
            have hP2 : Hid (PermIn a b d (swp dk i q)) := hid (permIn_trans _ _ _ _ _ hP (swp_permIn dk a b i q (by omega) (by omega) (by omega) (by omega) (by omega)))
            have hir : i < d.size ∧ q < d.size := by omega
            have hk2 : i0 + 3 - (i + 1) < gk := by omega
            clear hz hP ho' hL hLn h8z h8 hM1 hM2 hi0 ho
            go_wp2_with fail
            rcases Nat.lt_trichotomy i q with hlt | hlt | hlt
            · go_region
              go_wp2_with fail
              go_roundg (i0 + 3 - (i + 1))
              case measure => omega
              case rel => exact ⟨i + 1, _, r', by simp, by omega, by omega, Nat.le_refl _, hP2.out, ato_swap hwr hblk HG.out 1 i q (by omega) (by omega)⟩
            · subst hlt
              go_region
              go_wp2_with fail
              go_roundg (i0 + 3 - (i + 1))
              case measure => omega
              case rel => exact ⟨i + 1, _, r', by simp, by omega, by omega, Nat.le_refl _, hP2.out, ato_swap hwr hblk HG.out 1 i i (by omega) (by omega)⟩
            · go_region
              go_wp2_with fail
              go_roundg (i0 + 3 - (i + 1))
              case measure => omega
              case rel => exact ⟨i + 1, _, r', by simp, by omega, by omega, Nat.le_refl _, hP2.out, ato_swap hwr hblk HG.out 1 i q (by omega) (by omega)⟩
      · have hz : ¬ ((i : Int) ≤ (a : Int) + (L : Int) / 4 * 2 + 1) := by omega
        go_wp2_with fail
        go_end0
        exact ⟨rfl, dk, hP, ato_at hwr⟩
  · have h8z : ¬ (8 ≤ (b : Int) - (a : Int)) := by omega
    go_wp2_with fail
    go_end0
    exact ⟨rfl, d, permIn_refl d a b, At.refl hH⟩
#print axioms breakPatterns_calls
end Go.Proofs.YtcjcgehhmjnlcaaGreatDoor.Srt
set_option linter.unusedVariables false
namespace Go.Proofs.YtcjcgehhmjnlcaaGreatDoor.Srt
open Go.RowKit Go.Sort

theorem swo : SWO ltInt where
  irrefl x := by simp [ltInt]
  trans x y z h1 h2 := by simp [ltInt] at *; omega
  ntrans x y z h1 h2 := by simp [ltInt] at *; omega

/-- What a call of the sort leaves. -/
def Srtd (w : World) (blk off a b : Nat) (d : Array Int) (w' : World) : Prop := ∃ d', PermIn a b d d' ∧ SortedIn ltInt a b d' ∧ At encU w blk off d' w'

set_option maxRecDepth 1000000 in
set_option maxHeartbeats 6400000 in
theorem pdq_calls : ∀ (N blk off cap a b limit : Nat) (d : Array Int) (w : World), b - a < N → Holds encU w blk off d → blk < w.heap.size → a ≤ b → b ≤ d.size → d.size < 4611686018427387904 → limit < 4611686018427387904 → Below ltInt a b d →
    Calls Tryz.prog 141 #[.slice (some ⟨blk, off, none⟩) d.size cap, .int .i64 a, .int .i64 b, .int .i64 limit] w fun e w' => e = .returned (.tuple #[]) ∧ Srtd w blk off a b d w' := by
  intro N
  induction N with
  | zero => intro _ _ _ _ _ _ _ _ h; exact absurd h (Nat.not_lt_zero _)
  | succ N ih =>
    intro blk off cap a b limit d w hN hH hblk hab hb hsz hlimit hBel0
    go_enter Tryz.func141, Tryz.ntmps141
    go_wp2
    go_loopg [1, 2, 3, 8, 9] (b - a) (fun k s1 s2 s3 s8 s9 wr => ∃ (a' b' lim : Nat) (wb wp : Bool) (dk : Array Int), s1 = .int .i64 a' ∧ s2 = .int .i64 b' ∧ s3 = .int .i64 lim ∧ s8 = .bool wb ∧ s9 = .bool wp ∧
      a' ≤ b' ∧ b' ≤ d.size ∧ b' - a' ≤ k ∧ k ≤ b - a ∧ lim ≤ limit ∧ dk.size = d.size ∧ Below ltInt a' b' dk ∧ At encU w blk off dk wr ∧ (∀ R, PermIn a' b' dk R → SortedIn ltInt a' b' R → PermIn a b d R ∧ SortedIn ltInt a b R))
    case atStart => exact ⟨a, b, limit, true, true, d, rfl, rfl, rfl, rfl, rfl, hab, hb, Nat.le_refl _, Nat.le_refl _, Nat.le_refl _, rfl, hBel0, At.refl hH, fun R h1 h2 => ⟨h1, h2⟩⟩
    case round =>
      obtain ⟨a', b', lim, wb, wp, dk, rfl, rfl, rfl, rfl, rfl, hab', hb', hk, hkN, hlim, hds, hBel, hAt, hfin⟩ := hrel
      have F : Hid (∀ R, PermIn a' b' dk R → SortedIn ltInt a' b' R → PermIn a b d R ∧ SortedIn ltInt a b R) := hfin
      clear hfin
      obtain ⟨hHk, hblk'⟩ := hAt.holds hH hds hblk
      by_cases h12 : b' - a' ≤ 12
      · have h12z : (b' : Int) - (a' : Int) ≤ 12 := by omega
        have hc := insertion_calls blk off cap a' b' dk wr hHk hblk' hab' (by omega) (by omega)
        rw [hds] at hc
        go_wp2_with (go_at_call 153; refine hc.mono ?_; rintro e w1 ⟨rfl, hw1⟩)
        (try simp only [Exit.inBlock, Exit.then]); refine bodyPost_ret (results_none rfl _ _ _) rfl ?_
        have hi := insertionSort_holds swo dk a' b' hab' (by omega)
        have hf := F.out _ hi.1 hi.2
        exact ⟨rfl, _, hf.1, hf.2, hAt.stepG hblk hi.1.1 hw1⟩
      · have h12z : ¬ ((b' : Int) - (a' : Int) ≤ 12) := by omega
        by_cases hl0 : lim = 0
        · subst hl0
          have hc := heapSort_calls blk off cap a' b' dk wr hHk hblk' hab' (by omega) (by omega)
          rw [hds] at hc
          go_wp2_with (go_at_call 154; refine hc.mono ?_; rintro e w1 ⟨rfl, hw1⟩)
          (try simp only [Exit.inBlock, Exit.then]); refine bodyPost_ret (results_none rfl _ _ _) rfl ?_
          have hi := heapSort_holds swo dk a' b' hab' (by omega)
          have hf := F.out _ hi.1 hi.2
          exact ⟨rfl, _, hf.1, hf.2, hAt.stepG hblk hi.1.1 hw1⟩
        · have hl0z : ¬ ((lim : Int) = 0) := by omega
          go_upto_if 35 with fail
          go_cut [3] from 19 (fun s3 wc => ∃ (lim' : Nat) (d1 : Array Int), s3 = .int .i64 lim' ∧ lim' ≤ lim ∧ PermIn a' b' dk d1 ∧ At encU w blk off d1 wc)
          case first =>
            cases wb
            · have hc := breakPatterns_calls blk off cap a' b' dk wr hHk hblk' hab' (by omega) (by omega)
              rw [hds] at hc
              go_wp2_with (go_at_call 155; refine hc.mono ?_; rintro e w1 ⟨rfl, d1, hp1, hw1⟩)
              go_meet
              case rel => exact ⟨lim - 1, d1, by congr 1; omega, by omega, hp1, hAt.stepG hblk hp1.1 hw1⟩
            · go_wp2_with fail
              go_meet
              case rel => exact ⟨lim, dk, rfl, Nat.le_refl _, permIn_refl dk a' b', hAt⟩
          case rest =>
            obtain ⟨lim', d1, rfl, hlim', P1, hAt1⟩ := hcut
            have s1 : d1.size = d.size := P1.1.trans hds
            have B1 := hBel.perm (by omega) P1
            obtain ⟨hH1, hblk1⟩ := hAt1.holds hH s1 hblk
            have hc30 := choosePivot_calls blk off cap a' b' d1 wc hH1 hblk1 (by omega) (by omega) (by omega)
            rw [s1] at hc30
            have hpr := choosePivot_holds ltInt d1 a' b' (by omega)
            obtain ⟨p, hh, hpv⟩ : ∃ p hh, choosePivot ltInt d1 a' b' = (p, hh) := ⟨_, _, rfl⟩
            rw [hpv] at hc30 hpr
            simp only at hc30 hpr
            clear hpv
            go_upto_if 50 with (go_at_call 156; refine hc30.mono ?_; rintro e w2 ⟨rfl, hw2⟩)
            have hAt2 : At encU w blk off d1 w2 := hAt1.stepG hblk rfl hw2
            obtain ⟨hH2, hblk2⟩ := hAt2.holds hH s1 hblk
            go_cut [11, 12] from 19 (fun s11 s12 wc => ∃ (p2 : Nat) (z : Int) (d2 : Array Int), s11 = .int .i64 p2 ∧ s12 = .int .i64 z ∧ a' ≤ p2 ∧ p2 < b' ∧ PermIn a' b' dk d2 ∧ At encU w blk off d2 wc)
            case first =>
              by_cases h2 : hcode hh = 2
              · have hc31 := reverse_calls blk off cap a' b' d1 w2 hH2 hblk2 hab' (by omega) (by omega)
                rw [s1] at hc31
                have hrv := reverseRange_holds d1 a' b' hab' (by omega)
                go_wp2_with (go_at_call 157; refine hc31.mono ?_; rintro e w3 ⟨rfl, hw3⟩)
                go_meet
                case rel => exact ⟨(b' - 1) - (p - a'), 1, reverseRange d1 a' b', by congr 1; omega, rfl, by omega, by omega, permIn_trans _ _ _ _ _ P1 hrv, hAt2.stepG hblk hrv.1 hw3⟩
              · go_wp2_with fail
                go_meet
                case rel => exact ⟨p, hcode hh, d1, rfl, rfl, hpr.1, hpr.2, P1, hAt2⟩
            case rest =>
              clear hc30 hAt1 hAt2 hH1 hblk1 hH2 hblk2 B1 s1 P1 hw2 hpr
              clear w2
              obtain ⟨p2, z, d2, rfl, rfl, hp2a, hp2b, P2, hAt2⟩ := hcut
              have s2 : d2.size = d.size := P2.1.trans hds
              have B2 := hBel.perm (by omega) P2
              obtain ⟨hH2, hblk2⟩ := hAt2.holds hH s2 hblk
              go_upto_region 15 with fail
              go_cut [68] from 19 (fun s68 wx => ∃ t : Bool, s68 = .bool t ∧ wx = wc)
              case first =>
                by_cases hz : z = 1
                · subst hz
                  cases wb <;> cases wp <;>
                    (go_wp2_with fail
                     go_meet
                     exact ⟨_, rfl, rfl⟩)
                · have hzb : (z == 1) = false := by simp [hz]
                  cases wb <;> cases wp <;>
                    (go_wp2_with fail
                     go_meet
                     exact ⟨_, rfl, rfl⟩)
              case rest =>
                obtain ⟨t, rfl, rfl⟩ := hcut
                go_upto_if 68 with fail
                go_cut [] from 19 (fun wx => ∃ d3, PermIn a' b' dk d3 ∧ At encU w blk off d3 wx)
                case first =>
                  cases t
                  · go_wp2_with fail
                    go_meet
                    case rel => exact ⟨d2, P2, hAt2⟩
                  · have hc32 := partialIns_calls blk off cap a' b' d2 _ hH2 hblk2 (by omega) (by omega) (by omega)
                    rw [s2] at hc32
                    have hpi := partialInsertionSort_holds swo d2 a' b' (by omega) (by omega) B2
                    obtain ⟨d3, ok, hx⟩ : ∃ d3 ok, partialInsertionSort ltInt d2 a' b' = (d3, ok) := ⟨_, _, rfl⟩
                    rw [hx] at hc32 hpi
                    simp only at hc32 hpi
                    clear hx
                    have P3 := permIn_trans _ _ _ _ _ P2 hpi.1
                    cases ok
                    · go_wp2_with (go_at_call 158; refine hc32.mono ?_; rintro e w4 ⟨rfl, hw4⟩)
                      go_meet
                      case rel => exact ⟨d3, P3, hAt2.stepG hblk hpi.1.1 hw4⟩
                    · go_wp2_with (go_at_call 158; refine hc32.mono ?_; rintro e w4 ⟨rfl, hw4⟩)
                      (try simp only [Exit.inBlock, Exit.then]); refine bodyPost_ret (results_none rfl _ _ _) rfl ?_
                      have hf := F.out _ P3 (hpi.2 trivial)
                      exact ⟨rfl, _, hf.1, hf.2, hAt2.stepG hblk hpi.1.1 hw4⟩
                case rest =>
                  clear hAt2 hH2 hblk2 B2 s2 P2
                  obtain ⟨d3, P3, hAt3⟩ := hcut
                  have s3 : d3.size = d.size := P3.1.trans hds
                  have B3 := hBel.perm (by omega) P3
                  obtain ⟨G, hG, hcw, hfw, hbw⟩ := At.cells hAt3 hH s3 hblk
                  have HG : Hid (∀ t, G t = d3[t]!) := hG
                  clear hG
                  go_upto_region 17 with fail
                  go_cut [87] from 19 (fun s87 wx => s87 = .bool (decide (a' > 0) && !ltInt d3[a' - 1]! d3[p2]!) ∧ At encU w blk off d3 wx)
                  case first =>
                    rcases Nat.eq_zero_or_pos a' with ha0 | ha0
                    · have ha0z : decide ((a' : Int) > 0) = false := decide_eq_false (by omega)
                      go_big_quiet (first | (go_at_call 159; refine Calls.quiet_of_same (less_calls _ _ _)))
                      go_wp2_with fail
                      go_meet
                      case rel => exact ⟨by simp [ha0], hAt3.ahead nq⟩
                    · have ha0z : (a' : Int) > 0 := by omega
                      go_big_quiet (first | (go_at_call 159; refine Calls.quiet_of_same (less_calls _ _ _)))
                      go_wp2_with fail
                      go_meet
                      case rel => exact ⟨by simp [ha0, HG.out], hAt3.ahead nq⟩
                  case rest =>
                    clear hcw hfw hbw HG hAt3
                    clear G
                    obtain ⟨rfl, hAt3⟩ := hcut
                    obtain ⟨hH3, hblk3⟩ := hAt3.holds hH s3 hblk
                    cases h87 : (decide (a' > 0) && !ltInt d3[a' - 1]! d3[p2]!)
                    · clear h87
                      have hc35 := partition_calls blk off cap a' b' p2 d3 _ hH3 hblk3 hp2a hp2b (by omega) (by omega)
                      rw [s3] at hc35
                      obtain ⟨mid, ap, d4, hx⟩ : ∃ mid ap d4, partition ltInt d3 a' b' p2 = (mid, ap, d4) := ⟨_, _, _, rfl⟩
                      rw [hx] at hc35
                      simp only at hc35
                      obtain ⟨r1, r2, r3, r4, r5, r6, r7⟩ := round_part swo (partition_holds ltInt) hp2a hp2b (show b' ≤ d3.size by omega) B3 hx
                      clear hx
                      have s4 : d4.size = d.size := r3.trans s3
                      go_upto_if 113 with (go_at_call 161; refine hc35.mono ?_; rintro e w7 ⟨rfl, hw7⟩)
                      have hAt4 : At encU w blk off d4 w7 := hAt3.stepG hblk r3 hw7
                      obtain ⟨hH4, hblk4⟩ := hAt4.holds hH s4 hblk
                      by_cases h4 : mid - a' < b' - mid
                      · have h4z : (mid : Int) - (a' : Int) < (b' : Int) - (mid : Int) := by omega
                        have hih := ih blk off cap a' mid lim' d4 w7 (by omega) hH4 hblk4 (by omega) (by omega) (by omega) (by omega) r4
                        rw [s4] at hih
                        go_wp2_with (go_at_call 141; refine hih.mono ?_; rintro e w8 ⟨rfl, L, hL1, hL2, hw8⟩)
                        go_roundg (b' - (mid + 1))
                        case measure => omega
                        case rel =>
                          have h6 := r6 L hL1 hL2
                          exact ⟨mid + 1, b', lim', _, ap, L, by simp, rfl, rfl, rfl, rfl, by omega, by omega, Nat.le_refl _, by omega, by omega, hL1.1.trans s4, h6.1, hAt4.stepG hblk hL1.1 hw8,
                            fun R h1 h2 => F.out R (permIn_trans _ _ _ _ _ P3 (h6.2 R h1 h2).1) (h6.2 R h1 h2).2⟩
                      · have h4z : ¬ ((mid : Int) - (a' : Int) < (b' : Int) - (mid : Int)) := by omega
                        have hih := ih blk off cap (mid + 1) b' lim' d4 w7 (by omega) hH4 hblk4 (by omega) (by omega) (by omega) (by omega) r5
                        rw [s4] at hih
                        go_wp2_with (go_at_call 141; refine hih.mono ?_; rintro e w8 ⟨rfl, L, hL1, hL2, hw8⟩)
                        go_roundg (mid - a')
                        case measure => omega
                        case rel =>
                          have h7 := r7 L hL1 hL2
                          exact ⟨a', mid, lim', _, ap, L, rfl, rfl, rfl, rfl, rfl, by omega, by omega, Nat.le_refl _, by omega, by omega, hL1.1.trans s4, h7.1, hAt4.stepG hblk hL1.1 hw8,
                            fun R h1 h2 => F.out R (permIn_trans _ _ _ _ _ P3 (h7.2 R h1 h2).1) (h7.2 R h1 h2).2⟩
                    · simp only [Bool.and_eq_true, decide_eq_true_eq, Bool.not_eq_true'] at h87
                      have hc34 := partitionEqual_calls blk off cap a' b' p2 d3 _ hH3 hblk3 hp2a hp2b (by omega) (by omega)
                      rw [s3] at hc34
                      obtain ⟨mid, d4, hx⟩ : ∃ mid d4, partitionEqual ltInt d3 a' b' p2 = (mid, d4) := ⟨_, _, rfl⟩
                      rw [hx] at hc34
                      simp only at hc34
                      obtain ⟨r1, r2, r3, r4, r5⟩ := round_eq swo (partitionEqual_holds ltInt) h87.1 hp2a hp2b (show b' ≤ d3.size by omega) B3 h87.2 hx
                      clear hx
                      clear h87
                      have s4 : d4.size = d.size := r3.trans s3
                      go_wp2_with (go_at_call 160; refine hc34.mono ?_; rintro e w7 ⟨rfl, hw7⟩)
                      go_roundg (b' - mid)
                      case measure => omega
                      case rel =>
                        exact ⟨mid, b', lim', wb, wp, d4, rfl, rfl, rfl, rfl, rfl, r2, hb', Nat.le_refl _, by omega, by omega, s4, r4, hAt3.stepG hblk r3 hw7,
                          fun R h1 h2 => F.out R (permIn_trans _ _ _ _ _ P3 (r5 R h1 h2).1) (r5 R h1 h2).2⟩
#print axioms pdq_calls
end Go.Proofs.YtcjcgehhmjnlcaaGreatDoor.Srt
