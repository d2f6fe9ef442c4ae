import Derived.Test.YtjgcdjfeglhalaaSrtF
import Derived.Test.YtjgcdjfeglhalaaSrtG
import Derived.Test.YtjgcdjfeglhalaaSrtH
import Derived.Sort.AssemblyPlain
set_option linter.unusedVariables false
namespace Go.Proofs.Ytjgcdjfeglhalaa.Srt
open Go.RowKit Go.Sort

theorem swo : SWO ltInt where
  irrefl x := by simp [ltInt]
  trans x y z h1 h2 := by simp [ltInt] at *; omega
  ntrans x y z h1 h2 := by simp [ltInt] at *; omega

/-- What a call of the sort leaves. -/
def Srtd (w : World) (blk off a b : Nat) (d : Array Int) (w' : World) : Prop := ∃ d', PermIn a b d d' ∧ SortedIn ltInt a b d' ∧ At encU w blk off d' w'

theorem hcode_two {h : Hint} (e : hcode h = 2) : h = .decreasing := by cases h <;> simp [hcode] at e ⊢

set_option maxRecDepth 1000000 in
set_option maxHeartbeats 6400000 in
theorem pdq_calls : ∀ (N blk off cap a b limit : Nat) (d : Array Int) (w : World), b - a < N → Holds encU w blk off d → blk < w.heap.size → a ≤ b → b ≤ d.size → d.size < 4611686018427387904 → limit < 4611686018427387904 → Below ltInt a b d →
    Calls Try.prog 22 #[.slice (some ⟨blk, off, none⟩) d.size cap, .int .i64 a, .int .i64 b, .int .i64 limit] w fun e w' => e = .returned (.tuple #[]) ∧ Srtd w blk off a b d w' := by
  intro N
  induction N with
  | zero => intro _ _ _ _ _ _ _ _ h; exact absurd h (Nat.not_lt_zero _)
  | succ N ih =>
    intro blk off cap a b limit d w hN hH hblk hab hb hsz hlimit hBel0
    go_enter Try.func22, Try.ntmps22
    go_wp2
    go_loopg [1, 2, 3, 8, 9] (b - a) (fun k s1 s2 s3 s8 s9 wr => ∃ (a' b' lim : Nat) (wb wp : Bool) (dk : Array Int), s1 = .int .i64 a' ∧ s2 = .int .i64 b' ∧ s3 = .int .i64 lim ∧ s8 = .bool wb ∧ s9 = .bool wp ∧
      a' ≤ b' ∧ b' ≤ d.size ∧ b' - a' ≤ k ∧ k ≤ b - a ∧ lim ≤ limit ∧ dk.size = d.size ∧ Below ltInt a' b' dk ∧ At encU w blk off dk wr ∧ (∀ R, PermIn a' b' dk R → SortedIn ltInt a' b' R → PermIn a b d R ∧ SortedIn ltInt a b R))
    case atStart => exact ⟨a, b, limit, true, true, d, rfl, rfl, rfl, rfl, rfl, hab, hb, Nat.le_refl _, Nat.le_refl _, Nat.le_refl _, rfl, hBel0, At.refl hH, fun R h1 h2 => ⟨h1, h2⟩⟩
    case round =>
      obtain ⟨a', b', lim, wb, wp, dk, rfl, rfl, rfl, rfl, rfl, hab', hb', hk, hkN, hlim, hds, hBel, hAt, hfin⟩ := hrel
      have F : Hid (∀ R, PermIn a' b' dk R → SortedIn ltInt a' b' R → PermIn a b d R ∧ SortedIn ltInt a b R) := hfin
      clear hfin
      obtain ⟨hHk, hblk'⟩ := hAt.holds hH hds hblk
      by_cases h12 : b' - a' ≤ 12
      · have h12z : (b' : Int) - (a' : Int) ≤ 12 := by omega
        have hc := insertion_calls blk off cap a' b' dk wr hHk hblk' hab' (by omega) (by omega)
        rw [hds] at hc
        go_wp2_with (go_at_call 27; refine hc.mono ?_; rintro e w1 ⟨rfl, hw1⟩)
        (try simp only [Exit.inBlock, Exit.then]); refine bodyPost_ret (results_none rfl _ _ _) rfl ?_
        have hi := insertionSort_holds swo dk a' b' hab' (by omega)
        have hf := F.out _ hi.1 hi.2
        exact ⟨rfl, _, hf.1, hf.2, hAt.stepG hblk hi.1.1 hw1⟩
      · have h12z : ¬ ((b' : Int) - (a' : Int) ≤ 12) := by omega
        by_cases hl0 : lim = 0
        · subst hl0
          have hc := heapSort_calls blk off cap a' b' dk wr hHk hblk' hab' (by omega) (by omega)
          rw [hds] at hc
          go_wp2_with (go_at_call 28; refine hc.mono ?_; rintro e w1 ⟨rfl, hw1⟩)
          (try simp only [Exit.inBlock, Exit.then]); refine bodyPost_ret (results_none rfl _ _ _) rfl ?_
          have hi := heapSort_holds swo dk a' b' hab' (by omega)
          have hf := F.out _ hi.1 hi.2
          exact ⟨rfl, _, hf.1, hf.2, hAt.stepG hblk hi.1.1 hw1⟩
        · have hl0z : ¬ ((lim : Int) = 0) := by omega
          go_upto_if 35 with fail
          go_cut [3] from 19 (fun s3 wc => ∃ (lim' : Nat) (d1 : Array Int), s3 = .int .i64 lim' ∧ lim' ≤ lim ∧ PermIn a' b' dk d1 ∧ At encU w blk off d1 wc)
          case first =>
            cases wb
            · have hc := breakPatterns_calls blk off cap a' b' dk wr hHk hblk' hab' (by omega) (by omega)
              rw [hds] at hc
              go_wp2_with (go_at_call 29; refine hc.mono ?_; rintro e w1 ⟨rfl, d1, hp1, hw1⟩)
              go_meet
              case rel => exact ⟨lim - 1, d1, by congr 1; omega, by omega, hp1, hAt.stepG hblk hp1.1 hw1⟩
            · go_wp2_with fail
              go_meet
              case rel => exact ⟨lim, dk, rfl, Nat.le_refl _, permIn_refl dk a' b', hAt⟩
          case rest =>
            obtain ⟨lim', d1, rfl, hlim', P1, hAt1⟩ := hcut
            have s1 : d1.size = d.size := P1.1.trans hds
            have B1 := hBel.perm (by omega) P1
            obtain ⟨hH1, hblk1⟩ := hAt1.holds hH s1 hblk
            have hc30 := choosePivot_calls blk off cap a' b' d1 wc hH1 hblk1 (by omega) (by omega) (by omega)
            rw [s1] at hc30
            have hpr := choosePivot_holds ltInt d1 a' b' (by omega)
            obtain ⟨p, hh, hpv⟩ : ∃ p hh, choosePivot ltInt d1 a' b' = (p, hh) := ⟨_, _, rfl⟩
            rw [hpv] at hc30 hpr
            simp only at hc30 hpr
            clear hpv
            go_upto_if 50 with (go_at_call 30; refine hc30.mono ?_; rintro e w2 ⟨rfl, hw2⟩)
            have hAt2 : At encU w blk off d1 w2 := hAt1.stepG hblk rfl hw2
            obtain ⟨hH2, hblk2⟩ := hAt2.holds hH s1 hblk
            go_cut [11, 12] from 19 (fun s11 s12 wc => ∃ (p2 : Nat) (z : Int) (d2 : Array Int), s11 = .int .i64 p2 ∧ s12 = .int .i64 z ∧ a' ≤ p2 ∧ p2 < b' ∧ PermIn a' b' dk d2 ∧ At encU w blk off d2 wc)
            case first =>
              by_cases h2 : hcode hh = 2
              · have hc31 := reverse_calls blk off cap a' b' d1 w2 hH2 hblk2 hab' (by omega) (by omega)
                rw [s1] at hc31
                have hrv := reverseRange_holds d1 a' b' hab' (by omega)
                go_wp2_with (go_at_call 31; refine hc31.mono ?_; rintro e w3 ⟨rfl, hw3⟩)
                go_meet
                case rel => exact ⟨(b' - 1) - (p - a'), 1, reverseRange d1 a' b', by congr 1; omega, rfl, by omega, by omega, permIn_trans _ _ _ _ _ P1 hrv, hAt2.stepG hblk hrv.1 hw3⟩
              · go_wp2_with fail
                go_meet
                case rel => exact ⟨p, hcode hh, d1, rfl, rfl, hpr.1, hpr.2, P1, hAt2⟩
            case rest =>
              clear hc30 hAt1 hAt2 hH1 hblk1 hH2 hblk2 B1 s1 P1 hw2 hpr
              clear w2
              obtain ⟨p2, z, d2, rfl, rfl, hp2a, hp2b, P2, hAt2⟩ := hcut
              have s2 : d2.size = d.size := P2.1.trans hds
              have B2 := hBel.perm (by omega) P2
              obtain ⟨hH2, hblk2⟩ := hAt2.holds hH s2 hblk
              go_upto_region 15 with fail
              go_cut [68] from 19 (fun s68 wx => ∃ t : Bool, s68 = .bool t ∧ wx = wc)
              case first =>
                by_cases hz : z = 1
                · subst hz
                  cases wb <;> cases wp <;>
                    (go_wp2_with fail
                     go_meet
                     exact ⟨_, rfl, rfl⟩)
                · have hzb : (z == 1) = false := by simp [hz]
                  cases wb <;> cases wp <;>
                    (go_wp2_with fail
                     go_meet
                     exact ⟨_, rfl, rfl⟩)
              case rest =>
                obtain ⟨t, rfl, rfl⟩ := hcut
                go_upto_if 68 with fail
                go_cut [] from 19 (fun wx => ∃ d3, PermIn a' b' dk d3 ∧ At encU w blk off d3 wx)
                case first =>
                  cases t
                  · go_wp2_with fail
                    go_meet
                    case rel => exact ⟨d2, P2, hAt2⟩
                  · have hc32 := partialIns_calls blk off cap a' b' d2 _ hH2 hblk2 (by omega) (by omega) (by omega)
                    rw [s2] at hc32
                    have hpi := partialInsertionSort_holds swo d2 a' b' (by omega) (by omega) B2
                    obtain ⟨d3, ok, hx⟩ : ∃ d3 ok, partialInsertionSort ltInt d2 a' b' = (d3, ok) := ⟨_, _, rfl⟩
                    rw [hx] at hc32 hpi
                    simp only at hc32 hpi
                    clear hx
                    have P3 := permIn_trans _ _ _ _ _ P2 hpi.1
                    cases ok
                    · go_wp2_with (go_at_call 32; refine hc32.mono ?_; rintro e w4 ⟨rfl, hw4⟩)
                      go_meet
                      case rel => exact ⟨d3, P3, hAt2.stepG hblk hpi.1.1 hw4⟩
                    · go_wp2_with (go_at_call 32; refine hc32.mono ?_; rintro e w4 ⟨rfl, hw4⟩)
                      (try simp only [Exit.inBlock, Exit.then]); refine bodyPost_ret (results_none rfl _ _ _) rfl ?_
                      have hf := F.out _ P3 (hpi.2 trivial)
                      exact ⟨rfl, _, hf.1, hf.2, hAt2.stepG hblk hpi.1.1 hw4⟩
                case rest =>
                  clear hAt2 hH2 hblk2 B2 s2 P2
                  obtain ⟨d3, P3, hAt3⟩ := hcut
                  have s3 : d3.size = d.size := P3.1.trans hds
                  have B3 := hBel.perm (by omega) P3
                  obtain ⟨G, hG, hcw, hfw, hbw⟩ := At.cells hAt3 hH s3 hblk
                  have HG : Hid (∀ t, G t = d3[t]!) := hG
                  clear hG
                  go_upto_region 17 with fail
                  go_cut [87] from 19 (fun s87 wx => s87 = .bool (decide (a' > 0) && !ltInt d3[a' - 1]! d3[p2]!) ∧ At encU w blk off d3 wx)
                  case first =>
                    rcases Nat.eq_zero_or_pos a' with ha0 | ha0
                    · have ha0z : decide ((a' : Int) > 0) = false := decide_eq_false (by omega)
                      go_big_quiet (first | (go_at_call 33; refine Calls.quiet_of_same (less_calls _ _ _)))
                      go_wp2_with fail
                      go_meet
                      case rel => exact ⟨by simp [ha0], hAt3.ahead nq⟩
                    · have ha0z : (a' : Int) > 0 := by omega
                      go_big_quiet (first | (go_at_call 33; refine Calls.quiet_of_same (less_calls _ _ _)))
                      go_wp2_with fail
                      go_meet
                      case rel => exact ⟨by simp [ha0, HG.out], hAt3.ahead nq⟩
                  case rest =>
                    clear hcw hfw hbw HG hAt3
                    clear G
                    obtain ⟨rfl, hAt3⟩ := hcut
                    obtain ⟨hH3, hblk3⟩ := hAt3.holds hH s3 hblk
                    cases h87 : (decide (a' > 0) && !ltInt d3[a' - 1]! d3[p2]!)
                    · clear h87
                      have hc35 := partition_calls blk off cap a' b' p2 d3 _ hH3 hblk3 hp2a hp2b (by omega) (by omega)
                      rw [s3] at hc35
                      obtain ⟨mid, ap, d4, hx⟩ : ∃ mid ap d4, partition ltInt d3 a' b' p2 = (mid, ap, d4) := ⟨_, _, _, rfl⟩
                      rw [hx] at hc35
                      simp only at hc35
                      obtain ⟨r1, r2, r3, r4, r5, r6, r7⟩ := round_part swo (partition_holds ltInt) hp2a hp2b (show b' ≤ d3.size by omega) B3 hx
                      clear hx
                      have s4 : d4.size = d.size := r3.trans s3
                      go_upto_if 113 with (go_at_call 35; refine hc35.mono ?_; rintro e w7 ⟨rfl, hw7⟩)
                      have hAt4 : At encU w blk off d4 w7 := hAt3.stepG hblk r3 hw7
                      obtain ⟨hH4, hblk4⟩ := hAt4.holds hH s4 hblk
                      by_cases h4 : mid - a' < b' - mid
                      · have h4z : (mid : Int) - (a' : Int) < (b' : Int) - (mid : Int) := by omega
                        have hih := ih blk off cap a' mid lim' d4 w7 (by omega) hH4 hblk4 (by omega) (by omega) (by omega) (by omega) r4
                        rw [s4] at hih
                        go_wp2_with (go_at_call 22; refine hih.mono ?_; rintro e w8 ⟨rfl, L, hL1, hL2, hw8⟩)
                        go_roundg (b' - (mid + 1))
                        case measure => omega
                        case rel =>
                          have h6 := r6 L hL1 hL2
                          exact ⟨mid + 1, b', lim', _, ap, L, by simp, rfl, rfl, rfl, rfl, by omega, by omega, Nat.le_refl _, by omega, by omega, hL1.1.trans s4, h6.1, hAt4.stepG hblk hL1.1 hw8,
                            fun R h1 h2 => F.out R (permIn_trans _ _ _ _ _ P3 (h6.2 R h1 h2).1) (h6.2 R h1 h2).2⟩
                      · have h4z : ¬ ((mid : Int) - (a' : Int) < (b' : Int) - (mid : Int)) := by omega
                        have hih := ih blk off cap (mid + 1) b' lim' d4 w7 (by omega) hH4 hblk4 (by omega) (by omega) (by omega) (by omega) r5
                        rw [s4] at hih
                        go_wp2_with (go_at_call 22; refine hih.mono ?_; rintro e w8 ⟨rfl, L, hL1, hL2, hw8⟩)
                        go_roundg (mid - a')
                        case measure => omega
                        case rel =>
                          have h7 := r7 L hL1 hL2
                          exact ⟨a', mid, lim', _, ap, L, rfl, rfl, rfl, rfl, rfl, by omega, by omega, Nat.le_refl _, by omega, by omega, hL1.1.trans s4, h7.1, hAt4.stepG hblk hL1.1 hw8,
                            fun R h1 h2 => F.out R (permIn_trans _ _ _ _ _ P3 (h7.2 R h1 h2).1) (h7.2 R h1 h2).2⟩
                    · simp only [Bool.and_eq_true, decide_eq_true_eq, Bool.not_eq_true'] at h87
                      have hc34 := partitionEqual_calls blk off cap a' b' p2 d3 _ hH3 hblk3 hp2a hp2b (by omega) (by omega)
                      rw [s3] at hc34
                      obtain ⟨mid, d4, hx⟩ : ∃ mid d4, partitionEqual ltInt d3 a' b' p2 = (mid, d4) := ⟨_, _, rfl⟩
                      rw [hx] at hc34
                      simp only at hc34
                      obtain ⟨r1, r2, r3, r4, r5⟩ := round_eq swo (partitionEqual_holds ltInt) h87.1 hp2a hp2b (show b' ≤ d3.size by omega) B3 h87.2 hx
                      clear hx
                      clear h87
                      have s4 : d4.size = d.size := r3.trans s3
                      go_wp2_with (go_at_call 34; refine hc34.mono ?_; rintro e w7 ⟨rfl, hw7⟩)
                      go_roundg (b' - mid)
                      case measure => omega
                      case rel =>
                        exact ⟨mid, b', lim', wb, wp, d4, rfl, rfl, rfl, rfl, rfl, r2, hb', Nat.le_refl _, by omega, by omega, s4, r4, hAt3.stepG hblk r3 hw7,
                          fun R h1 h2 => F.out R (permIn_trans _ _ _ _ _ P3 (r5 R h1 h2).1) (r5 R h1 h2).2⟩
#print axioms pdq_calls
end Go.Proofs.Ytjgcdjfeglhalaa.Srt
