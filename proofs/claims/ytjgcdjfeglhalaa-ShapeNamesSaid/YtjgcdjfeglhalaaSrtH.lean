import Derived.Test.YtjgcdjfeglhalaaSrtE
import Derived.Test.YtjgcdjfeglhalaaBits
import Derived.Sort.LotD1
set_option linter.unusedVariables false
namespace Go.Proofs.Ytjgcdjfeglhalaa.Srt
open Go.RowKit Go.Sort

theorem bitLenAux_le : ∀ (f x : Nat), 0 < x → 2 ^ Lib.bitLenAux f x ≤ 2 * x := by
  intro f
  induction f with
  | zero => intro x hx; simp [Lib.bitLenAux]; omega
  | succ f ih =>
    intro x hx
    rw [Lib.bitLenAux, if_neg (by omega)]
    by_cases h : x / 2 = 0
    · have : Lib.bitLenAux f (x / 2) = 0 := by
        rw [h]; cases f <;> simp [Lib.bitLenAux]
      rw [this]; omega
    · have := ih (x / 2) (by omega)
      rw [Nat.add_comm, Nat.pow_succ]
      omega
theorem bitLen_bound {x : Nat} (hx : 0 < x) (hx2 : x < 4611686018427387904) : 2 ^ Lib.bitLen x ≤ 2 * x ∧ Lib.bitLen x ≤ 63 := by
  have h := bitLenAux_le 64 x hx
  refine ⟨h, ?_⟩
  rcases Nat.lt_or_ge 63 (Lib.bitLen x) with hl | hl
  · have : 2 ^ 64 ≤ 2 ^ Lib.bitLen x := Nat.pow_le_pow_right (by omega) hl
    have h' : 2 ^ Lib.bitLen x ≤ 2 * x := h
    omega
  · exact hl

theorem npt_calls (n : Nat) (hx : 0 < n) (hx2 : n < 4611686018427387904) (w : World) :
    Calls Try.prog 41 #[.int .i64 n] w fun e w' => ∃ M : Nat, e = .returned (.int .u64 M) ∧ 1 ≤ M ∧ M ≤ 2 * n ∧ w' = w := by
  have hl := fun w => bits_Len (n : Int) w (by omega) (by omega)
  simp only [Int.toNat_natCast] at hl
  obtain ⟨hp, hl63⟩ := bitLen_bound hx hx2
  obtain ⟨L, hL⟩ : ∃ L, Lib.bitLen n = L := ⟨_, rfl⟩
  rw [hL] at hp hl63
  simp only [hL] at hl
  clear hL
  have hM : IntKind.u64.wrap (2 ^ L) = ((2 ^ L : Nat) : Int) := by
    have h1 : ((2 ^ L : Nat) : Int) = (2 : Int) ^ L := by simp
    rw [← h1]
    have h2 : (2 ^ L : Nat) < 18446744073709551616 := by omega
    generalize (2 ^ L : Nat) = M at h2
    simp [IntKind.wrap, IntKind.bits, IntKind.signed]
    omega
  have h1 : 1 ≤ 2 ^ L := Nat.one_le_two_pow
  have HM : Hid (IntKind.u64.wrap (2 ^ L) = ((2 ^ L : Nat) : Int)) := hM
  clear hM
  go_enter Try.func41, Try.ntmps41
  go_wp2_with (go_at_call 23; refine (hl _).mono ?_; rintro e w1 ⟨rfl, rfl⟩)
  go_ret
  exact ⟨2 ^ L, by rw [← HM.out]; rfl, h1, hp, rfl⟩

/-- What a number of 64 bits may be. -/
def U64 (r : Int) : Prop := 0 ≤ r ∧ r < 18446744073709551616
theorem wrap_u64 (z : Int) : U64 (IntKind.u64.wrap z) := by
  unfold U64
  simp [IntKind.wrap, IntKind.bits, IntKind.signed]
  omega
theorem bits_u64 (op : BinOp) (x y : Int) : U64 (bits op .u64 x y) := wrap_u64 _
theorem and_u64 (x : Int) (m : Nat) (hm : m < 18446744073709551616) : 0 ≤ bits .and .u64 x m ∧ bits .and .u64 x m ≤ m := by
  refine ⟨(bits_u64 _ _ _).1, ?_⟩
  have h1 : (BitVec.ofInt 64 x &&& BitVec.ofInt 64 (m : Int)).toNat ≤ m := by
    rw [BitVec.toNat_and]
    refine Nat.le_trans Nat.and_le_right ?_
    simp
    omega
  have h2 : bits .and .u64 x m = IntKind.u64.wrap ((BitVec.ofInt 64 x &&& BitVec.ofInt 64 (m : Int)).toNat : Int) := rfl
  rw [h2]
  generalize (BitVec.ofInt 64 x &&& BitVec.ofInt 64 (m : Int)).toNat = z at h1
  simp [IntKind.wrap, IntKind.bits, IntKind.signed]
  omega

/-- The generator's state stands in a block of its own behind the heap of X. -/
def Rnd (X : World) (r : Int) (wr : World) : Prop := ∃ n, wr = grow (Sort.ahead X n) #[.cells #[.int .u64 r] 72 (0, 0)]
theorem rnd_cell {X wr : World} {r : Int} (h : Rnd X r wr) : wr.cell? ⟨X.heap.size, 0, none⟩ = some (.int .u64 r) ∧ wr.frozen? ⟨X.heap.size, 0, none⟩ = false := by
  obtain ⟨n, rfl⟩ := h
  exact ⟨by simp [World.cell?, grow], by simp [World.frozen?, grow]⟩
theorem rnd_drew {X wr : World} {r : Int} (h : Rnd X r wr) : Rnd X r wr.drew := by
  obtain ⟨n, rfl⟩ := h
  exact ⟨n + 1, by rw [drew_grow, ahead_drew]⟩
theorem rnd_set {X wr : World} {r : Int} (h : Rnd X r wr) (r' : Int) : Rnd X r' (wr.setCell ⟨X.heap.size, 0, none⟩ (.int .u64 r')) := by
  obtain ⟨n, rfl⟩ := h
  refine ⟨n, ?_⟩
  rw [setCell_eq, mapBlock_grow_new _ _ _ _ (by simp)]
  simp [onCells]

set_option maxRecDepth 1000000 in
theorem next_calls (X : World) (r : Int) (wr : World) (hR : Rnd X r wr) :
    Calls Try.prog 42 #[.pointer (some ⟨X.heap.size, 0, none⟩)] wr fun e w' => ∃ r' : Int, e = .returned (.int .u64 r') ∧ U64 r' ∧ Rnd X r' w' := by
  have hc := (rnd_cell hR).1
  have hf := (rnd_cell hR).2
  go_enter Try.func42, Try.ntmps42
  go_upto_region 1 with fail
  go_cut [] from 3 (fun wx => ∃ r', Rnd X r' wx)
  case first =>
    go_region
    go_wp2_with fail
    go_meet
    case rel => exact ⟨_, rnd_drew (rnd_set hR _)⟩
  case rest =>
    clear hc hf
    clear hR
    obtain ⟨r1, hR⟩ := hcut
    have hc := (rnd_cell hR).1
    have hf := (rnd_cell hR).2
    go_upto_region 2 with fail
    go_cut [] from 3 (fun wx => ∃ r', Rnd X r' wx)
    case first =>
      go_region
      go_wp2_with fail
      go_meet
      case rel => exact ⟨_, rnd_drew (rnd_set hR _)⟩
    case rest =>
      clear hc hf
      clear hR
      obtain ⟨r1, hR⟩ := hcut
      have hc := (rnd_cell hR).1
      have hf := (rnd_cell hR).2
      go_upto_region 3 with fail
      go_cut [] from 3 (fun wx => ∃ r', U64 r' ∧ Rnd X r' wx)
      case first =>
        go_region
        go_wp2_with fail
        go_meet
        case rel => exact ⟨_, bits_u64 _ _ _, rnd_drew (rnd_set hR _)⟩
      case rest =>
        clear hc hf
        clear hR
        obtain ⟨r1, hU, hR⟩ := hcut
        have hc := (rnd_cell hR).1
        go_wp2_with fail
        go_ret
        exact ⟨r1, rfl, hU, hR⟩
#print axioms next_calls

/-- The row holds d; behind the heap of w these blocks, which nothing has touched. -/
def AtO (w : World) (blk off : Nat) (d : Array Int) (r : Int) (wr : World) : Prop := ∃ n, wr = grow (putRow encU (Sort.ahead w n) blk off d) #[.cells #[.int .u64 r] 72 (0, 0)]
theorem ato_rnd {w wr : World} {blk off : Nat} {d : Array Int} {r : Int} (h : AtO w blk off d r wr) : ∃ X : World, X.heap.size = w.heap.size ∧ Rnd X r wr ∧ ∀ r' w', Rnd X r' w' → AtO w blk off d r' w' := by
  obtain ⟨n, rfl⟩ := h
  refine ⟨putRow encU (Sort.ahead w n) blk off d, by simp, ⟨0, by rw [ahead_zero]⟩, ?_⟩
  rintro r' w' ⟨m, rfl⟩
  exact ⟨n + m, by rw [putRow_ahead, ahead_ahead, ← putRow_ahead]⟩
theorem ato_at {w wr : World} {blk off : Nat} {d : Array Int} {r : Int} (h : AtO w blk off d r wr) : At encU w blk off d wr := by
  obtain ⟨n, rfl⟩ := h
  exact ⟨n, _, rfl⟩
theorem ato_swap {w wr : World} {blk off : Nat} {d : Array Int} {r : Int} {G : Nat → Int} (h : AtO w blk off d r wr) (hb : blk < w.heap.size) (hG : ∀ t, G t = d[t]!) (q i j : Nat) (hi : i < d.size) (hj : j < d.size) :
    AtO w blk off (swp d i j) r (((wr.drewN q).setCell ⟨blk, off + i, none⟩ (.int .u16 (G j))).setCell ⟨blk, off + j, none⟩ (.int .u16 (G i))) := by
  obtain ⟨n, rfl⟩ := h
  refine ⟨n + q, ?_⟩
  have e1 : (grow (putRow encU (Sort.ahead w n) blk off d) #[.cells #[.int .u64 r] 72 (0, 0)]).drewN q = grow (putRow encU (Sort.ahead w (n + q)) blk off d) #[.cells #[.int .u64 r] 72 (0, 0)] := by
    show Sort.ahead (grow (putRow encU (Sort.ahead w n) blk off d) _) q = _
    rw [ahead_grow, putRow_ahead, ahead_ahead, ← putRow_ahead]
  rw [e1, ← putRow_grow _ _ _ _ _ _ (by simpa using hb), hG, hG, putRow_swp encU _ blk off d i j hi hj, putRow_grow _ _ _ _ _ _ (by simpa using hb)]

set_option maxRecDepth 1000000 in
set_option maxHeartbeats 3200000 in
theorem breakPatterns_calls (blk off cap a b : Nat) (d : Array Int) (w : World) (hH : Holds encU w blk off d) (hblk : blk < w.heap.size) (hab : a ≤ b) (hb : b ≤ d.size) (hsz : d.size < 4611686018427387904) :
    Calls Try.prog 29 #[.slice (some ⟨blk, off, none⟩) d.size cap, .int .i64 a, .int .i64 b] w fun e w' =>
      e = .returned (.tuple #[]) ∧ ∃ d', PermIn a b d d' ∧ At encU w blk off d' w' := by
  go_enter Try.func29, Try.ntmps29
  by_cases h8 : 8 ≤ b - a
  · have h8z : 8 ≤ (b : Int) - (a : Int) := by omega
    obtain ⟨L, hL⟩ : ∃ L : Nat, (b : Int) - (a : Int) = (L : Int) := ⟨b - a, by omega⟩
    have hLn : b - a = L := by omega
    obtain ⟨i0, hi0⟩ : ∃ i0 : Nat, (a : Int) + ((b : Int) - (a : Int)) / 4 * 2 - 1 = (i0 : Int) := ⟨a + (b - a) / 4 * 2 - 1, by omega⟩
    have hi0r : a ≤ i0 ∧ i0 + 2 < b := by omega
    go_wp2_with (first | (go_at_call 41; refine (npt_calls L (by omega) (by omega) _).mono ?_; rintro e w1 ⟨M, rfl, hM1, hM2, rfl⟩))
    obtain ⟨m, rfl⟩ : ∃ m, M = m + 1 := ⟨M - 1, by omega⟩
    have hA0 : AtO w blk off d L (w.alloc (Obj.cells #[Value.int IntKind.u64 ↑L] 72)) := ⟨0, by rw [ahead_zero, putRow_self encU w blk off d hH, alloc_eq_grow]⟩
    go_loopg [9] (i0 + 3) (fun k s9 wr => ∃ (i : Nat) (dk : Array Int) (r : Int), s9 = .int .i64 i ∧ i0 ≤ i ∧ i ≤ i0 + 3 ∧ i0 + 3 - i ≤ k ∧ PermIn a b d dk ∧ AtO w blk off dk r wr)
    case atStart => exact ⟨i0, d, L, by congr 1; omega, Nat.le_refl _, by omega, by omega, permIn_refl d a b, hA0⟩
    case round =>
      clear hA0
      obtain ⟨i, dk, r, rfl, hi1, hi2, hk, hP, hwr⟩ := hrel
      have hds : dk.size = d.size := hP.1
      by_cases hi : i < i0 + 3
      · have hz : (i : Int) ≤ (a : Int) + (L : Int) / 4 * 2 + 1 := by omega
        obtain ⟨X, hX, hR, hback⟩ := ato_rnd hwr
        have hc := next_calls X r _ hR
        rw [hX] at hc
        go_upto_region 7 with fail
        go_cut [10] from 26 to 40 (fun s10 wx => ∃ (o : Nat) (r' : Int), s10 = .int .i64 o ∧ o < 2 * L ∧ AtO w blk off dk r' wx)
        case first =>
          go_wp2_with (go_at_call 42; refine hc.mono ?_; rintro e w2 ⟨r', rfl, hU, hR'⟩)
          go_meet
          case rel =>
            have ha := and_u64 r' m (by omega)
            have hb2 := hback r' w2 hR'
            have hw : wrap64 (bits BinOp.and IntKind.u64 r' (m : Int)) = ((bits BinOp.and IntKind.u64 r' (m : Int)).toNat : Int) := by
              generalize bits BinOp.and IntKind.u64 r' (m : Int) = z at ha
              unfold wrap64
              omega
            exact ⟨(bits BinOp.and IntKind.u64 r' (m : Int)).toNat, r', by rw [hw], by omega, hb2⟩
        case rest =>
          clear hc hR
          clear hback hX
          clear X hwr
          obtain ⟨o, r', rfl, ho, hwr⟩ := hcut
          go_upto_if 43 with fail
          go_cut [10] from 26 to 46 (fun s10 wx => ∃ (o' : Nat), s10 = .int .i64 o' ∧ o' < L ∧ AtO w blk off dk r' wx)
          case first =>
            by_cases hoL : L ≤ o
            · have hoz : (L : Int) ≤ (o : Int) := by omega
              go_wp2_with fail
              go_meet
              case rel => exact ⟨o - L, by congr 1; omega, by omega, hwr⟩
            · have hoz : ¬ ((L : Int) ≤ (o : Int)) := by omega
              go_wp2_with fail
              go_meet
              case rel => exact ⟨o, rfl, by omega, hwr⟩
          case rest =>
            clear hwr
            obtain ⟨o', rfl, ho', hwr⟩ := hcut
            obtain ⟨q, hq⟩ : ∃ q : Nat, (a : Int) + (o' : Int) = (q : Int) := ⟨a + o', by omega⟩
            have hqr : a ≤ q ∧ q < b := by omega
            obtain ⟨G, hG, hcw, hfw, hbw⟩ := At.cells (ato_at hwr) hH hds hblk
            have HG : Hid (∀ t, G t = dk[t]!) := hG
            clear hG
            have hP2 : Hid (PermIn a b d (swp dk i q)) := hid (permIn_trans _ _ _ _ _ hP (swp_permIn dk a b i q (by omega) (by omega) (by omega) (by omega) (by omega)))
            have hir : i < d.size ∧ q < d.size := by omega
            have hk2 : i0 + 3 - (i + 1) < gk := by omega
            clear hz hP ho' hL hLn h8z h8 hM1 hM2 hi0 ho
            go_wp2_with fail
            rcases Nat.lt_trichotomy i q with hlt | hlt | hlt
            · go_region
              go_wp2_with fail
              go_roundg (i0 + 3 - (i + 1))
              case measure => omega
              case rel => exact ⟨i + 1, _, r', by simp, by omega, by omega, Nat.le_refl _, hP2.out, ato_swap hwr hblk HG.out 1 i q (by omega) (by omega)⟩
            · subst hlt
              go_region
              go_wp2_with fail
              go_roundg (i0 + 3 - (i + 1))
              case measure => omega
              case rel => exact ⟨i + 1, _, r', by simp, by omega, by omega, Nat.le_refl _, hP2.out, ato_swap hwr hblk HG.out 1 i i (by omega) (by omega)⟩
            · go_region
              go_wp2_with fail
              go_roundg (i0 + 3 - (i + 1))
              case measure => omega
              case rel => exact ⟨i + 1, _, r', by simp, by omega, by omega, Nat.le_refl _, hP2.out, ato_swap hwr hblk HG.out 1 i q (by omega) (by omega)⟩
      · have hz : ¬ ((i : Int) ≤ (a : Int) + (L : Int) / 4 * 2 + 1) := by omega
        go_wp2_with fail
        go_end0
        exact ⟨rfl, dk, hP, ato_at hwr⟩
  · have h8z : ¬ (8 ≤ (b : Int) - (a : Int)) := by omega
    go_wp2_with fail
    go_end0
    exact ⟨rfl, d, permIn_refl d a b, At.refl hH⟩
#print axioms breakPatterns_calls
end Go.Proofs.Ytjgcdjfeglhalaa.Srt
