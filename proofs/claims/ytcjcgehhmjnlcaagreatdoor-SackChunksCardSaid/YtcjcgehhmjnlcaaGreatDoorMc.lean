/- Joined: Cur, Pek, Num, Siz, Cks, Ckv, Ckw. -/
import Derived.Test.YtcjcgehhmjnlcaaGreatDoorMa
import Derived.StillTailTactics
import Derived.Lib.QuietBelow
import Derived.Test.YtcjcgehhmjnlcaaGreatDoorMb
/- 'slices.Clone' of bytes; the cursor over bytes: 'wire.New', 'Left', 'Peek', 'Number'. -/
set_option linter.unusedVariables false
namespace Go.Proofs.YtcjcgehhmjnlcaaGreatDoor
open Go.RowKit Go.Shelf Go.Proofs.YtcjcgehhmjnlcaaGreatDoor.It Go.Proofs.YtcjcgehhmjnlcaaGreatDoorW.PrintWords

theorem infoB : (Tryz.prog.info? 5).map (fun i => (i.zero, i.size, i.bytes)) = some (some (.int .u8 0), 1, 1) := by kernel_rfl
/-- New bytes of the call's own. -/
def OwnB (w : World) (base : Nat) (v : Value) (l : List Int) : Prop := w.ownsRow base 5 1 v l.length (l.map (Value.int .u8))
def BytesPost (l : List Int) (w : World) (e : Ending) (w' : World) : Prop := ∃ v : Value, e = .returned v ∧ OwnB w' w.heap.size v l ∧ Below w.heap.size w w'
theorem news_of {k : IntKind} {w : World} {ad : Addr} {l : List Int} (h : Kd.C (Kd.int k) w (some ad) l.length l) : ∀ j u, (l.map (Value.int k))[j]? = some u → w.cell? (ad.add j) = some u := by
  intro j u hu
  rw [List.getElem?_map, Option.map_eq_some_iff] at hu
  obtain ⟨p, hp, rfl⟩ := hu
  have hlt := (List.getElem?_eq_some_iff.1 hp).1
  obtain ⟨ad', e, hc⟩ := h.2.2 (by omega)
  cases e
  obtain ⟨c, hs, hK, hcell⟩ := hc j p hp
  have hK' : c = [.int k p] := hK
  have := hcell 0 _ (by rw [hK']; rfl)
  simpa only [Kd.int, Kd.scalar, Nat.mul_one, Nat.add_zero] using this
theorem own_slice {w : World} {base : Nat} {v : Value} {l : List Int} (h : OwnB w base v l) : ∃ A c, v = .slice A l.length c ∧ l.length ≤ c ∧ BC w A l ∧ ∀ ad, A = some ad → ad.block < w.heap.size := by
  obtain ⟨A, c, e, hl, hr⟩ := Kd.R_reads (R_of_own (k := .u8) h)
  refine ⟨A, c, e, hl, hr, fun ad ha => ?_⟩
  subst ha
  rcases h.2 with ⟨h1, _⟩ | ⟨g, cap, cur, h1, _, hg, _⟩
  · rw [e] at h1; cases h1
  · rw [e] at h1
    cases h1
    exact (Array.getElem?_eq_some_iff.1 hg).1
end Go.Proofs.YtcjcgehhmjnlcaaGreatDoor
/- '(*wire.Cursor).Peek': the next number. -/
set_option linter.unusedVariables false
namespace Go.Proofs.YtcjcgehhmjnlcaaGreatDoor
open Go.RowKit Go.Shelf Go.Proofs.YtcjcgehhmjnlcaaGreatDoor.It Go.Proofs.YtcjcgehhmjnlcaaGreatDoorW.PrintWords
attribute [local go_sem] Oper.semAt_some

def peekV (k : Nat) (l : List Int) (i : Nat) : Int := if k ≤ l.length - i then numAt (fun t => l.getD t 0) i k else 0
end Go.Proofs.YtcjcgehhmjnlcaaGreatDoor
/- '(*wire.Cursor).Number': the next number is read. -/
set_option linter.unusedVariables false
namespace Go.Proofs.YtcjcgehhmjnlcaaGreatDoor
open Go.RowKit Go.Shelf Go.Proofs.YtcjcgehhmjnlcaaGreatDoor.It Go.Proofs.YtcjcgehhmjnlcaaGreatDoorW.PrintWords

theorem grown_of {w w' : World} (h : Below w.heap.size w w') (row : Option Nat) : w.grownBy w' row := ⟨h.os, h.tape, h.output, h.size, fun k hk _ => h.block k hk⟩
end Go.Proofs.YtcjcgehhmjnlcaaGreatDoor
/- The size of a chunk without nodes. -/
set_option linter.unusedVariables false
namespace Go.Proofs.YtcjcgehhmjnlcaaGreatDoor
open Go.RowKit Go.Proofs.YtcjcgehhmjnlcaaGreatDoorW.PrintWords

set_option maxHeartbeats 1000000 in
theorem sizes_nil (A : Option Addr) (c : Nat) (w : World) : Calls Tryz.prog 121 #[.slice A 0 c] w (IsPost (.int .i64 0) w) := by
  go_enter Tryz.func121, Tryz.ntmps121
  go_wp2_with fail
  go_loopw [10] (fun vi W => vi = .int .i64 0 ∧ W = w.alloc (.cells #[.int .i64 0] 3)) (fun vi _ => 0)
  case atStart => exact ⟨rfl, rfl⟩
  case round =>
    obtain ⟨rfl, rfl⟩ := hrel
    go_wp2_with fail
    go_ret
    exact ⟨rfl, below_alloc (Below.refl _ _) _⟩
set_option maxHeartbeats 1000000 in
theorem tsize_nil (A : Option Addr) (c : Nat) (w : World) : Calls Tryz.prog 95 #[.slice A 0 c] w (IsPost (.int .i64 0) w) := by
  go_enter Tryz.func95, Tryz.ntmps95
  go_wp2_with fail
  go_loopw [3, 8] (fun v vi W => v = .slice none 0 0 ∧ vi = .int .i64 0 ∧ W = w) (fun v vi _ => 0)
  case atStart => exact ⟨rfl, rfl, rfl⟩
  case round =>
    obtain ⟨rfl, rfl, rfl⟩ := hrel
    go_wp2_with fail
    refine (sizes_nil _ _ _).mono ?_
    rintro e w1 ⟨rfl, hb⟩
    go_wp2_with fail
    go_ret
    exact ⟨rfl, hb⟩
set_option maxHeartbeats 1000000 in
theorem nsize_nil (A : Option Addr) (c : Nat) (w : World) : Calls Tryz.prog 52 #[.slice A 0 c] w (IsPost (.int .i64 0) w) := by
  go_enter Tryz.func52, Tryz.ntmps52
  go_wp2_with fail
  go_loopw [3, 8] (fun v vi W => v = .slice none 0 0 ∧ vi = .int .i64 0 ∧ W = w) (fun v vi _ => 0)
  case atStart => exact ⟨rfl, rfl, rfl⟩
  case round =>
    obtain ⟨rfl, rfl, rfl⟩ := hrel
    go_wp2_with fail
    refine (tsize_nil _ _ _).mono ?_
    rintro e w1 ⟨rfl, hb⟩
    go_wp2_with fail
    go_ret
    exact ⟨rfl, hb⟩
set_option maxHeartbeats 1000000 in
/-- The size of a chunk, from the size of its nodes. -/
theorem csize_of (t f : Int) (A K : Option Addr) (n c m d : Nat) (s : Int) (w : World) (hn : n ≤ 1099511627776) (h0 : 0 ≤ s) (h1 : s ≤ 1099511627776) (hK : ∀ W, Below w.heap.size w W → Calls Tryz.prog 52 #[.slice K m d] W (IsPost (.int .i64 s) W)) :
    Calls Tryz.prog 18 #[.agg #[.int .u8 t, .int .u8 f, .slice A n c, .slice K m d]] w (IsPost (.int .i64 (4 + n + s)) w) := by
  obtain ⟨W0, hW0⟩ : ∃ W0, W0 = w.alloc (.cells #[.int .u8 t, .int .u8 f, .slice A n c, .slice K m d] 35) := ⟨_, rfl⟩
  have hB0 : Below w.heap.size w W0 := by rw [hW0]; exact below_alloc (Below.refl _ _) _
  have hc : W0.heap[w.heap.size]? = some (.cells #[.int .u8 t, .int .u8 f, .slice A n c, .slice K m d] 35 (0, 0)) := by rw [hW0]; exact blk_new _ _
  obtain ⟨⟨c0, c1, c2, c3⟩, -⟩ := four hc
  have r2 := fun d os => cell_regrown c2 d os
  have r3 := fun d os => cell_regrown c3 d os
  have hcall : ∀ d0 os, Calls Tryz.prog 52 #[.slice K m d] (Go.Sort.grow (redrawn W0 d0) os) fun e w'' => e = .returned (.int .i64 s) ∧ ∃ p : Regrown, w'' = Go.Sort.grow (redrawn W0 p.d) p.os := fun d0 os => Calls.regrown_of (hK _ (cthen hB0 (below_regrown W0 d0 os)))
  have hE := hid (show IntKind.i64.wrap (IntKind.i64.wrap (4 + (n : Int)) + s) = 4 + n + s by rw [IntWalk.i64_in (4 + (n : Int)) (by omega), IntWalk.i64_in _ (by omega)])
  have HC := hid hcall
  have HB := hid hB0
  have HW := hid hW0
  clear hcall hB0 hW0 hc hK c0 c1 c2 c3
  go_enter Tryz.func18, Tryz.ntmps18
  go_wp2_with fail
  rw [← HW.out]
  clear HW
  refine wp_region_quiet_below (by kernel_rfl) (by kernel_rfl) ?_
  repeat (quiet_step (exact HC.out _ _))
  refine wpQuiet_nil ?_
  intro _ hw'
  obtain ⟨⟨dq, osq⟩, hw''⟩ := hw'
  subst hw''
  go_wp2_with fail
  go_ret
  exact ⟨by rw [← hE.out]; rfl, cthen HB.out (below_regrown _ _ _)⟩
theorem csize_nil (t f : Int) (A K : Option Addr) (n c d : Nat) (w : World) (hn : n ≤ 1099511627776) :
    Calls Tryz.prog 18 #[.agg #[.int .u8 t, .int .u8 f, .slice A n c, .slice K 0 d]] w (IsPost (.int .i64 (4 + n)) w) := by
  have := csize_of t f A K n c 0 d 0 w hn (by omega) (by omega) (fun W _ => nsize_nil K d W)
  rwa [Int.add_zero] at this
end Go.Proofs.YtcjcgehhmjnlcaaGreatDoor
/- The checks of a chunk, each by its contract: flags, data, the numbers in a sack. -/
set_option linter.unusedVariables false
namespace Go.Proofs.YtcjcgehhmjnlcaaGreatDoor
open Go.RowKit Go.Proofs.YtcjcgehhmjnlcaaGreatDoor.It Go.Proofs.YtcjcgehhmjnlcaaGreatDoorW.PrintWords

/-- A chunk as a value; its data and its nodes are slices. -/
def ckV (t f : Int) (A : Option Addr) (n c : Nat) (K : Option Addr) (m d : Nat) : Value := .agg #[.int .u8 t, .int .u8 f, .slice A n c, .slice K m d]
/-- What a check says: 'x' is the error, none if there is none. -/
def ErrPost (x : Option (Int × Option Int)) (w : World) (e : Ending) (w' : World) : Prop := e = .returned (eV x) ∧ Below w.heap.size w w'
def badFlags (f mask : Int) : Bool := bits .andNot .u8 f mask != 0
def flagsE (f mask : Int) : Option (Int × Option Int) := if badFlags f mask = true then some (6, some 1) else none
set_option maxHeartbeats 1000000 in
theorem flags_any (t f : Int) (A K : Option Addr) (n c m d : Nat) (r : KR) (w : World) :
    Calls Tryz.prog 62 #[ckV t f A n c K m d, r.val] w (ErrPost (flagsE f r.mask) w) := by
  unfold ckV KR.val flagsE badFlags
  by_cases h : (bits .andNot .u8 f r.mask != 0) = true
  · rw [if_pos h]
    have H := hid h
    go_enter Tryz.func62, Tryz.ntmps62
    go_wp2_with fail
    refine (new_any _ _ _).mono ?_
    rintro e w' ⟨rfl, rfl⟩
    go_wp2_with fail
    go_ret
    exact ⟨rfl, by repeat (first | with_reducible exact Below.refl _ _ | with_reducible apply below_alloc)⟩
  · rw [if_neg h]
    have h' : (bits .andNot .u8 f r.mask != 0) = false := by simpa using h
    clear h
    go_enter Tryz.func62, Tryz.ntmps62
    go_wp2_with fail
    go_ret
    exact ⟨rfl, by repeat (first | with_reducible exact Below.refl _ _ | with_reducible apply below_alloc)⟩
/-- Whether a number of bytes fits. -/
def fits (lo hi un n : Int) : Bool := decide (n ≥ lo) && decide (n ≤ hi) && ((n - lo) % un == 0)
set_option maxHeartbeats 1000000 in
theorem kfits_any (t mask : Int) (nm : ByteArray) (lo hi un kd n : Int) (w : World) (h1 : 0 ≤ lo) (h2 : hi ≤ 65531) (h3 : 1 ≤ un) (h4 : un ≤ 8) :
    Calls Tryz.prog 102 #[.agg #[.int .u8 t, .string nm, .int .u8 mask, .int .i64 lo, .int .i64 hi, .int .i64 un, .int .i64 kd], .int .i64 n] w (IsPost (.bool (fits lo hi un n)) w) := by
  go_enter Tryz.func102, Tryz.ntmps102
  by_cases c1 : n ≥ lo
  · by_cases c2 : n ≤ hi
    · have hr : 0 ≤ n - lo ∧ n - lo < 65532 := by omega
      have E : fits lo hi un n = ((n - lo) % un == 0) := by unfold fits; simp [c1, c2]
      go_wp2_with fail
      go_ret
      exact ⟨by first | rfl | (rw [E]; rfl), by repeat (first | with_reducible exact Below.refl _ _ | with_reducible apply below_alloc)⟩
    · have E : fits lo hi un n = false := by unfold fits; simp [c2]
      go_wp2_with fail
      go_ret
      exact ⟨by first | rfl | (rw [E]; rfl), by repeat (first | with_reducible exact Below.refl _ _ | with_reducible apply below_alloc)⟩
  · have E : fits lo hi un n = false := by unfold fits; simp [c1]
    go_wp2_with fail
    go_ret
    exact ⟨by first | rfl | (rw [E]; rfl), by repeat (first | with_reducible exact Below.refl _ _ | with_reducible apply below_alloc)⟩
/-- A row of the table is as a row may be. -/
def KR.ok (r : KR) : Prop := 0 ≤ r.least ∧ r.most ≤ 65531 ∧ 1 ≤ r.unit ∧ r.unit ≤ 8 ∧ 0 ≤ r.kids ∧ r.kids ≤ 6 ∧ r.least ≤ 17 ∧ 0 ≤ r.mask ∧ r.mask ≤ 255 ∧ 0 ≤ r.ty ∧ r.ty ≤ 255
theorem kR_ok (i : Nat) (h : i < 23) : (kR i).ok := by
  have : ∀ i, i < 23 → (kR i).ok := by unfold KR.ok; decide
  exact this i h
def dataE (r : KR) (n : Nat) : Option (Int × Option Int) := if fits r.least r.most r.unit n = true then none else some (7, some 0)
set_option maxHeartbeats 1000000 in
theorem data_any (t f : Int) (A K : Option Addr) (n c m d : Nat) (r : KR) (hr : r.ok) (w : World) :
    Calls Tryz.prog 63 #[ckV t f A n c K m d, r.val] w (ErrPost (dataE r n) w) := by
  obtain ⟨r1, r2, r3, r4, -⟩ := hr
  have hf := fun W => kfits_any r.ty r.mask r.nm r.least r.most r.unit r.kids n W r1 r2 r3 r4
  have HF := hid hf
  clear hf r1 r2 r3 r4
  unfold ckV KR.val dataE
  cases h : fits r.least r.most r.unit n
  · rw [if_neg (by decide)]
    have H := hid h
    clear h
    go_enter Tryz.func63, Tryz.ntmps63
    go_wp2_with fail
    refine (HF.out _).mono ?_
    rintro e w' ⟨rfl, hb⟩
    rw [H.out]
    have HB := hid hb
    clear hb
    go_wp2_with fail
    refine (new_any _ _ _).mono ?_
    rintro e w' ⟨rfl, rfl⟩
    go_wp2_with fail
    go_ret
    exact ⟨rfl, cthen (below_alloc (below_alloc (Below.refl _ _) _) _) HB.out⟩
  · rw [if_pos rfl]
    have H := hid h
    clear h
    go_enter Tryz.func63, Tryz.ntmps63
    go_wp2_with fail
    refine (HF.out _).mono ?_
    rintro e w' ⟨rfl, hb⟩
    rw [H.out]
    have HB := hid hb
    clear hb
    go_wp2_with fail
    go_ret
    exact ⟨rfl, cthen (below_alloc (below_alloc (Below.refl _ _) _) _) HB.out⟩
end Go.Proofs.YtcjcgehhmjnlcaaGreatDoor
/- The check of the nodes of a chunk that has none; of the numbers in a sack; of reserved bits. -/
set_option linter.unusedVariables false
namespace Go.Proofs.YtcjcgehhmjnlcaaGreatDoor
open Go.RowKit Go.Proofs.YtcjcgehhmjnlcaaGreatDoor.It Go.Proofs.YtcjcgehhmjnlcaaGreatDoorW.PrintWords

def kids0E (m : Nat) : Option (Int × Option Int) := if m = 0 then none else some (7, some 0)
set_option maxHeartbeats 1000000 in
theorem kids_none (t f : Int) (A K : Option Addr) (n c m d : Nat) (r : KR) (hk : r.kids = 0) (w : World) (hg : GTab w) (hm : m ≤ 1099511627776) :
    Calls Tryz.prog 64 #[ckV t f A n c K m d, r.val] w (ErrPost (kids0E m) w) := by
  have hi := fun W (hg : GTab W) => kinside_any 0 W (by omega) (by omega) hg
  have HI := hid hi
  have HG := hid hg
  clear hg hi
  unfold ckV KR.val kids0E
  rw [hk]
  by_cases h : m = 0
  · subst h
    rw [if_pos rfl]
    go_enter Tryz.func64, Tryz.ntmps64
    go_wp2_with fail
    refine (HI.out _ (HG.out.below (below_alloc (below_alloc (Below.refl _ _) _) _))).mono ?_
    rintro e w1 ⟨rfl, hb⟩
    have k1 := blk_below (blk_alloc (blk_new w (.cells #[.int .u8 t, .int .u8 f, .slice A n c, .slice K 0 d] 35))) hb
    have k2 := new_blk hb
    simp only [World.size_alloc] at k2
    obtain ⟨⟨-, -, -, c3⟩, -⟩ := four k1
    obtain ⟨⟨-, -, -, -, -, -, d6⟩, -⟩ := seven k2
    have HB := hid hb
    have hs1 : w.heap.size + 1 < w1.heap.size := by have := hb.size; simp at this; omega
    have hs0 : w.heap.size < w1.heap.size := by omega
    clear hb k1 k2 HI HG
    have e1 : (iR 0).2.1 = 0 := rfl
    have e2 : (iR 0).2.2 = 0 := rfl
    rw [e1, e2]
    go_wp2_with fail
    go_ret
    exact ⟨rfl, by repeat (first | with_reducible exact cthen (below_alloc (below_alloc (Below.refl _ _) _) _) HB.out | with_reducible apply below_alloc)⟩
  · rw [if_neg h]
    have h0 : (0 : Int) < (m : Int) := by omega
    go_enter Tryz.func64, Tryz.ntmps64
    go_wp2_with fail
    refine (HI.out _ (HG.out.below (below_alloc (below_alloc (Below.refl _ _) _) _))).mono ?_
    rintro e w1 ⟨rfl, hb⟩
    have k1 := blk_below (blk_alloc (blk_new w (.cells #[.int .u8 t, .int .u8 f, .slice A n c, .slice K m d] 35))) hb
    have k2 := new_blk hb
    simp only [World.size_alloc] at k2
    obtain ⟨⟨-, -, -, c3⟩, -⟩ := four k1
    obtain ⟨⟨-, -, -, -, -, -, d6⟩, -⟩ := seven k2
    have HB := hid hb
    have hs1 : w.heap.size + 1 < w1.heap.size := by have := hb.size; simp at this; omega
    have hs0 : w.heap.size < w1.heap.size := by omega
    clear hb k1 k2 HI HG
    have e1 : (iR 0).2.1 = 0 := rfl
    have e2 : (iR 0).2.2 = 0 := rfl
    rw [e1, e2]
    go_wp2_with fail
    refine (new_any _ _ _).mono ?_
    rintro e w' ⟨rfl, rfl⟩
    go_wp2_with fail
    go_ret
    exact ⟨rfl, by repeat (first | with_reducible exact cthen (below_alloc (below_alloc (Below.refl _ _) _) _) HB.out | with_reducible apply below_alloc)⟩

/-- Part of a row of bytes. -/
theorem BC.part {w : World} {b off : Nat} {l : List Int} (h : ∀ t, t < l.length → w.cell? ⟨b, off + t, none⟩ = some (.int .u8 (l.getD t 0))) (i k : Nat) (hk : i + k ≤ l.length) (hk9 : k ≤ 1000) : BC w (some ⟨b, off + i, none⟩) ((l.drop i).take k) := by
  have hl : ((l.drop i).take k).length = k := by simp; omega
  refine ints_mk (by omega) (fun t ht => ?_)
  have := h (i + t) (by omega)
  rw [← Nat.add_assoc] at this
  rw [this]
  rw [hl] at ht
  simp [List.getD_eq_getElem?_getD, ht, List.getElem?_drop]
theorem Byt.part {l : List Int} (h : Byt l) (i k : Nat) : Byt ((l.drop i).take k) := fun x hx => h x (List.mem_of_mem_drop (List.mem_of_mem_take hx))
/-- Two numbers of two bytes. -/
theorem nums_two (l : List Int) (i : Nat) (hl : i + 4 ≤ l.length) : numsOf 2 ((l.drop i).take 4) = [numAt (fun t => l.getD t 0) i 2, numAt (fun t => l.getD t 0) (i + 2) 2] := by
  have h4 : ((l.drop i).take 4).length = 4 := by simp; omega
  have g : ∀ t, t < 4 → ((l.drop i).take 4)[t]?.getD 0 = l[i + t]?.getD 0 := fun t ht => by simp [ht, List.getElem?_drop]
  unfold numsOf
  rw [h4]
  simp [upto, List.range_succ, numAt, Nat.add_assoc]
theorem num2_bd {l : List Int} (h : Byt l) (i : Nat) : 0 ≤ numAt (fun t => l.getD t 0) i 2 ∧ numAt (fun t => l.getD t 0) i 2 ≤ 65535 := by
  have b : ∀ t, 0 ≤ l.getD t 0 ∧ l.getD t 0 ≤ 255 := fun t => by
    rw [List.getD_eq_getElem?_getD]
    cases hx : l[t]? with
    | none => simp
    | some x => exact h x (List.mem_of_getElem? hx)
  have h1 := b (i + 0)
  have h2 := b (i + 1)
  simp only [numAt]
  omega
/-- Whether the numbers in a sack are wrong. -/
def countB (l : List Int) : Bool := numAt (fun t => l.getD t 0) 8 2 + numAt (fun t => l.getD t 0) 10 2 != ((l.length : Int) - 12) / 4
def countE (t : Int) (l : List Int) : Option (Int × Option Int) := if t = 3 then (if countB l = true then some (8, some 12) else none) else none
set_option maxHeartbeats 1000000 in
theorem count_sack (f : Int) (A K : Option Addr) (c m d : Nat) (l : List Int) (r : KR) (w : World) (hC : BC w A l) (hB : Byt l) (hc : l.length ≤ c) (hl : l.length ≤ 1099511627776) (h12 : 12 ≤ l.length) :
    Calls Tryz.prog 65 #[ckV 3 f A l.length c K m d, r.val] w (ErrPost (countE 3 l) w) := by
  rcases ints_cells hC with rfl | ⟨b, off, rfl, hlt, hcell⟩
  · simp at h12
  unfold ckV KR.val
  obtain ⟨W1, hW1⟩ : ∃ W1, W1 = (w.alloc (.cells #[.int .u8 3, .int .u8 f, .slice (some ⟨b, off, none⟩) l.length c, .slice K m d] 35)).alloc (.cells #[.int .u8 r.ty, .string r.nm, .int .u8 r.mask, .int .i64 r.least, .int .i64 r.most, .int .i64 r.unit, .int .i64 r.kids] 103) := ⟨_, rfl⟩
  have hB1 : Below w.heap.size w W1 := by rw [hW1]; exact below_alloc (below_alloc (Below.refl _ _) _) _
  have hk1 : W1.heap[w.heap.size]? = some (.cells #[.int .u8 3, .int .u8 f, .slice (some ⟨b, off, none⟩) l.length c, .slice K m d] 35 (0, 0)) := by rw [hW1]; exact blk_alloc (blk_new _ _)
  have hP : BC W1 (some ⟨b, off + 8, none⟩) ((l.drop 8).take 4) := (BC.part hcell 8 4 (by omega) (by omega)).below hB1
  have h4 : ((l.drop 8).take 4).length = 4 := by simp; omega
  have hN := Numbers_any 2 (by omega) _ (c - 8) _ W1 hP (hB.part 8 4) (by omega) (by omega) (by rw [h4])
  rw [h4, nums_two l 8 (by omega)] at hN
  have HN := hid hN
  have HW := hid hW1
  have HB1 := hid hB1
  have HK1 := hid hk1
  have hx := num2_bd hB 8
  have hy := num2_bd hB (8 + 2)
  obtain ⟨x, hxe⟩ : ∃ x, x = numAt (fun t => l.getD t 0) 8 2 := ⟨_, rfl⟩
  obtain ⟨y, hye⟩ : ∃ y, y = numAt (fun t => l.getD t 0) (8 + 2) 2 := ⟨_, rfl⟩
  have hw1 : wrap64 ((l.length : Int) - 12) = (l.length : Int) - 12 := IntWalk.wrap64_in _ (by omega)
  have hw2 : wrap64 ((wrap64 ((l.length : Int) - 12)).tdiv 4) = ((l.length : Int) - 12) / 4 := by
    rw [hw1, Int.tdiv_eq_ediv_of_nonneg (by omega)]
    exact IntWalk.wrap64_in _ (by omega)
  have hE : countE 3 l = if (x + y != wrap64 ((wrap64 ((l.length : Int) - 12)).tdiv 4)) = true then some (8, some 12) else none := by unfold countE countB; rw [if_pos rfl, hw2, hxe, hye]
  rw [← hxe] at hx
  rw [← hye] at hy
  rw [← hxe, ← hye] at HN
  rw [hE]
  have hc8 : 8 < c := by omega
  have hc12 : 12 ≤ c := by omega
  have hd4 : (0 : Int) ≤ (l.length : Int) - 12 := by omega
  clear hC hB hl hcell hW1 hB1 hk1 hP h4 hN hxe hye hE hw1 hw2
  by_cases hxy : (x + y != wrap64 ((wrap64 ((l.length : Int) - 12)).tdiv 4)) = true
  · rw [if_pos hxy]
    go_enter Tryz.func65, Tryz.ntmps65
    go_wp2_with fail
    rw [← HW.out]
    refine HN.out.mono ?_
    rintro e w2 ⟨v, rfl, hR, hb⟩
    obtain ⟨A2, c2, rfl, hl2, hC2⟩ := Kd.R_reads hR
    have hk2 := blk_below HK1.out hb
    obtain ⟨⟨-, -, d2, -⟩, -⟩ := four hk2
    rcases ints_cells hC2 with h0 | ⟨b2, off2, rfl, hlt2, hcell2⟩
    · cases h0
    have x0 := hcell2 0 (by simp)
    have x1 := hcell2 1 (by simp)
    simp at x0 x1
    have HB2 := hid (cthen HB1.out hb)
    clear hR hl2 hC2 hcell2 hb hk2 HN HK1 HB1
    go_wp2_with fail
    go_quiet (fail)
    go_wp2_with fail
    refine (new_any _ _ _).mono ?_
    rintro e w' ⟨rfl, rfl⟩
    go_wp2_with fail
    go_ret
    exact ⟨rfl, below_drew HB2.out _⟩
  · rw [if_neg hxy]
    have hxy' : (x + y != wrap64 ((wrap64 ((l.length : Int) - 12)).tdiv 4)) = false := by simpa using hxy
    clear hxy
    go_enter Tryz.func65, Tryz.ntmps65
    go_wp2_with fail
    rw [← HW.out]
    refine HN.out.mono ?_
    rintro e w2 ⟨v, rfl, hR, hb⟩
    obtain ⟨A2, c2, rfl, hl2, hC2⟩ := Kd.R_reads hR
    have hk2 := blk_below HK1.out hb
    obtain ⟨⟨-, -, d2, -⟩, -⟩ := four hk2
    rcases ints_cells hC2 with h0 | ⟨b2, off2, rfl, hlt2, hcell2⟩
    · cases h0
    have x0 := hcell2 0 (by simp)
    have x1 := hcell2 1 (by simp)
    simp at x0 x1
    have HB2 := hid (cthen HB1.out hb)
    clear hR hl2 hC2 hcell2 hb hk2 HN HK1 HB1
    go_wp2_with fail
    go_quiet (fail)
    go_wp2_with fail
    go_ret
    exact ⟨rfl, below_drew HB2.out _⟩
end Go.Proofs.YtcjcgehhmjnlcaaGreatDoor
/- The check of reserved bits. -/
set_option linter.unusedVariables false
namespace Go.Proofs.YtcjcgehhmjnlcaaGreatDoor
open Go.RowKit Go.Proofs.YtcjcgehhmjnlcaaGreatDoor.It Go.Proofs.YtcjcgehhmjnlcaaGreatDoorW.PrintWords

set_option maxHeartbeats 1000000 in
theorem value_not (t f : Int) (A K : Option Addr) (n c m d : Nat) (r : KR) (w : World) (ht : t ≠ 64) (ht2 : t ≠ 194) :
    Calls Tryz.prog 66 #[ckV t f A n c K m d, r.val] w (ErrPost none w) := by
  have h3 : (t == 64) = false := by simpa using ht
  have h4 : (t == 194) = false := by simpa using ht2
  clear ht ht2
  unfold ckV KR.val
  go_enter Tryz.func66, Tryz.ntmps66
  go_wp2_with fail
  go_ret
  exact ⟨rfl, below_alloc (below_alloc (Below.refl _ _) _) _⟩
end Go.Proofs.YtcjcgehhmjnlcaaGreatDoor
