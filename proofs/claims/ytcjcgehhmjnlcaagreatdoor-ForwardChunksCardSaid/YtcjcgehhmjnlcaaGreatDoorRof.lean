/- 'wharfref16.Of': the skips of the reference implementation. -/
import Derived.Test.YtcjcgehhmjnlcaaGreatDoorGvn
import Derived.Test.YtcjcgehhmjnlcaaGreatDoorOpg
import Derived.Test.YtcjcgehhmjnlcaaGreatDoorQfo
set_option linter.unusedVariables false
set_option linter.unusedSimpArgs false
namespace Go.Proofs.YtcjcgehhmjnlcaaGreatDoor
open Go.RowKit Go.Shelf Go.Proofs.YtcjcgehhmjnlcaaGreatDoor.It Go.Proofs.YtcjcgehhmjnlcaaGreatDoorW.PrintWords Go.Proofs.YtcjcgehhmjnlcaaGreatDoorW.PrintLast Go.Proofs.YtcjcgehhmjnlcaaGreatDoorW.PrintMore
section
open PForwardChunks
theorem rd_at (D : List Int) (i : Nat) : rd D (i : Int) = D.getD i 0 := by simp [rd]
theorem num_step (a b : Int) (ha : 0 ≤ a) (hb : a * 256 + b ≤ 4294967295) (h0 : 0 ≤ b) (h1 : b ≤ 255) : ((a * 256 % 4294967296) + b % 4294967296) % 4294967296 = a * 256 + b := by omega
theorem number4_f {D : List Int} (hB : Byt D) (i : Nat) (hi : i + 4 ≤ D.length) (hl : D.length ≤ 1000000) : Ev (fun k => wharfref01_Number.f k D (i : Int) 4) (peekV 4 D i, true) := by
  have h0 := byt_at hB i (by omega)
  have h1 := byt_at hB (i + 1) (by omega)
  have h2 := byt_at hB (i + 2) (by omega)
  have h3 := byt_at hB (i + 3) (by omega)
  have w0 : wrap64 ((i : Int) + 0) = ((i : Nat) : Int) := by unfold wrap64; omega
  have w1 : wrap64 ((i : Int) + 1) = ((i + 1 : Nat) : Int) := by unfold wrap64; omega
  have w2 : wrap64 ((i : Int) + 2) = ((i + 2 : Nat) : Int) := by unfold wrap64; omega
  have w3 : wrap64 ((i : Int) + 3) = ((i + 3 : Nat) : Int) := by unfold wrap64; omega
  have w4 : wrap64 ((i : Int) + 4) = ((i + 4 : Nat) : Int) := by unfold wrap64; omega
  have W0 := hid w0
  have W1 := hid w1
  have W2 := hid w2
  have W3 := hid w3
  have W4 := hid w4
  clear w0 w1 w2 w3 w4
  have c0 : ((i : Nat) : Int) < (D.length : Int) := by omega
  have c1 : ((i + 1 : Nat) : Int) < (D.length : Int) := by omega
  have c2 : ((i + 2 : Nat) : Int) < (D.length : Int) := by omega
  have c3 : ((i + 3 : Nat) : Int) < (D.length : Int) := by omega
  have c4 : ¬ (((i + 4 : Nat) : Int) > (D.length : Int)) := by omega
  have z0 : (0 : Int) ≤ ((i : Nat) : Int) := by omega
  have z1 : (0 : Int) ≤ ((i + 1 : Nat) : Int) := by omega
  have z2 : (0 : Int) ≤ ((i + 2 : Nat) : Int) := by omega
  have z3 : (0 : Int) ≤ ((i + 3 : Nat) : Int) := by omega
  have e1 : wrap64 ((0 : Int) + 1) = 1 := by simp [wrap64]
  have e2 : wrap64 ((1 : Int) + 1) = 2 := by simp [wrap64]
  have e3 : wrap64 ((2 : Int) + 1) = 3 := by simp [wrap64]
  have e4 : wrap64 ((3 : Int) + 1) = 4 := by simp [wrap64]
  obtain ⟨a, ha⟩ : ∃ a, a = D.getD i 0 := ⟨_, rfl⟩
  obtain ⟨b, hb⟩ : ∃ b, b = D.getD (i + 1) 0 := ⟨_, rfl⟩
  obtain ⟨c, hc⟩ : ∃ c, c = D.getD (i + 2) 0 := ⟨_, rfl⟩
  obtain ⟨d, hd⟩ : ∃ d, d = D.getD (i + 3) 0 := ⟨_, rfl⟩
  rw [peek_4 hi ha.symm hb.symm hc.symm hd.symm]
  rw [← ha] at h0
  rw [← hb] at h1
  rw [← hc] at h2
  rw [← hd] at h3
  have hr : a * 16777216 + b * 65536 + c * 256 + d = ((a * 256 + b) * 256 + c) * 256 + d := by omega
  have n0 := num_step 0 a (by omega) (by omega) h0.1 h0.2
  have n1 := num_step a b (by omega) (by omega) h1.1 h1.2
  have n2 := num_step (a * 256 + b) c (by omega) (by omega) h2.1 h2.2
  have n3 := num_step ((a * 256 + b) * 256 + c) d (by omega) (by omega) h3.1 h3.2
  simp only [Int.zero_mul, Int.zero_add] at n0
  rw [hr]
  have s4 : Ev (fun k => wharfref01_Number.l0 k D (i : Int) 4 (((a * 256 + b) * 256 + c) * 256 + d) 4) (((a * 256 + b) * 256 + c) * 256 + d, true) := Ev.step (f := fun _ => some (((a * 256 + b) * 256 + c) * 256 + d, true)) (fun k => by simp only [wharfref01_Number.l0]; rw [if_neg (by decide)]) (Ev.now _)
  have s3 : Ev (fun k => wharfref01_Number.l0 k D (i : Int) 4 ((a * 256 + b) * 256 + c) 3) (((a * 256 + b) * 256 + c) * 256 + d, true) := Ev.step (fun k => by simp only [wharfref01_Number.l0]; rw [if_pos (by decide), W3.out, if_pos z3, if_pos c3, e4, rd_at, ← hd, n3]) s4
  have s2 : Ev (fun k => wharfref01_Number.l0 k D (i : Int) 4 (a * 256 + b) 2) (((a * 256 + b) * 256 + c) * 256 + d, true) := Ev.step (fun k => by simp only [wharfref01_Number.l0]; rw [if_pos (by decide), W2.out, if_pos z2, if_pos c2, e3, rd_at, ← hc, n2]) s3
  have s1 : Ev (fun k => wharfref01_Number.l0 k D (i : Int) 4 a 1) (((a * 256 + b) * 256 + c) * 256 + d, true) := Ev.step (fun k => by simp only [wharfref01_Number.l0]; rw [if_pos (by decide), W1.out, if_pos z1, if_pos c1, e2, rd_at, ← hb, n1]) s2
  have s0 : Ev (fun k => wharfref01_Number.l0 k D (i : Int) 4 0 0) (((a * 256 + b) * 256 + c) * 256 + d, true) := Ev.step (fun k => by simp only [wharfref01_Number.l0]; rw [if_pos (by decide), W0.out, if_pos z0, if_pos c0, e1, rd_at, ← ha, Int.zero_mul, show (0 : Int) % 4294967296 = 0 from rfl, Int.zero_add, show a % 4294967296 % 4294967296 = a by omega]) s1
  have sj : Ev (fun k => wharfref01_Number.j0 k D (i : Int) 4 false) (((a * 256 + b) * 256 + c) * 256 + d, true) := Ev.step (fun k => by simp only [wharfref01_Number.j0]; rw [if_neg (by decide)]) s0
  refine Ev.congr (fun k => ?_) sj
  unfold wharfref01_Number.f wharfref01_Right.f
  rw [if_neg (by decide), if_neg (by decide), Option.bind_some, if_pos (by decide), W4.out, decide_eq_false c4]
def words (D : List Int) (n : Nat) : List Int := (List.range n).map (fun j => peekV 4 D (4 * j))
theorem words_len (D : List Int) (n : Nat) : (words D n).length = n := by simp [words]
theorem words_at (D : List Int) (n j : Nat) (h : j < n) : (words D n).getD j 0 = peekV 4 D (4 * j) := by
  unfold words
  rw [List.getD_eq_getElem?_getD, List.getElem?_map, List.getElem?_range h]
  rfl
theorem words_step (D : List Int) (n : Nat) : words D (n + 1) = words D n ++ [peekV 4 D (4 * n)] := by
  unfold words
  rw [List.range_succ, List.map_append]
  rfl
theorem numbers_ev {D : List Int} (hB : Byt D) (q : Nat) (hq : D.length = 4 * q) (hl : D.length ≤ 1000000) : ∀ (d j : Nat), q - j = d → j ≤ q → Ev (fun k => wharfref01_Numbers.l0 k 4 D (words D j) ((4 * j : Nat) : Int)) (words D q) := by
  intro d
  induction d with
  | zero =>
    intro j hd hj
    obtain rfl : j = q := by omega
    refine Ev.step (f := fun _ => some (words D j)) (fun k => ?_) (Ev.now _)
    simp only [wharfref01_Numbers.l0]
    rw [if_neg (by omega)]
  | succ d ih =>
    intro j hd hj
    have h1 := ih (j + 1) (by omega) (by omega)
    have hev := number4_f hB (4 * j) (by omega) hl
    have hw : wrap64 (((4 * j : Nat) : Int) + 4) = ((4 * (j + 1) : Nat) : Int) := by unfold wrap64; omega
    have hw' := hid hw
    clear hw
    rw [words_step] at h1
    have hln : (words D j).length < 35184372088832 := by rw [words_len]; omega
    have hlt : ((4 * j : Nat) : Int) < (D.length : Int) := by omega
    refine Ev.step (fun k => ?_) (Ev.bind (f := fun k (t : Int × Bool) => wharfref01_Numbers.l0 k 4 D (words D j ++ [t.1]) ((4 * (j + 1) : Nat) : Int)) hev h1)
    simp only [wharfref01_Numbers.l0]
    rw [if_pos hlt, hw'.out]
    simp only [hln, if_true]
theorem rnums_any (A : Option Addr) (c q : Nat) (D : List Int) (w : World) (hC : BC w A D) (hB : Byt D) (hc : D.length ≤ c) (hq : D.length = 4 * q) (hl : D.length ≤ 1000000) :
    Calls Tryz.prog 79 #[.int .i64 4, .slice A D.length c] w fun e w' => ∃ A' c', e = .returned (.slice A' q c') ∧ Kd.C (Kd.int .u32) w' A' (words D q).length (words D q) ∧ Below w.heap.size w w' := by
  obtain ⟨k, hk⟩ := (numbers_ev hB q hq hl q 0 (by omega) (by omega)).rounds
  have hf : wharfref01_Numbers.f (k + 1) 4 D = some (words D q) := by
    unfold wharfref01_Numbers.f wharfref01_Right.f
    rw [if_neg (by decide), if_neg (by decide), Option.bind_some, if_pos (by decide), if_neg (by decide)]
    have : ((D.length : Int) % 4 != 0) = false := by simp; omega
    rw [this]
    simp only [wharfref01_Numbers.j0]
    simpa [words] using hk
  refine (wharfref01_Numbers.calls (k + 1) 4 A c D (words D q) w hC hc hf).mono ?_
  rintro e w' ⟨v, rfl, hR, hb⟩
  obtain ⟨A', c', rfl, hlc, hr⟩ := Kd.R_reads hR
  rw [words_len] at hr ⊢
  exact ⟨A', c', rfl, hr, hb⟩
end
theorem peek42 {D : List Int} (hB : Byt D) {i : Nat} (hi : i + 4 ≤ D.length) : peekV 4 D i = peekV 2 D i * 65536 + peekV 2 D (i + 2) := by
  rw [peek_4 hi rfl rfl rfl rfl, peek_2 (by omega) rfl rfl, peek_2 (i := i + 2) (by omega) rfl rfl]
  rw [show i + 2 + 1 = i + 3 by omega]
  omega
theorem peek4_parts {D : List Int} (hB : Byt D) {i : Nat} (hi : i + 4 ≤ D.length) : (0 ≤ peekV 4 D i ∧ peekV 4 D i ≤ 4294967295) ∧ IntKind.u16.wrap (peekV 4 D i / 65536) = peekV 2 D i ∧ (peekV 4 D i).tmod 65536 = peekV 2 D (i + 2) ∧ peekV 4 D i % 65536 = peekV 2 D (i + 2) := by
  have a := peek_bd hB 2 i
  have b := peek_bd hB 2 (i + 2)
  have a1 := a.2 rfl
  have b1 := b.2 rfl
  rw [peek42 hB hi]
  have e : ∀ y : Int, IntKind.u16.wrap y = y % 65536 := fun y => rfl
  refine ⟨by omega, ?_, ?_, by omega⟩
  · rw [e]; omega
  · rw [Int.tmod_eq_emod_of_nonneg (by omega)]; omega
/-- What 'wharfref16.Of' gives. -/
def RofPost (inter : Bool) (D : List Int) (n : Nat) (w : World) (e : Ending) (w' : World) : Prop := ∃ v, e = .returned (.tuple #[.int .u32 (peekV 4 D 0), v]) ∧ OwnT 25 w' w.heap.size v (ofL inter D n) ∧ Below w.heap.size w w'
def RoS (w1 : World) (b o : Nat) (X : Int) (w' : World) : Prop := Below w1.heap.size w1 w' ∧ w'.cell? ⟨b, o, none⟩ = some (.int .u32 X)
theorem set_blk {W : World} {b t : Nat} {cs : Array Value} {fr : Nat × Nat} (h : W.heap[b]? = some (.cells cs t fr)) (j : Nat) (v : Value) : (W.setCell ⟨b, j, none⟩ v).heap[b]? = some (.cells (cs.setIfInBounds j v) t fr) := by
  simp [World.setCell, Array.getElem?_modify, h]
theorem own_kept_t {t : Nat} {w w' : World} {base : Nat} {v : Value} {l : List Sk} (h : OwnT t w base v l) (hb : Below w.heap.size w w') : OwnT t w' base v l := own_move h (fun k hk => hb.block k (own_lt h k hk))
theorem ownT_lower {t : Nat} {w : World} {b0 b1 : Nat} {v : Value} {l : List Sk} (h : OwnT t w b1 v l) (hb : b0 ≤ b1) : OwnT t w b0 v l := own_weaken h hb
theorem flat3 : ∀ l : List Sk, (l.flatMap Sk.cells).length = l.length * 3
  | [] => rfl
  | a :: l => by
    rw [List.flatMap_cons, List.length_append, List.length_cons, flat3 l]
    simp [Sk.cells]
    omega
theorem own_snoc {t : Nat} {w : World} {base n : Nat} {v : Value} {l : List Sk} {s : Sk} (h : w.ownsRow base t 3 v n (l.flatMap Sk.cells ++ s.cells)) : OwnT t w base v (l ++ [s]) := by
  have h1 := h.1
  have hf : (l.flatMap Sk.cells).length = l.length * 3 := by
    cases l with
    | nil => rfl
    | cons a l =>
      rw [List.flatMap_cons, List.length_append, List.length_cons, flat3 l]
      simp [Sk.cells]
      omega
  unfold OwnT
  rw [List.flatMap_append, List.length_append]
  have hn : n = l.length + 1 := by
    rw [List.length_append, hf] at h1
    simp [Sk.cells] at h1
    omega
  rw [hn] at h
  simpa using h
theorem three_sets {W : World} {s z : Sk} {t : Nat} : ((((W.alloc (.cells z.cells.toArray t)).setCell ⟨W.heap.size, 0, none⟩ (.int .u16 s.st)).setCell ⟨W.heap.size, 1, none⟩ (.bool s.un)).setCell ⟨W.heap.size, 2, none⟩ (.int .u32 s.sq)).heap[W.heap.size]? = some (.cells s.cells.toArray t (0, 0)) := by
  have h : (W.alloc (.cells z.cells.toArray t)).heap[W.heap.size]? = some (.cells z.cells.toArray t (0, 0)) := blk_new W _
  exact set_blk (set_blk (set_blk h 0 (.int .u16 s.st)) 1 (.bool s.un)) 2 (.int .u32 s.sq)
set_option maxRecDepth 100000 in
set_option maxHeartbeats 8000000 in
theorem rof_192 (f : Int) (A K : Option Addr) (c m d q : Nat) (D : List Int) (w : World) (hC : BC w A D) (hB : Byt D) (hc : D.length ≤ c) (hl : D.length ≤ 65531) (hq : D.length = 4 + 4 * q) :
    Calls Tryz.prog 43 #[ckV 192 f A D.length c K m d] w (RofPost false D q w) := by
  have HB0 := hid hB
  have HL0 := hid hl
  have HQ := hid hq
  have B0 := hid (below_alloc (Below.refl w.heap.size w) (.cells #[.int .u8 192, .int .u8 f, .slice A D.length c, .slice K m d] 35))
  have hN := rnums_any A c (1 + 1 * q) D _ (hC.below B0.out) hB hc (by omega) (by omega)
  have HX := hid (blk_new w (.cells #[.int .u8 192, .int .u8 f, .slice A D.length c, .slice K m d] 35))
  have HN := hid hN
  clear hC hB hc hl hq hN
  unfold ckV
  go_enter Tryz.func43, Tryz.ntmps43
  go_wp2_with fail
  refine HN.out.mono ?_
  rintro e w1 ⟨A1, c1, rfl, hr, hb⟩
  have B1 := hid (cthen B0.out hb)
  have K1 := hid (blk_below HX.out hb)
  rcases ints_cells hr with h | ⟨bw, ow, rfl, -, hwc⟩
  · exact absurd (congrArg List.length h) (by rw [words_len]; simp)
  rw [words_len] at hwc
  have HW : Hid (∀ i, i < 1 + 1 * q → w1.cell? ⟨bw, ow + i, none⟩ = some (.int .u32 (peekV 4 D (4 * i)))) := hid (fun i hi => by rw [hwc i hi, words_at D _ i hi])
  clear hr hb hwc HN HX B0
  have hq5 := hid (show q ≤ 65531 by have := HQ.out; have := HL0.out; omega)
  go_wp2_with fail
  go_loopw [5, 6] (fun sv iv W => ∃ j I : Nat, iv = .int .i64 I ∧ Hid (I = 1 + 1 * j) ∧ j ≤ q ∧ (∃ A3 c3, sv = .slice A3 j c3) ∧ Hid (OwnT 25 W w1.heap.size sv (ofL false D j)) ∧ Hid (Below w1.heap.size w1 W)) (fun _ iv _ => (1 + 1 * q) - (intOf iv).toNat)
  case atStart => exact ⟨0, 1, rfl, hid rfl, by omega, ⟨none, 0, rfl⟩, hid (World.ownsRow_nil _ _ _ _), hid (Below.refl _ _)⟩
  case round =>
    obtain ⟨j, I, rfl, HI, hj, ⟨A3, c3, rfl⟩, hO, hBel⟩ := hrel
    have hq6 := hq5.out
    by_cases hlt : j < q
    · have hw1 := HW.out (1 + 1 * j) (by omega)
      obtain ⟨X, hX⟩ : ∃ X, X = peekV 4 D (4 * (1 + 1 * j)) := ⟨_, rfl⟩
      rw [← hX] at hw1
      obtain ⟨⟨hx0, hx1⟩, hx2, hx3, hx4⟩ := peek4_parts HB0.out (i := 4 * (1 + 1 * j)) (by have := HQ.out; omega)
      rw [← hX] at hx0 hx1 hx2 hx3 hx4
      have HX2 := hid hx2
      have HX3 := hid hx3
      have HX4 := hid hx4
      have hS0 : RoS wr bw (ow + (1 + 1 * j)) X wr.drew := ⟨below_drew (Below.refl _ _) 1, (Below.cell (p := ⟨bw, ow + (1 + 1 * j), none⟩) hBel.out (World.block_lt_of_cell? _ _ hw1)).trans hw1⟩
      obtain ⟨s, hs⟩ : ∃ s, s = ofSk false D j := ⟨_, rfl⟩
      have HX2 := hid (show IntKind.u16.wrap (X / 65536) = s.st by rw [hx2, hs]; unfold ofSk; rw [if_neg (by decide), show 4 * (1 + 1 * j) = 4 + 4 * j by omega])
      have HX3 := hid (show X.tmod 65536 = s.sq by rw [hx3, hs]; unfold ofSk; rw [if_neg (by decide), show 4 * (1 + 1 * j) + 2 = 6 + 4 * j by omega])
      have hsu : s.un = false := by rw [hs]; rfl
      clear hx2 hx3 hx4 hX hw1
      rw [← HI.out] at hS0
      have hii : (0 : Int) ≤ (I : Int) := by omega
      have hij : (I : Int) < ((1 + 1 * q : Nat) : Int) := by have := HI.out; omega
      have HJ := hid hlt
      have HS := hid hs
      clear hs
      go_wp2_with fail
      refine start_ (n := 14) (S := fun w' => Below wr.heap.size wr w' ∧ w'.cell? ⟨bw, ow + I, none⟩ = some (.int .u32 X)) (ds := [13]) #[false, false, false, false, false, false, false, false, false, false, false, false, false, false] (by kernel_rfl) rfl rfl hS0 (fun hHeld => ?_)
      generalize wr.drew = w44 at hS0 hHeld ⊢
      refine pure_ (i := 0) (N := some 17) (v := ?_) (a' := ?_) #[true, false, false, false, false, false, false, false, false, false, false, false, false, false] rfl rfl (by kernel_rfl) (fun _ _ _ h => h) (Or.inl ⟨by rfl, ?_⟩) ?_ ?_
      rotate_left
      · intro w'
        go_simp
        with_reducible rfl
      rotate_left
      · simp only [Act.put, List.setIfInBounds_toArray, List.set_cons_zero, List.set_cons_succ, i64_w, i32_w]
        rfl
      refine pure_ (i := 1) (N := some 18) (v := ?_) (a' := ?_) #[true, true, false, false, false, false, false, false, false, false, false, false, false, false] rfl rfl (by kernel_rfl) (fun _ _ _ h => h) (Or.inl ⟨by rfl, ?_⟩) ?_ ?_
      rotate_left
      · intro w'
        go_simp
        with_reducible rfl
      rotate_left
      · simp only [Act.put, List.setIfInBounds_toArray, List.set_cons_zero, List.set_cons_succ, i64_w, i32_w]
        rfl
      refine pure_ (i := 2) (N := some 19) (v := ?_) (a' := ?_) #[true, true, true, false, false, false, false, false, false, false, false, false, false, false] rfl rfl (by kernel_rfl) (fun _ _ _ h => h) (Or.inl ⟨by rfl, ?_⟩) ?_ ?_
      rotate_left
      · intro w'
        go_simp
        with_reducible rfl
      rotate_left
      · simp only [Act.put, List.setIfInBounds_toArray, List.set_cons_zero, List.set_cons_succ, i64_w, i32_w]
        rfl
      refine pure_ (i := 6) (N := some 23) (v := ?_) (a' := ?_) #[true, true, true, false, false, false, true, false, false, false, false, false, false, false] rfl rfl (by kernel_rfl) (fun _ _ _ h => h) (Or.inl ⟨by rfl, ?_⟩) ?_ ?_
      rotate_left
      · intro w'
        go_simp
        with_reducible rfl
      rotate_left
      · simp only [Act.put, List.setIfInBounds_toArray, List.set_cons_zero, List.set_cons_succ, i64_w, i32_w]
        rfl
      refine pure_ (i := 7) (N := some 24) (v := ?_) (a' := ?_) #[true, true, true, false, false, false, true, true, false, false, false, false, false, false] rfl rfl (by kernel_rfl) (fun _ _ _ h => h) (Or.inl ⟨by rfl, ?_⟩) ?_ ?_
      rotate_left
      · intro w'
        go_simp
        with_reducible rfl
      rotate_left
      · simp only [Act.put, List.setIfInBounds_toArray, List.set_cons_zero, List.set_cons_succ, i64_w, i32_w]
        rfl
      refine pure_ (i := 8) (N := some 25) (v := ?_) (a' := ?_) #[true, true, true, false, false, false, true, true, true, false, false, false, false, false] rfl rfl (by kernel_rfl) (fun _ _ _ h => h) (Or.inl ⟨by rfl, ?_⟩) ?_ ?_
      rotate_left
      · intro w'
        go_simp
        with_reducible rfl
      rotate_left
      · simp only [Act.put, List.setIfInBounds_toArray, List.set_cons_zero, List.set_cons_succ, i64_w, i32_w]
        rfl
      refine take_ (i := 3) (N := some 20) (v := ?_) (a' := ?_) #[true, true, true, true, false, false, true, true, true, false, false, false, false, false] rfl rfl (by kernel_rfl) (fun _ _ _ h => h) (Or.inl ⟨by rfl, ?_⟩) hHeld ?_ ?_
      rotate_left
      · rintro w' ⟨q0, q1⟩
        go_simp
        with_reducible rfl
      rotate_left
      · simp only [Act.put, List.setIfInBounds_toArray, List.set_cons_zero, List.set_cons_succ, i64_w, i32_w]
        rfl
      refine pure_ (i := 4) (N := some 21) (v := ?_) (a' := ?_) #[true, true, true, true, true, false, true, true, true, false, false, false, false, false] rfl rfl (by kernel_rfl) (fun _ _ _ h => h) (Or.inl ⟨by rfl, ?_⟩) ?_ ?_
      rotate_left
      · intro w'
        go_simp
        with_reducible rfl
      rotate_left
      · simp only [Act.put, List.setIfInBounds_toArray, List.set_cons_zero, List.set_cons_succ, i64_w, i32_w]
        rfl
      refine pure_ (i := 5) (N := some 22) (v := ?_) (a' := ?_) #[true, true, true, true, true, true, true, true, true, false, false, false, false, false] rfl rfl (by kernel_rfl) (fun _ _ _ h => h) (Or.inl ⟨by rfl, ?_⟩) ?_ ?_
      rotate_left
      · intro w'
        go_simp
        with_reducible rfl
      rotate_left
      · simp only [Act.put, List.setIfInBounds_toArray, List.set_cons_zero, List.set_cons_succ, i64_w, i32_w]
        rfl
      refine take_ (i := 9) (N := some 26) (v := ?_) (a' := ?_) #[true, true, true, true, true, true, true, true, true, true, false, false, false, false] rfl rfl (by kernel_rfl) (fun _ _ _ h => h) (Or.inl ⟨by rfl, ?_⟩) hHeld ?_ ?_
      rotate_left
      · rintro w' ⟨q0, q1⟩
        go_simp
        with_reducible rfl
      rotate_left
      · simp only [Act.put, List.setIfInBounds_toArray, List.set_cons_zero, List.set_cons_succ, i64_w, i32_w]
        rfl
      refine pure_ (i := 10) (N := some 27) (v := ?_) (a' := ?_) #[true, true, true, true, true, true, true, true, true, true, true, false, false, false] rfl rfl (by kernel_rfl) (fun _ _ _ h => h) (Or.inl ⟨by rfl, ?_⟩) ?_ ?_
      rotate_left
      · intro w'
        go_simp
        with_reducible rfl
      rotate_left
      · simp only [Act.put, List.setIfInBounds_toArray, List.set_cons_zero, List.set_cons_succ, i64_w, i32_w]
        rfl
      refine pure_ (i := 11) (N := some 28) (v := ?_) (a' := ?_) #[true, true, true, true, true, true, true, true, true, true, true, true, false, false] rfl rfl (by kernel_rfl) (fun _ _ _ h => h) (Or.inl ⟨by rfl, ?_⟩) ?_ ?_
      rotate_left
      · intro w'
        go_simp
        with_reducible rfl
      rotate_left
      · simp only [Act.put, List.setIfInBounds_toArray, List.set_cons_zero, List.set_cons_succ, i64_w, i32_w]
        rfl
      refine one_ (i := 12) (N := some 7) #[true, true, true, true, true, true, true, true, true, true, true, true, true, false] rfl rfl (by kernel_rfl) (by decide) (fun K hK => ?_)
      have hS1 : RoS wr bw (ow + I) X (w44.alloc (.cells #[.int .u16 0, .bool false, .int .u32 0] 25)) := ⟨below_alloc hHeld.1 _, (Below.cell (p := ⟨bw, ow + I, none⟩) (below_alloc (Below.refl _ _) _) (World.block_lt_of_cell? _ _ hHeld.2)).trans hHeld.2⟩
      refine value_ (w1 := w44.alloc (.cells #[.int .u16 0, .bool false, .int .u32 0] 25)) (v := .pointer (some ⟨w44.heap.size, 0, none⟩)) (by rfl) rfl (by go_simp; done) ?_
      have hS44 := hid hHeld.1
      refine hK.out _ _ hS1 (fun hHeld => ?_)
      clear hK K
      refine norm_ (a' := ?_) ?_ ?_
      rotate_left
      · show Act.put _ (some 7) _ = _
        simp only [Act.put, List.setIfInBounds_toArray, List.set_cons_zero, List.set_cons_succ, i64_w, i32_w]
        rfl
      refine last_ (i := 13) (N := none) #[true, true, true, true, true, true, true, true, true, true, true, true, true, true] rfl rfl (by kernel_rfl) (by decide) (fun K hK => ?_)
      obtain ⟨W6, hW6⟩ : ∃ W6 : World, W6 = (((w44.alloc (.cells #[.int .u16 0, .bool false, .int .u32 0] 25)).setCell ⟨w44.heap.size, 0, none⟩ (.int .u16 (IntKind.u16.wrap (X / 65536)))).setCell ⟨w44.heap.size, 1, none⟩ (.bool false)).setCell ⟨w44.heap.size, 2, none⟩ (.int .u32 (X.tmod 65536)) := ⟨_, rfl⟩
      obtain ⟨⟨n0, n1, n2⟩, ⟨m0, m1, m2⟩⟩ := three (blk_new w44 (.cells #[.int .u16 0, .bool false, .int .u32 0] 25))
      refine skip_ (w1 := W6) (by rfl) rfl (by rw [hW6]; go_simp; done) ?_
      refine hK.out _ _ ?_
      clear hK K
      refine done_ (by kernel_rfl) ?_
      have B6w := hid (show Below wr.heap.size wr W6 by rw [hW6]; exact below_set (below_set (below_set (below_alloc hS44.out _) hS44.out.size _) hS44.out.size _) hS44.out.size _)
      have B6 := hid (cthen hBel.out B6w.out)
      have hk6 : W6.heap[w44.heap.size]? = some (.cells #[.int .u16 (IntKind.u16.wrap (X / 65536)), .bool false, .int .u32 (X.tmod 65536)] 25 (0, 0)) := by rw [hW6]; exact three_sets (z := skZ) (s := ⟨IntKind.u16.wrap (X / 65536), false, X.tmod 65536⟩)
      have O6 := hid (own_kept_t hO.out B6w.out)
      have hbase : w1.heap.size ≤ w44.heap.size := Nat.le_trans hBel.out.size hS44.out.size
      have hs44' := hid hS44.out.size
      have hO9 := hO
      clear hO hW6 hHeld hS0 hS44 n0 n1 n2 m0 m1 m2
      rw [HX2.out, HX3.out] at hk6
      have K9 := hid (show W6.heap[w44.heap.size]? = some (.cells #[.int .u16 s.st, .bool s.un, .int .u32 s.sq] 25 (0, 0)) by rw [hsu]; exact hk6)
      clear hk6 hsu
      obtain ⟨W9, hW9⟩ : ∃ W9, W9 = W6 := ⟨_, rfl⟩
      rw [← hW9] at B6 O6 K9 ⊢
      have B9 := B6
      have O9 := O6
      clear B6 O6 hW9 hbase B6w
      obtain ⟨⟨x0, x1, x2, x3⟩, -⟩ := four (blk_below K1.out B9.out)
      obtain ⟨⟨k0, k1, k2⟩, -⟩ := three K9.out
      have HN := hid (news_t 25 W9 s)
      have HO2 := hid (ownT_alloc O9.out (.cells s.cells.toArray 25))
      have HBS := hid (below_alloc B9.out (.cells s.cells.toArray 25))
      obtain ⟨i0, hi0, hz0, hz1, hz2⟩ := info_parts infoR
      have HLN := hid (show (ofL false D j).length ≤ 65531 by rw [ofL_len]; omega)
      go_wp2_with (at_builtin; refine wpList_append_own _ rfl _ _ 71 rfl w1.heap.size 25 i0 _ 3 8 Tryz.underlying71 hi0 hz0 hz1 hz2 rfl (by decide) _ _ _ rfl HO2.out ⟨W9.heap.size, 0, none⟩ 1 1 s.cells rfl rfl HN.out (by intro u hu; simp only [Sk.cells, List.mem_cons, List.not_mem_nil, or_false] at hu; rcases hu with rfl | rfl | rfl <;> rfl) (by have := HLN.out; unfold maxLen; omega) (by have := HLN.out; omega) HBS.out.size ?_; intro v' w9 hown' hgrow _; have HI9 := hid (own_snoc hown'); have HB9 := hid (HBS.out.grown hgrow HBS.out.size (fun k hk => (World.ownsRow.lt HO2.out k hk).1)); clear hown' hgrow)
      obtain ⟨A9, c9, hA9⟩ := ownT_form HI9.out
      refine ⟨⟨j + 1, I + 1, by go_num, hid (by have := HI.out; omega), by have := HJ.out; omega, ⟨A9, c9, ?_⟩, ?_, HB9⟩, by have := HI.out; simp [intOf]; omega⟩
      · rw [hA9, List.length_append, ofL_len]
        rfl
      · rw [ofL_step, ← HS.out]
        exact HI9
    · obtain rfl : j = q := by omega
      have hw0 := (Below.cell (p := ⟨bw, ow + 0, none⟩) hBel.out (World.block_lt_of_cell? _ _ (HW.out 0 (by omega)))).trans (HW.out 0 (by omega))
      simp only [Nat.mul_zero, Nat.add_zero] at hw0
      have h01 : (0 : Int) < ((1 + 1 * j : Nat) : Int) := by omega
      have hI2 := HI.out
      subst hI2
      go_wp2_with fail
      go_ret2
      exact ⟨_, rfl, ownT_lower hO.out B1.out.size, cthen B1.out hBel.out⟩
set_option maxRecDepth 100000 in
set_option maxHeartbeats 8000000 in
theorem rof_194 (f : Int) (A K : Option Addr) (c m d q : Nat) (D : List Int) (w : World) (hC : BC w A D) (hB : Byt D) (hc : D.length ≤ c) (hl : D.length ≤ 65531) (hq : D.length = 4 + 8 * q) :
    Calls Tryz.prog 43 #[ckV 194 f A D.length c K m d] w (RofPost true D q w) := by
  have HB0 := hid hB
  have HL0 := hid hl
  have HQ := hid hq
  have B0 := hid (below_alloc (Below.refl w.heap.size w) (.cells #[.int .u8 194, .int .u8 f, .slice A D.length c, .slice K m d] 35))
  have hN := rnums_any A c (1 + 2 * q) D _ (hC.below B0.out) hB hc (by omega) (by omega)
  have HX := hid (blk_new w (.cells #[.int .u8 194, .int .u8 f, .slice A D.length c, .slice K m d] 35))
  have HN := hid hN
  clear hC hB hc hl hq hN
  unfold ckV
  go_enter Tryz.func43, Tryz.ntmps43
  go_wp2_with fail
  refine HN.out.mono ?_
  rintro e w1 ⟨A1, c1, rfl, hr, hb⟩
  have B1 := hid (cthen B0.out hb)
  have K1 := hid (blk_below HX.out hb)
  rcases ints_cells hr with h | ⟨bw, ow, rfl, -, hwc⟩
  · exact absurd (congrArg List.length h) (by rw [words_len]; simp)
  rw [words_len] at hwc
  have HW : Hid (∀ i, i < 1 + 2 * q → w1.cell? ⟨bw, ow + i, none⟩ = some (.int .u32 (peekV 4 D (4 * i)))) := hid (fun i hi => by rw [hwc i hi, words_at D _ i hi])
  clear hr hb hwc HN HX B0
  have hq5 := hid (show q ≤ 65531 by have := HQ.out; have := HL0.out; omega)
  go_wp2_with fail
  go_loopw [5, 6] (fun sv iv W => ∃ j I : Nat, iv = .int .i64 I ∧ Hid (I = 1 + 2 * j) ∧ j ≤ q ∧ (∃ A3 c3, sv = .slice A3 j c3) ∧ Hid (OwnT 25 W w1.heap.size sv (ofL true D j)) ∧ Hid (Below w1.heap.size w1 W)) (fun _ iv _ => (1 + 2 * q) - (intOf iv).toNat)
  case atStart => exact ⟨0, 1, rfl, hid rfl, by omega, ⟨none, 0, rfl⟩, hid (World.ownsRow_nil _ _ _ _), hid (Below.refl _ _)⟩
  case round =>
    obtain ⟨j, I, rfl, HI, hj, ⟨A3, c3, rfl⟩, hO, hBel⟩ := hrel
    have hq6 := hq5.out
    by_cases hlt : j < q
    · have hw1 := HW.out (1 + 2 * j) (by omega)
      obtain ⟨X, hX⟩ : ∃ X, X = peekV 4 D (4 * (1 + 2 * j)) := ⟨_, rfl⟩
      rw [← hX] at hw1
      obtain ⟨⟨hx0, hx1⟩, hx2, hx3, hx4⟩ := peek4_parts HB0.out (i := 4 * (1 + 2 * j)) (by have := HQ.out; omega)
      rw [← hX] at hx0 hx1 hx2 hx3 hx4
      have HX2 := hid hx2
      have HX3 := hid hx3
      have HX4 := hid hx4
      have hS0 : RoS wr bw (ow + (1 + 2 * j)) X wr.drew := ⟨below_drew (Below.refl _ _) 1, (Below.cell (p := ⟨bw, ow + (1 + 2 * j), none⟩) hBel.out (World.block_lt_of_cell? _ _ hw1)).trans hw1⟩
      obtain ⟨s, hs⟩ : ∃ s, s = ofSk true D j := ⟨_, rfl⟩
      have HX2 := hid (show IntKind.u16.wrap (X / 65536) = s.st by rw [hx2, hs]; unfold ofSk; rw [if_pos rfl, show 4 * (1 + 2 * j) = 4 + 8 * j by omega])
      have HX3 := hid (show X.tmod 65536 = peekV 2 D (6 + 8 * j) by rw [hx3, show 4 * (1 + 2 * j) + 2 = 6 + 8 * j by omega])
      have HXU := hid (show (X % 65536 == 1) = s.un by rw [hx4, hs]; unfold ofSk; rw [if_pos rfl, show 4 * (1 + 2 * j) + 2 = 6 + 8 * j by omega])
      have hY := HW.out (1 + 2 * j + 1) (by omega)
      have HY := hid (show peekV 4 D (4 * (1 + 2 * j + 1)) = s.sq by rw [hs]; unfold ofSk; rw [if_pos rfl, show 4 * (1 + 2 * j + 1) = 8 + 8 * j by omega])
      rw [HY.out] at hY
      have hYW := hid hY
      clear hY
      have hw1c : Hid (w1.cell? ⟨bw, ow + (1 + 2 * j), none⟩ = some (.int .u32 X)) := hid hw1
      clear hx2 hx3 hx4 hX hw1
      rw [← HI.out] at hS0 hw1c hYW
      have hii : (0 : Int) ≤ (I : Int) := by omega
      have hij : (I : Int) < ((1 + 2 * q : Nat) : Int) := by have := HI.out; omega
      have HJ := hid hlt
      have HS := hid hs
      clear hs
      go_wp2_with fail
      refine start_ (n := 14) (S := fun w' => Below wr.heap.size wr w' ∧ w'.cell? ⟨bw, ow + I, none⟩ = some (.int .u32 X)) (ds := [13]) #[false, false, false, false, false, false, false, false, false, false, false, false, false, false] (by kernel_rfl) rfl rfl hS0 (fun hHeld => ?_)
      generalize wr.drew = w44 at hS0 hHeld ⊢
      refine pure_ (i := 0) (N := some 17) (v := ?_) (a' := ?_) #[true, false, false, false, false, false, false, false, false, false, false, false, false, false] rfl rfl (by kernel_rfl) (fun _ _ _ h => h) (Or.inl ⟨by rfl, ?_⟩) ?_ ?_
      rotate_left
      · intro w'
        go_simp
        with_reducible rfl
      rotate_left
      · simp only [Act.put, List.setIfInBounds_toArray, List.set_cons_zero, List.set_cons_succ, i64_w, i32_w]
        rfl
      refine pure_ (i := 1) (N := some 18) (v := ?_) (a' := ?_) #[true, true, false, false, false, false, false, false, false, false, false, false, false, false] rfl rfl (by kernel_rfl) (fun _ _ _ h => h) (Or.inl ⟨by rfl, ?_⟩) ?_ ?_
      rotate_left
      · intro w'
        go_simp
        with_reducible rfl
      rotate_left
      · simp only [Act.put, List.setIfInBounds_toArray, List.set_cons_zero, List.set_cons_succ, i64_w, i32_w]
        rfl
      refine pure_ (i := 2) (N := some 19) (v := ?_) (a' := ?_) #[true, true, true, false, false, false, false, false, false, false, false, false, false, false] rfl rfl (by kernel_rfl) (fun _ _ _ h => h) (Or.inl ⟨by rfl, ?_⟩) ?_ ?_
      rotate_left
      · intro w'
        go_simp
        with_reducible rfl
      rotate_left
      · simp only [Act.put, List.setIfInBounds_toArray, List.set_cons_zero, List.set_cons_succ, i64_w, i32_w]
        rfl
      refine pure_ (i := 6) (N := some 23) (v := ?_) (a' := ?_) #[true, true, true, false, false, false, true, false, false, false, false, false, false, false] rfl rfl (by kernel_rfl) (fun _ _ _ h => h) (Or.inl ⟨by rfl, ?_⟩) ?_ ?_
      rotate_left
      · intro w'
        go_simp
        with_reducible rfl
      rotate_left
      · simp only [Act.put, List.setIfInBounds_toArray, List.set_cons_zero, List.set_cons_succ, i64_w, i32_w]
        rfl
      refine pure_ (i := 7) (N := some 24) (v := ?_) (a' := ?_) #[true, true, true, false, false, false, true, true, false, false, false, false, false, false] rfl rfl (by kernel_rfl) (fun _ _ _ h => h) (Or.inl ⟨by rfl, ?_⟩) ?_ ?_
      rotate_left
      · intro w'
        go_simp
        with_reducible rfl
      rotate_left
      · simp only [Act.put, List.setIfInBounds_toArray, List.set_cons_zero, List.set_cons_succ, i64_w, i32_w]
        rfl
      refine pure_ (i := 8) (N := some 25) (v := ?_) (a' := ?_) #[true, true, true, false, false, false, true, true, true, false, false, false, false, false] rfl rfl (by kernel_rfl) (fun _ _ _ h => h) (Or.inl ⟨by rfl, ?_⟩) ?_ ?_
      rotate_left
      · intro w'
        go_simp
        with_reducible rfl
      rotate_left
      · simp only [Act.put, List.setIfInBounds_toArray, List.set_cons_zero, List.set_cons_succ, i64_w, i32_w]
        rfl
      refine take_ (i := 3) (N := some 20) (v := ?_) (a' := ?_) #[true, true, true, true, false, false, true, true, true, false, false, false, false, false] rfl rfl (by kernel_rfl) (fun _ _ _ h => h) (Or.inl ⟨by rfl, ?_⟩) hHeld ?_ ?_
      rotate_left
      · rintro w' ⟨q0, q1⟩
        go_simp
        with_reducible rfl
      rotate_left
      · simp only [Act.put, List.setIfInBounds_toArray, List.set_cons_zero, List.set_cons_succ, i64_w, i32_w]
        rfl
      refine pure_ (i := 4) (N := some 21) (v := ?_) (a' := ?_) #[true, true, true, true, true, false, true, true, true, false, false, false, false, false] rfl rfl (by kernel_rfl) (fun _ _ _ h => h) (Or.inl ⟨by rfl, ?_⟩) ?_ ?_
      rotate_left
      · intro w'
        go_simp
        with_reducible rfl
      rotate_left
      · simp only [Act.put, List.setIfInBounds_toArray, List.set_cons_zero, List.set_cons_succ, i64_w, i32_w]
        rfl
      refine pure_ (i := 5) (N := some 22) (v := ?_) (a' := ?_) #[true, true, true, true, true, true, true, true, true, false, false, false, false, false] rfl rfl (by kernel_rfl) (fun _ _ _ h => h) (Or.inl ⟨by rfl, ?_⟩) ?_ ?_
      rotate_left
      · intro w'
        go_simp
        with_reducible rfl
      rotate_left
      · simp only [Act.put, List.setIfInBounds_toArray, List.set_cons_zero, List.set_cons_succ, i64_w, i32_w]
        rfl
      refine take_ (i := 9) (N := some 26) (v := ?_) (a' := ?_) #[true, true, true, true, true, true, true, true, true, true, false, false, false, false] rfl rfl (by kernel_rfl) (fun _ _ _ h => h) (Or.inl ⟨by rfl, ?_⟩) hHeld ?_ ?_
      rotate_left
      · rintro w' ⟨q0, q1⟩
        go_simp
        with_reducible rfl
      rotate_left
      · simp only [Act.put, List.setIfInBounds_toArray, List.set_cons_zero, List.set_cons_succ, i64_w, i32_w]
        rfl
      refine pure_ (i := 10) (N := some 27) (v := ?_) (a' := ?_) #[true, true, true, true, true, true, true, true, true, true, true, false, false, false] rfl rfl (by kernel_rfl) (fun _ _ _ h => h) (Or.inl ⟨by rfl, ?_⟩) ?_ ?_
      rotate_left
      · intro w'
        go_simp
        with_reducible rfl
      rotate_left
      · simp only [Act.put, List.setIfInBounds_toArray, List.set_cons_zero, List.set_cons_succ, i64_w, i32_w]
        rfl
      refine pure_ (i := 11) (N := some 28) (v := ?_) (a' := ?_) #[true, true, true, true, true, true, true, true, true, true, true, true, false, false] rfl rfl (by kernel_rfl) (fun _ _ _ h => h) (Or.inl ⟨by rfl, ?_⟩) ?_ ?_
      rotate_left
      · intro w'
        go_simp
        with_reducible rfl
      rotate_left
      · simp only [Act.put, List.setIfInBounds_toArray, List.set_cons_zero, List.set_cons_succ, i64_w, i32_w]
        rfl
      refine one_ (i := 12) (N := some 7) #[true, true, true, true, true, true, true, true, true, true, true, true, true, false] rfl rfl (by kernel_rfl) (by decide) (fun K hK => ?_)
      have hS1 : RoS wr bw (ow + I) X (w44.alloc (.cells #[.int .u16 0, .bool false, .int .u32 0] 25)) := ⟨below_alloc hHeld.1 _, (Below.cell (p := ⟨bw, ow + I, none⟩) (below_alloc (Below.refl _ _) _) (World.block_lt_of_cell? _ _ hHeld.2)).trans hHeld.2⟩
      refine value_ (w1 := w44.alloc (.cells #[.int .u16 0, .bool false, .int .u32 0] 25)) (v := .pointer (some ⟨w44.heap.size, 0, none⟩)) (by rfl) rfl (by go_simp; done) ?_
      have hS44 := hid hHeld.1
      refine hK.out _ _ hS1 (fun hHeld => ?_)
      clear hK K
      refine norm_ (a' := ?_) ?_ ?_
      rotate_left
      · show Act.put _ (some 7) _ = _
        simp only [Act.put, List.setIfInBounds_toArray, List.set_cons_zero, List.set_cons_succ, i64_w, i32_w]
        rfl
      refine last_ (i := 13) (N := none) #[true, true, true, true, true, true, true, true, true, true, true, true, true, true] rfl rfl (by kernel_rfl) (by decide) (fun K hK => ?_)
      obtain ⟨W6, hW6⟩ : ∃ W6 : World, W6 = (((w44.alloc (.cells #[.int .u16 0, .bool false, .int .u32 0] 25)).setCell ⟨w44.heap.size, 0, none⟩ (.int .u16 (IntKind.u16.wrap (X / 65536)))).setCell ⟨w44.heap.size, 1, none⟩ (.bool false)).setCell ⟨w44.heap.size, 2, none⟩ (.int .u32 (X.tmod 65536)) := ⟨_, rfl⟩
      obtain ⟨⟨n0, n1, n2⟩, ⟨m0, m1, m2⟩⟩ := three (blk_new w44 (.cells #[.int .u16 0, .bool false, .int .u32 0] 25))
      refine skip_ (w1 := W6) (by rfl) rfl (by rw [hW6]; go_simp; done) ?_
      refine hK.out _ _ ?_
      clear hK K
      refine done_ (by kernel_rfl) ?_
      have B6w := hid (show Below wr.heap.size wr W6 by rw [hW6]; exact below_set (below_set (below_set (below_alloc hS44.out _) hS44.out.size _) hS44.out.size _) hS44.out.size _)
      have B6 := hid (cthen hBel.out B6w.out)
      have hk6 : W6.heap[w44.heap.size]? = some (.cells #[.int .u16 (IntKind.u16.wrap (X / 65536)), .bool false, .int .u32 (X.tmod 65536)] 25 (0, 0)) := by rw [hW6]; exact three_sets (z := skZ) (s := ⟨IntKind.u16.wrap (X / 65536), false, X.tmod 65536⟩)
      have O6 := hid (own_kept_t hO.out B6w.out)
      have hbase : w1.heap.size ≤ w44.heap.size := Nat.le_trans hBel.out.size hS44.out.size
      have hs44' := hid hS44.out.size
      have hO9 := hO
      clear hO hW6 hHeld hS0 hS44 n0 n1 n2 m0 m1 m2
      rw [HX2.out, HX3.out] at hk6
      have K6 := hid hk6
      clear hk6
      have hs44 : wr.heap.size ≤ w44.heap.size := hs44'.out
      obtain ⟨⟨x0, x1, x2, x3⟩, -⟩ := four (blk_below K1.out B6.out)
      obtain ⟨⟨k0, k1, k2⟩, ⟨l0, l1, l2⟩⟩ := three K6.out
      have hc6 : W6.cell? ⟨bw, ow + I, none⟩ = some (.int .u32 X) := (Below.cell (p := ⟨bw, ow + I, none⟩) B6.out (World.block_lt_of_cell? _ _ hw1c.out)).trans hw1c.out
      have hc7 : W6.cell? ⟨bw, ow + (I + 1), none⟩ = some (.int .u32 s.sq) := (Below.cell (p := ⟨bw, ow + (I + 1), none⟩) B6.out (World.block_lt_of_cell? _ _ hYW.out)).trans hYW.out
      have hij2 : (I : Int) + 1 < ((1 + 2 * q : Nat) : Int) := by have := HI.out; have := HJ.out; omega
      have hbwne : bw ≠ w44.heap.size := by have h1 := World.block_lt_of_cell? _ _ hw1c.out; simp only at h1; omega
      have hbox : w.heap.size ≠ w44.heap.size := by have h1 := (Array.getElem?_eq_some_iff.1 K1.out).1; omega
      have hI10 : I ≤ 1000000 := by have := HI.out; have := HJ.out; omega
      have hxu := HXU.out
      have B9w := hid (below_set (j := 2) (below_set (j := 1) B6w.out hs44 (.bool s.un)) hs44 (.int .u32 s.sq))
      have B9 := hid (cthen hBel.out B9w.out)
      have O9 := hid (own_kept_t hO9.out B9w.out)
      have hsz9 : ((W6.setCell ⟨w44.heap.size, 1, none⟩ (.bool s.un)).setCell ⟨w44.heap.size, 2, none⟩ (.int .u32 s.sq)).heap.size = W6.heap.size := by simp
      have hnn := news_t 25 ((W6.setCell ⟨w44.heap.size, 1, none⟩ (.bool s.un)).setCell ⟨w44.heap.size, 2, none⟩ (.int .u32 s.sq)) s
      rw [hsz9] at hnn
      have HN := hid hnn
      clear hnn hsz9 O6 B6 B6w hs44 K6
      have HO2 := hid (ownT_alloc O9.out (.cells s.cells.toArray 25))
      have HBS := hid (below_alloc B9.out (.cells s.cells.toArray 25))
      obtain ⟨i0, hi0, hz0, hz1, hz2⟩ := info_parts infoR
      have HLN := hid (show (ofL true D j).length ≤ 65531 by rw [ofL_len]; omega)
      go_wp2_with (at_builtin; refine wpList_append_own _ rfl _ _ 71 rfl w1.heap.size 25 i0 _ 3 8 Tryz.underlying71 hi0 hz0 hz1 hz2 rfl (by decide) _ _ _ rfl HO2.out ⟨W6.heap.size, 0, none⟩ 1 1 s.cells rfl rfl HN.out (by intro u hu; simp only [Sk.cells, List.mem_cons, List.not_mem_nil, or_false] at hu; rcases hu with rfl | rfl | rfl <;> rfl) (by have := HLN.out; unfold maxLen; omega) (by have := HLN.out; omega) HBS.out.size ?_; intro v' w9 hown' hgrow _; have HI9 := hid (own_snoc hown'); have HB9 := hid (HBS.out.grown hgrow HBS.out.size (fun k hk => (World.ownsRow.lt HO2.out k hk).1)); clear hown' hgrow)
      obtain ⟨A9, c9, hA9⟩ := ownT_form HI9.out
      refine ⟨⟨j + 1, I + 2, by go_num, hid (by have := HI.out; omega), by have := HJ.out; omega, ⟨A9, c9, ?_⟩, ?_, HB9⟩, by have := HI.out; simp [intOf]; omega⟩
      · rw [hA9, List.length_append, ofL_len]
        rfl
      · rw [ofL_step, ← HS.out]
        exact HI9
    · obtain rfl : j = q := by omega
      have hw0 := (Below.cell (p := ⟨bw, ow + 0, none⟩) hBel.out (World.block_lt_of_cell? _ _ (HW.out 0 (by omega)))).trans (HW.out 0 (by omega))
      simp only [Nat.mul_zero, Nat.add_zero] at hw0
      have h01 : (0 : Int) < ((1 + 2 * j : Nat) : Int) := by omega
      have hI2 := HI.out
      subst hI2
      go_wp2_with fail
      go_ret2
      exact ⟨_, rfl, ownT_lower hO.out B1.out.size, cthen B1.out hBel.out⟩
end Go.Proofs.YtcjcgehhmjnlcaaGreatDoor
