/- 'sack.Build'. -/
import Derived.Test.YtcjcgehhmjnlcaaGreatDoorSbp
import Derived.Test.YtcjcgehhmjnlcaaGreatDoorSof
import Derived.Test.YtcjcgehhmjnlcaaGreatDoorQsa
set_option linter.unusedVariables false
set_option linter.unusedSimpArgs false
namespace Go.Proofs.YtcjcgehhmjnlcaaGreatDoor
open Go.RowKit Go.Shelf Go.Proofs.YtcjcgehhmjnlcaaGreatDoor.It Go.Proofs.YtcjcgehhmjnlcaaGreatDoorW.PrintWords Go.Proofs.YtcjcgehhmjnlcaaGreatDoorW.PrintLast Go.Proofs.YtcjcgehhmjnlcaaGreatDoorW.PrintMore
namespace Sk14
set_option maxHeartbeats 1000000 in
theorem keys_any (mb : Nat) (w : World) : Calls Tryz.prog 84 #[.map (some mb)] w fun e w' => e = .returned (.func (.func 114) #[] #[.pointer (some ⟨w.heap.size, 0, none⟩)]) ∧ w' = w.alloc (.cells #[.map (some mb)] 130) := by
  go_enter Tryz.func84, Tryz.ntmps84
  go_wp2_with fail
  go_ret
  exact ⟨rfl, rfl⟩
def saO (cum win : Int) (v u : Value) : Obj := .cells #[.int .u32 cum, .int .u32 win, v, u] 49 (0, 0)
/-- What holds in the first loop: H is held, D are the duplicates. -/
structure B1 (w : World) (cum win : Int) (i : Nat) (H D : List Int) (u : Value) (W : World) : Prop where
  bel : Below w.heap.size w W
  zero : W.heap[w.heap.size]? = some saZ
  s : W.heap[w.heap.size + 1]? = some (saO cum win (.slice none 0 0) u)
  row : OwnU W (w.heap.size + 3) u D
  map : OwnM W (w.heap.size + 2) i H
theorem B1.size {w : World} {cum win : Int} {i : Nat} {H D : List Int} {u : Value} {W : World} (h : B1 w cum win i H D u W) : w.heap.size + 3 ≤ W.heap.size := World.ownsMap.lt h.map
theorem B1.start (w : World) (cum win : Int) : B1 w cum win 0 [] [] (.slice none 0 0) (((w.alloc saZ).alloc (saO cum win (.slice none 0 0) (.slice none 0 0))).alloc (.map #[] 0)) := by
  have h1 := blk_alloc (x := .map #[] 0) (blk_new1 w saZ (saO cum win (.slice none 0 0) (.slice none 0 0)))
  have h0 := blk_alloc (x := .map #[] 0) (blk_alloc (x := saO cum win (.slice none 0 0) (.slice none 0 0)) (blk_new w saZ))
  have hm := ownM_made ((w.alloc saZ).alloc (saO cum win (.slice none 0 0) (.slice none 0 0)))
  rw [World.size_alloc, World.size_alloc] at hm
  exact ⟨below_alloc (below_alloc (below_alloc (Below.refl _ _) _) _) _, h0, h1, World.ownsRow_nil _ _ _ _, hm⟩
theorem map_no_row {w : World} {b n : Nat} {H : List Int} (h : OwnM w b n H) {t z base k : Nat} {v : Value} {xs : List Value} (hr : w.ownsRow base t z v k xs) : some b ≠ v.ownBlock := by
  obtain ⟨es, clock, hb, -⟩ := h
  rcases hr with ⟨-, ⟨rfl, -⟩ | ⟨g, cap, cur, rfl, -, hg, -⟩⟩
  · simp [Value.ownBlock]
  · intro e
    simp [Value.ownBlock] at e
    subst e
    rw [hb] at hg
    cases hg
theorem ownM_set {w : World} {b n : Nat} {H : List Int} (h : OwnM w b n H) {a : Addr} (ha : a.block ≠ b) (u : Value) : OwnM (w.setCell a u) b n H := by
  obtain ⟨es, clock, hb, h2⟩ := h
  exact ⟨es, clock, by rw [Below.heap_setCell w a u b (fun e => ha e.symm)]; exact hb, h2⟩
theorem B1.app {w : World} {cum win x : Int} {i k : Nat} {H D : List Int} {u u' : Value} {W W' : World} (h : B1 w cum win i H D u W) (hk : D.length = k) (hg : (W.alloc (.cells #[.int .u32 x] 23)).grownBy W' u.ownBlock) (ho : W'.ownsRow (w.heap.size + 3) 23 1 u' (k + 1) (D.map (Value.int .u32) ++ [.int .u32 x])) :
    W'.heap[w.heap.size + 1]? = some (saO cum win (.slice none 0 0) u) ∧ B1 w cum win (i + 1) H (D ++ [x]) u' (W'.setCell ⟨w.heap.size + 1, 3, none⟩ u') := by
  have hs := h.size
  have ha := below_alloc (Below.refl W.heap.size W) (.cells #[.int .u32 x] 23)
  have hl : ∀ j, u.ownBlock = some j → w.heap.size + 3 ≤ j := fun j hj => by
    rcases h.row with ⟨-, ⟨rfl, -⟩ | ⟨g, cap, cur, rfl, hgb, -⟩⟩
    · simp [Value.ownBlock] at hj
    · simp [Value.ownBlock] at hj; omega
  have n0 := row_apart h.row (by decide) h.zero
  have n1 := row_apart h.row (by decide) (show W.heap[w.heap.size + 1]? = some (.cells _ 49 (0, 0)) from h.s)
  have k0 := blk_below h.zero ha
  have k1 := blk_below h.s ha
  have z0 : W'.heap[w.heap.size]? = some saZ := by
    rw [hg.block _ (Array.getElem?_eq_some_iff.1 k0).1 n0]; exact k0
  have z1 : W'.heap[w.heap.size + 1]? = some (saO cum win (.slice none 0 0) u) := by
    rw [hg.block _ (Array.getElem?_eq_some_iff.1 k1).1 n1]; exact k1
  have hoU : OwnU W' (w.heap.size + 3) u' (D ++ [x]) := by
    unfold OwnU
    rw [List.length_append, List.map_append, hk]
    exact ho
  have hm : OwnM W' (w.heap.size + 2) i H := ownM_kept (World.ownsMap.alloc h.map _) hg (map_no_row h.map h.row)
  refine ⟨z1, ⟨below_set ((cthen h.bel ha).grown hg (cthen h.bel ha).size (fun j hj => by have := hl j hj; omega)) (Nat.le_succ _) _, ?_, set_blk' z1 3 u', ownsRow_setCell_below hoU (by show w.heap.size + 1 < w.heap.size + 3; omega) _, ?_⟩⟩
  · rw [Below.heap_setCell W' ⟨w.heap.size + 1, 3, none⟩ u' w.heap.size (by show w.heap.size ≠ w.heap.size + 1; omega)]
    exact z0
  · exact World.ownsMap.mono (ownM_set hm (by show w.heap.size + 1 ≠ w.heap.size + 2; omega) _) (Nat.le_succ _)
theorem B1.put {w : World} {cum win d : Int} {i : Nat} {H D : List Int} {u : Value} {W W' : World} (h : B1 w cum win i H D u W) (hg : W.grownBy W' (some (w.heap.size + 2))) (hm : OwnM W' (w.heap.size + 2) (i + 1) (H ++ [d])) : B1 w cum win (i + 1) (H ++ [d]) D u W' := by
  have hs := h.size
  refine ⟨below_grown h.bel hg (by omega), ?_, ?_, ?_, hm⟩
  · rw [hg.block _ (by omega) (by simp)]; exact h.zero
  · rw [hg.block _ (by omega) (by simp)]; exact h.s
  · exact World.ownsRow.kept h.row hg (.inr (Ne.symm (map_no_row h.map h.row)))
theorem B1.skip {w : World} {cum win : Int} {i : Nat} {H D : List Int} {u : Value} {W : World} (h : B1 w cum win i H D u W) : B1 w cum win (i + 1) H D u W := ⟨h.bel, h.zero, h.s, h.row, World.ownsMap.mono h.map (Nat.le_succ _)⟩
theorem bF_step {cum x : Int} {l : List Int} {i : Nat} (h : i < l.length) (hx : l.getD i 0 = x) : bFold cum (l.take (i + 1)) = bStep cum (bFold cum (l.take i)) x := by
  rw [List.take_succ_eq_append_getElem h, bFold_snoc]
  rw [List.getD_eq_getElem?_getD, List.getElem?_eq_getElem h] at hx
  simp at hx
  rw [hx]
/-- What holds in the loop that moves the first number on. -/
structure B2 (w : World) (cum win : Int) (i : Nat) (H D : List Int) (u : Value) (m : Int) (W : World) : Prop where
  b : B1 w ((cum + m) % 4294967296) win i H D u W
  m0 : 0 ≤ m
  up : ∀ j, 1 ≤ j → j ≤ m → j ∈ H
theorem B2.of {w : World} {cum win : Int} {i : Nat} {H D : List Int} {u : Value} {W : World} (h : B1 w cum win i H D u W) (hc : 0 ≤ cum ∧ cum < 4294967296) : B2 w cum win i H D u 0 W := by
  refine ⟨?_, Int.le_refl 0, fun j h1 h2 => by omega⟩
  rw [show (cum + 0) % 4294967296 = cum by omega]
  exact h
theorem B2.step {w : World} {cum win : Int} {i : Nat} {H D : List Int} {u : Value} {m : Int} {W : World} (h : B2 w cum win i H D u m W) (hm : m + 1 ∈ H) : B2 w cum win i H D u (m + 1) (W.setCell ⟨w.heap.size + 1, 0, none⟩ (.int .u32 ((cum + (m + 1)) % 4294967296))) := by
  obtain ⟨⟨b1, b2, b3, b4, b5⟩, h0, hu⟩ := h
  refine ⟨⟨below_set b1 (Nat.le_succ _) _, ?_, set_blk' b3 0 _, ownsRow_setCell_below b4 (by show w.heap.size + 1 < w.heap.size + 3; omega) _, ownM_set b5 (by show w.heap.size + 1 ≠ w.heap.size + 2; omega) _⟩, by omega, fun j h1 h2 => ?_⟩
  · rw [Below.heap_setCell W ⟨w.heap.size + 1, 0, none⟩ _ w.heap.size (by show w.heap.size ≠ w.heap.size + 1; omega)]
    exact b2
  · by_cases hj : j = m + 1
    · rw [hj]; exact hm
    · exact hu j h1 (by omega)
theorem asc_len {A : List Int} (h : Srt.Asc A) : ∀ {lo hi : Int}, lo ≤ hi → (∀ y ∈ A, lo < y) → (∀ y ∈ A, y ≤ hi) → (A.length : Int) ≤ hi - lo := by
  induction A with
  | nil => intro lo hi hle _ _; simp; omega
  | cons a A ih =>
    intro lo hi hle h1 h2
    have ha := h1 a (by simp)
    have hb := h2 a (by simp)
    have hp := List.pairwise_cons.1 h
    have := ih hp.2 (lo := a) (hi := hi) hb (fun y hy => hp.1 y hy) (fun y hy => h2 y (by simp [hy]))
    simp only [List.length_cons]
    omega
/-- The offsets that go into gaps. -/
def nearB (m d : Int) : Bool := decide (m < d) && decide (d - m ≤ 65535)
def nearL (m : Int) (L : List Int) : List Int := (L.filter (nearB m)).map (fun d => d - m)
theorem nearL_step {m d : Int} {L : List Int} {i : Nat} (h : i < L.length) (hd : L.getD i 0 = d) : nearL m (L.take (i + 1)) = nearL m (L.take i) ++ (if nearB m d = true then [d - m] else []) := by
  unfold nearL
  rw [List.take_succ_eq_append_getElem h, List.filter_append, List.map_append]
  rw [List.getD_eq_getElem?_getD, List.getElem?_eq_getElem h] at hd
  simp at hd
  rw [hd]
  by_cases hb : nearB m d = true
  · simp [hb]
  · simp [hb]
theorem nearL_asc {m : Int} {L : List Int} (h : Srt.Asc L) : Srt.Asc (nearL m L) := by
  unfold Srt.Asc nearL
  rw [List.pairwise_map]
  exact List.Pairwise.imp (fun h => by omega) (List.Pairwise.filter _ h)
theorem nearL_mem {m y : Int} {L : List Int} : y ∈ nearL m L ↔ m + y ∈ L ∧ 0 < y ∧ y ≤ 65535 := by
  unfold nearL nearB
  simp only [List.mem_map, List.mem_filter, Bool.and_eq_true, decide_eq_true_eq]
  constructor
  · rintro ⟨d, ⟨h1, h2, h3⟩, rfl⟩
    exact ⟨by rw [show m + (d - m) = d by omega]; exact h1, by omega, h3⟩
  · rintro ⟨h1, h2, h3⟩
    exact ⟨m + y, ⟨h1, by omega, by omega⟩, by omega⟩
theorem nearL_near {H L : List Int} {m : Int} (h : Srt.Asc L) (hm : ∀ x, x ∈ L ↔ x ∈ H) : Near H m (nearL m L) := ⟨nearL_asc h, fun y => by rw [nearL_mem, hm]⟩
theorem nearL_len {m : Int} {L : List Int} (h : Srt.Asc L) : (nearL m L).length ≤ 65535 := by
  have := asc_len (nearL_asc (m := m) h) (lo := 0) (hi := 65535) (by omega) (fun y hy => (nearL_mem.1 hy).2.1) (fun y hy => (nearL_mem.1 hy).2.2)
  omega
/-- What 'Build' gives, the package's and the reference's. -/
def BldPost (tg : Nat) (cum win : Int) (l : List Int) (w : World) (e : Ending) (w' : World) : Prop :=
  ∃ m B v u, e = .returned (.agg #[.int .u32 ((cum + m) % 4294967296), .int .u32 win, v, u]) ∧ Mv (bFold cum l).1 m ∧ Near (bFold cum l).1 m B ∧ OwnG tg w' w.heap.size v (gOf B) ∧ OwnU w' w.heap.size u (bFold cum l).2 ∧ Below w.heap.size w w'
/-- What holds in the loop over the held offsets. -/
structure B3 (w : World) (c2 win : Int) (G : List Gp) (D : List Int) (u : Value) (B : Nat) (kv : Value) (L : List Int) (W : World) : Prop where
  bel : Below w.heap.size w W
  zero : W.heap[w.heap.size]? = some saZ
  s : ∃ v, W.heap[w.heap.size + 1]? = some (saO c2 win v u) ∧ OwnG 93 W (w.heap.size + 3) v G
  row : OwnU W (w.heap.size + 3) u D
  keys : OwnU W B kv L
  sz : w.heap.size + 3 ≤ W.heap.size
theorem B3.of {w w0 w1 w2 : World} {cum win m c2 : Int} {i : Nat} {H D L : List Int} {u kv : Value} (h : B1 w ((cum + m) % 4294967296) win i H D u w0) (hc : (cum + m) % 4294967296 = c2) (h1 : Below w0.heap.size w0 w1) (hl : w0.heap.size < w1.heap.size) (h2 : Below w1.heap.size w1 w2) (hk : OwnU w2 w1.heap.size kv L) : B3 w c2 win [] D u w1.heap.size kv L w2 := by
  have h3 : Below w0.heap.size w0 w2 := cthen h1 h2
  have hs := h.size
  refine ⟨cthen h.bel h3, blk_below h.zero h3, ⟨_, blk_below (by rw [← hc]; exact h.s) h3, World.ownsRow_nil _ _ _ _⟩, row_kept h.row h3, hk, by have := h3.size; omega⟩
theorem B3.step {w : World} {c2 win d : Int} {G : List Gp} {D L : List Int} {u kv v' : Value} {B : Nat} {W W' : World} (h : B3 w c2 win G D u B kv L W) (h1 : W'.heap[w.heap.size + 1]? = some (.cells #[.int .u32 c2, .int .u32 win, v', u] 49 (0, 0))) (h2 : OwnG 93 W' (w.heap.size + 3) v' (gAdd G d)) (hk : Kpt 93 (w.heap.size + 1) W W') : B3 w c2 win (gAdd G d) D u B kv L W' := by
  obtain ⟨v, hs, -⟩ := h.s
  refine ⟨h.bel.trans (hk.bel.mono (Nat.le_succ _)), hk.keep _ _ h.zero (by omega) (by intro cs fr e; unfold saZ at e; injection e with _ e; exact absurd e (by decide)), ⟨v', h1, h2⟩, hk.row h.row (by decide) hs (by decide), hk.row h.keys (by decide) hs (by decide), Nat.le_trans h.sz hk.bel.size⟩
set_option maxRecDepth 100000 in
set_option maxHeartbeats 8000000 in
theorem build_any (cum win : Int) (A : Option Addr) (c : Nat) (l : List Int) (w : World) (hcu : 0 ≤ cum ∧ cum < 4294967296) (hS : UC w A l) (hc : l.length ≤ c) (hl : l.length ≤ 100000) :
    Calls Tryz.prog 35 #[.int .u32 cum, .int .u32 win, .slice A l.length c] w (BldPost 93 cum win l w) := by
  have HS := hid hS
  have HL := hid hl
  have HCU := hid hcu
  have hmm := @run_makeMap Tryz.prog
  have HB := hid (B1.start w cum win)
  clear hS hc hl hcu
  go_enter Tryz.func35, Tryz.ntmps35
  go_wp2_with fail
  clear hmm
  go_loopw [22] (fun iv W => ∃ (i : Nat) (A' : Option Addr) (c' : Nat), iv = .int .i64 i ∧ i ≤ l.length ∧ Hid (B1 w cum win i (bFold cum (l.take i)).1 (bFold cum (l.take i)).2 (.slice A' (bFold cum (l.take i)).2.length c') W)) (fun iv _ => l.length - (intOf iv).toNat)
  case atStart => exact ⟨0, none, 0, rfl, by omega, HB⟩
  case round =>
    obtain ⟨i, A', c', rfl, hi, hI⟩ := hrel
    clear HB
    by_cases hlt : i < l.length
    · rcases ints_cells (HS.out.below hI.out.bel) with h | ⟨b, off, rfl, hblt, hcell⟩
      · rw [h] at hlt; exact absurd hlt (by simp)
      · have k0 := hcell i hlt
        obtain ⟨x, hx⟩ : ∃ x, l.getD i 0 = x := ⟨_, rfl⟩
        rw [hx] at k0
        have HST := hid (bF_step (cum := cum) hlt hx)
        obtain ⟨d, hd⟩ : ∃ d, dst x cum = d := ⟨_, rfl⟩
        have hd2 : IntKind.u32.wrap (x - cum) = d := hd
        have HD := hid hd
        obtain ⟨⟨H, D⟩, hHD⟩ : ∃ S, bFold cum (l.take i) = S := ⟨_, rfl⟩
        rw [hHD] at hI
        have HHD := hid hHD
        simp only at hI
        have hlook := ownM_look hI.out.map (x := d) ⟨by rw [← hd]; exact dst_nonneg _ _, by rw [← hd]; exact dst_lt _ _⟩
        obtain ⟨⟨q0, q1, q2, q3⟩, ⟨r0, r1, r2, r3⟩⟩ := four (show wr.heap[w.heap.size + 1]? = some (.cells #[.int .u32 cum, .int .u32 win, .slice none 0 0, .slice A' D.length c'] 49 (0, 0)) from hI.out.s)
        clear hcell hx hd hHD
        have hx0 : 0 ≤ d := by rw [← HD.out]; exact dst_nonneg _ _
        have hx1 : d < 4294967296 := by rw [← HD.out]; exact dst_lt _ _
        obtain ⟨bP, hbP⟩ : ∃ b : Bool, ((d == 0) || decide (d > 2147483648) || decide (d ∈ H)) = b := ⟨_, rfl⟩
        have HBP := hid hbP
        clear hbP
        go_upto_region 7 with fail
        go_cut [11, 29] from 30 to 40 (fun v11 v W => v11 = .int .u32 d ∧ v = .bool bP ∧ W = wr)
        case first =>
          have hb := HBP.out
          by_cases c1 : d = 0
          · subst c1
            go_wp2_with fail
            go_meet
            exact ⟨rfl, by simpa using hb, rfl⟩
          · have c3 : (d == 0) = false := by simpa using c1
            rw [c3] at hb
            go_wp2_with fail
            all_goals
              go_meet
              exact ⟨rfl, by first | simpa using hb | simp_all, rfl⟩
        case rest =>
          obtain ⟨rfl, rfl, rfl⟩ := hcut
          have hok : i ≤ 100000 := by have := HL.out; omega
          have HDL := hid (show D.length ≤ 100000 by have := bFold_len cum (l.take i); rw [HHD.out] at this; simp at this; omega)
          have hi2 : i + 1 ≤ l.length := hlt
          have hms : l.length - (intOf (.int .i64 (wrap64 ((i : Int) + 1)))).toNat < l.length - i := by
            rw [show wrap64 ((i : Int) + 1) = ((i + 1 : Nat) : Int) by unfold wrap64; omega]
            simp only [intOf, Int.toNat_natCast]
            omega
          have hwi : wrap64 ((i : Int) + 1) = ((i + 1 : Nat) : Int) := by unfold wrap64; omega
          have HWI := hid hwi
          clear hwi
          cases bP with
          | true =>
            have HP := hid (show d = 0 ∨ d > 2147483648 ∨ d ∈ H by simpa [or_assoc] using HBP.out)
            obtain ⟨i0, hi0, hz0, hz1, hz2⟩ := info_parts infoU
            have hrow := hI.out.row
            unfold OwnU at hrow
            have HOW := hid (World.ownsRow.alloc hrow (.cells #[.int .u32 x] 23))
            have HB2 := hid (show w.heap.size + 3 ≤ (wc.alloc (.cells #[.int .u32 x] 23)).heap.size by rw [World.size_alloc]; have := hI.out.size; omega)
            clear hrow hok hi2 hlook
            go_wp2_with (at_builtin; go_loud (refine wpList_append_own _ rfl _ _ 42 rfl (w.heap.size + 3) 23 i0 _ 1 4 Tryz.underlying42 hi0 hz0 hz1 hz2 rfl (by decide) _ _ _ rfl HOW.out ⟨wc.heap.size, 0, none⟩ 1 1 [.int .u32 x] rfl rfl (cell_one_new _ _ _) (by simp [Value.oneCell']) (by have := HDL.out; unfold maxLen; omega) (by have := HDL.out; omega) HB2.out ?_; intro v' w9 hown' hgrow _; have hK := hid (B1.app hI.out rfl hgrow hown'); obtain ⟨A9, c9, rfl⟩ := ownsRow_form hown'; clear q0 q1 q2 q3 r0 r1 r2 r3; obtain ⟨⟨q0, q1, q2, q3⟩, ⟨r0, r1, r2, r3⟩⟩ := four hK.out.1))
            refine ⟨⟨i + 1, A9, c9, by rw [HWI.out], hlt, hid ?_⟩, hms⟩
            rw [HST.out, HHD.out]
            unfold bStep
            rw [HD.out, if_pos HP.out]
            simp only [List.length_append, List.length_singleton]
            exact hK.out.2
          | false =>
            have HP := hid (show ¬ (d = 0 ∨ d > 2147483648 ∨ d ∈ H) by have := HBP.out; simp at this; rintro (h | h | h); exact this.1.1 h; omega; exact this.2 h)
            by_cases hh : d < 2147483648
            · obtain ⟨w', hrun, hm, hgr⟩ := ownM_put hI.out.map (by omega) (x := d) ⟨hx0, hx1⟩
              have HM := hid (B1.put hI.out hgr hm)
              clear hm hgr hok hi2 hlook
              go_wp2_with fail
              refine ⟨⟨i + 1, A', c', by rw [HWI.out], hlt, hid ?_⟩, hms⟩
              rw [HST.out, HHD.out]
              unfold bStep
              rw [HD.out, if_neg HP.out, if_pos hh]
              exact HM.out
            · clear hok hi2 hlook
              go_wp2_with fail
              refine ⟨⟨i + 1, A', c', by rw [HWI.out], hlt, hid ?_⟩, hms⟩
              rw [HST.out, HHD.out]
              unfold bStep
              rw [HD.out, if_neg HP.out, if_neg hh]
              exact hI.out.skip
    · obtain rfl : i = l.length := by omega
      rw [List.take_length] at hI
      obtain ⟨⟨H, D⟩, hHD⟩ : ∃ S, bFold cum l = S := ⟨_, rfl⟩
      rw [hHD] at hI
      have HHD := hid hHD
      simp only at hI
      have HH := hid (show ∀ y ∈ H, 0 < y ∧ y < 2147483648 by intro y hy; have := (bFold_mem cum l y).1 (by rw [hHD]; exact hy); exact this.2)
      have HDL := hid (show D.length ≤ 100000 by have := bFold_len cum l; rw [hHD] at this; have := HL.out; simp only at *; omega)
      have HHL := hid (show H.length ≤ 100000 by have := bFold_len cum l; rw [hHD] at this; have := HL.out; simp only at *; omega)
      clear hHD
      have HI0 := hid (B2.of hI.out HCU.out)
      go_wp2_with fail
      go_loopg [] 2147483648 (fun k W => ∃ m : Int, m + k = 2147483648 ∧ Hid (B2 w cum win l.length H D (.slice A' D.length c') m W))
      case atStart => exact ⟨0, by omega, HI0⟩
      case round =>
        obtain ⟨m, hmk, hI2⟩ := hrel
        have hmlt : m < 2147483647 ∨ m = 2147483647 := by
          have h0 := hI2.out.m0
          by_cases hz : m = 0
          · omega
          · have := (HH.out m (hI2.out.up m (by omega) (Int.le_refl m))).2; omega
        have h0 := hI2.out.m0
        obtain ⟨c2, hc2⟩ : ∃ c2, (cum + m) % 4294967296 = c2 := ⟨_, rfl⟩
        obtain ⟨c3, hc3⟩ : ∃ c3, (cum + (m + 1)) % 4294967296 = c3 := ⟨_, rfl⟩
        have hk1 : IntKind.u32.wrap (c2 - cum) = m := by show (c2 - cum) % 4294967296 = m; omega
        have hk2 : IntKind.u32.wrap (m + 1) = m + 1 := by show (m + 1) % 4294967296 = m + 1; omega
        have hk3 : IntKind.u32.wrap (c2 + 1) = c3 := by show (c2 + 1) % 4294967296 = c3; omega
        have hlook := ownM_look hI2.out.b.map (x := m + 1) ⟨by omega, by omega⟩
        have hs := hI2.out.b.s
        rw [hc2] at hs
        obtain ⟨⟨q0, q1, q2, q3⟩, ⟨r0, r1, r2, r3⟩⟩ := four hs
        have HC2 := hid hc2
        have HC3 := hid hc3
        have HMK := hid hmk
        have HM0 := hid h0
        clear hs hc2 hc3 hmk h0 hmlt
        by_cases hm : m + 1 ∈ H
        · rw [decide_eq_true hm] at hlook
          have hst := hid (hI2.out.step hm)
          rw [HC3.out] at hst
          go_wp2_with fail
          go_roundg (gk - 1)
          case measure => have := HMK.out; have := (HH.out (m + 1) hm).2; omega
          case rel => exact ⟨m + 1, by have := HMK.out; have := (HH.out (m + 1) hm).2; omega, hst⟩
        · rw [decide_eq_false hm] at hlook
          have HMV := hid (show Mv H m from ⟨hI2.out.m0, hI2.out.up, hm⟩)
          have hkeys := keys_any (w.heap.size + 2) wr
          go_wp2_with fail
          refine hkeys.mono ?_
          rintro e w1 ⟨rfl, hw1⟩
          have hb1 := hid (show Below wr.heap.size wr w1 by rw [hw1]; exact below_alloc (Below.refl _ _) _)
          have hbx := hid (show w1.cell? ⟨wr.heap.size, 0, none⟩ = some (.map (some (w.heap.size + 2))) by rw [hw1]; unfold World.cell?; rw [blk_new wr _]; rfl)
          have hbl := hid (show wr.heap.size < w1.heap.size by rw [hw1, World.size_alloc]; omega)
          have hmp := hid (show OwnM w1 (w.heap.size + 2) l.length H by rw [hw1]; exact World.ownsMap.alloc hI2.out.b.map _)
          have hso := hid (Srt.sorted_keys (w.heap.size + 2) l.length (hD H) wr.heap.size w1 hbl.out hbx.out hmp.out (by have := hD_size H; have := HHL.out; omega))
          clear hw1 hkeys hlook
          go_wp2_with fail
          refine hso.out.mono ?_
          rintro e w2 ⟨kv, L, rfl, hasc, hmem, hrow, hb2⟩
          obtain ⟨K, cK, rfl⟩ := ownsRow_form hrow
          have hLH : ∀ x, x ∈ L ↔ x ∈ H := fun x => (hmem x).trans (hD_has H x)
          have HLH := hid hLH
          have HASC := hid hasc
          have hLn := asc_len hasc (lo := 0) (hi := 2147483648) (by omega) (fun y hy => (HH.out y ((hLH y).1 hy)).1) (fun y hy => by have := (HH.out y ((hLH y).1 hy)).2; omega)
          obtain ⟨n, hn⟩ : ∃ n, L.length = n := ⟨_, rfl⟩
          rw [hn] at hrow hLn ⊢
          have HLN := hid hn
          have HNL := hid (show n ≤ 2147483648 by omega)
          have HB3 := hid (B3.of (m := m) (u := .slice A' D.length c') (L := L) (kv := .slice K n cK) hI2.out.b HC2.out hb1.out hbl.out hb2 (show OwnU w2 w1.heap.size (.slice K n cK) L by unfold OwnU; rw [hn]; exact hrow))
          clear hLH hLn hn hrow hmem hasc hb2 q0 q1 q2 q3 r0 r1 r2 r3
          go_wp2_with fail
          go_loopw [73] (fun iv W => ∃ i : Nat, iv = .int .i64 i ∧ i ≤ n ∧ Hid (B3 w c2 win (gOf (nearL m (L.take i))) D (.slice A' D.length c') w1.heap.size (.slice K n cK) L W)) (fun iv _ => n - (intOf iv).toNat)
          case atStart => exact ⟨0, rfl, by omega, HB3⟩
          case round =>
            obtain ⟨i, rfl, hi, hI⟩ := hrel
            clear HB3
            obtain ⟨v, hs, hG⟩ := hI.out.s
            have HS2 := hid hs
            have HG := hid hG
            by_cases hlt : i < n
            · obtain ⟨K', cK', eK, -, hK⟩ := ownU_read hI.out.keys
              injection eK with e1 e2 e3
              subst e1
              clear e2 e3
              rcases ints_cells hK with h | ⟨bk, ok, rfl, -, hcell⟩
              · have := HLN.out; rw [h] at this; exact absurd hlt (by simp at this; omega)
              · have k0 := hcell i (by have := HLN.out; omega)
                obtain ⟨d, hd⟩ : ∃ d, L.getD i 0 = d := ⟨_, rfl⟩
                rw [hd] at k0
                have HST := hid (nearL_step (m := m) (by have := HLN.out; omega) hd)
                have hdH : d ∈ H := (HLH.out d).1 (by rw [← hd, List.getD_eq_getElem?_getD, List.getElem?_eq_getElem (by have := HLN.out; omega)]; exact List.getElem_mem _)
                have hdb := HH.out d hdH
                have hwd : d > m → IntKind.u32.wrap (d - m) = d - m := fun h => by show (d - m) % 4294967296 = d - m; have := HM0.out; omega
                have hms : n - (intOf (.int .i64 (wrap64 ((i : Int) + 1)))).toNat < n - i := by
                  rw [show wrap64 ((i : Int) + 1) = ((i + 1 : Nat) : Int) by have := HNL.out; unfold wrap64; omega]
                  simp only [intOf, Int.toNat_natCast]
                  omega
                have HWI := hid (show wrap64 ((i : Int) + 1) = ((i + 1 : Nat) : Int) by have := HNL.out; unfold wrap64; omega)
                have HMS := hid hms
                clear hcell hd hdH hdb hms hK
                by_cases c1 : d > m
                · have hwd2 := hwd c1
                  obtain ⟨y, hy⟩ : ∃ y, d - m = y := ⟨_, rfl⟩
                  have hwd3 : (d - m) % 4294967296 = y := by rw [← hy]; exact hwd2
                  have HY := hid hy
                  clear hwd hwd2 hy
                  by_cases c3 : y ≤ 65535
                  · have HNB := hid (show nearB m d = true by unfold nearB; have := HY.out; simp; omega)
                    have hG1 := gOf_in (nearL m (L.take i)) (fun z hz => by have := nearL_mem.1 hz; omega)
                    have hadd := add_any (w.heap.size + 1) (w.heap.size + 3) (.int .u32 c2) (.int .u32 win) v (.slice A' D.length c') (gOf (nearL m (L.take i))) y wr ⟨by have := HY.out; omega, c3⟩ (fun g hg => by have := hG1.1 g hg; omega) (by have := gOf_len (nearL m (L.take i)); have := nearL_len (m := m) (List.Pairwise.sublist (List.take_sublist i L) HASC.out); omega) (by omega) hI.out.sz HS2.out HG.out
                    have HADD := hid hadd
                    clear hadd hG1 hs hG
                    go_wp2_with fail
                    refine HADD.out.mono ?_
                    rintro e W2 ⟨rfl, v', hv1, hv2, hv3⟩
                    have HB3 := hid (hI.out.step hv1 hv2 hv3)
                    clear hv1 hv2 hv3
                    go_wp2_with fail
                    go_roundw
                    case rel =>
                      refine ⟨i + 1, by rw [HWI.out], hlt, hid ?_⟩
                      rw [HST.out, if_pos HNB.out, gOf_snoc, HY.out]
                      exact HB3.out
                    case measure => exact HMS.out
                  · have HNB := hid (show nearB m d = false by unfold nearB; have := HY.out; simp; omega)
                    clear hs hG
                    go_wp2_with fail
                    refine ⟨⟨i + 1, by rw [HWI.out], hlt, hid ?_⟩, HMS.out⟩
                    rw [HST.out, HNB.out, if_neg (by decide), List.append_nil]
                    exact hI.out
                · have HNB := hid (show nearB m d = false by unfold nearB; simp; omega)
                  clear hs hG hwd
                  go_wp2_with fail
                  refine ⟨⟨i + 1, by rw [HWI.out], hlt, hid ?_⟩, HMS.out⟩
                  rw [HST.out, HNB.out, if_neg (by decide), List.append_nil]
                  exact hI.out
            · obtain rfl : i = n := by omega
              obtain ⟨vA, vc, rfl⟩ := ownsRow_form hG
              obtain ⟨⟨q0, q1, q2, q3⟩, ⟨r0, r1, r2, r3⟩⟩ := four HS2.out
              obtain ⟨⟨z0, z1, z2, z3⟩, ⟨y0, y1, y2, y3⟩⟩ := four (show wr.heap[w.heap.size]? = some (.cells #[.int .u32 0, .int .u32 0, .slice none 0 0, .slice none 0 0] 49 (0, 0)) from hI.out.zero)
              clear hs hG
              go_wp2_with fail
              refine bodyPost_ret (v := .agg #[.int .u32 c2, .int .u32 win, .slice vA (gOf (nearL m (L.take i))).length vc, .slice A' D.length c']) (by simp [results, Tryz.results35, go_sem, z0, z1, z2, z3]) rfl ?_
              have hG9 := HG.out
              have hU9 := hI.out.row
              have hb9 := hI.out.bel
              have hlt9 : ∀ k, (⟨w.heap.size, k, none⟩ : Addr).block < w.heap.size + 3 := fun k => by show w.heap.size < w.heap.size + 3; omega
              have hle9 : ∀ k, w.heap.size ≤ (⟨w.heap.size, k, none⟩ : Addr).block := fun k => Nat.le_refl _
              have hLi : L.take i = L := by rw [← HLN.out, List.take_length]
              refine ⟨m, nearL m L, .slice vA (gOf (nearL m (L.take i))).length vc, .slice A' D.length c', by rw [HC2.out], by rw [HHD.out]; exact HMV.out, by rw [HHD.out]; exact nearL_near HASC.out HLH.out, ?_, ?_, below_set (below_set (below_set (below_set hb9 (hle9 0) _) (hle9 1) _) (hle9 2) _) (hle9 3) _⟩
              · have := ownG_lower (ownsRow_setCell_below (ownsRow_setCell_below (ownsRow_setCell_below (ownsRow_setCell_below hG9 (hlt9 0) (.int .u32 c2)) (hlt9 1) (.int .u32 win)) (hlt9 2) (.slice vA (gOf (nearL m (L.take i))).length vc)) (hlt9 3) (.slice A' D.length c')) (b0 := w.heap.size) (by omega)
                rw [hLi] at this ⊢
                exact this
              · rw [HHD.out]
                exact ownU_lower (ownsRow_setCell_below (ownsRow_setCell_below (ownsRow_setCell_below (ownsRow_setCell_below hU9 (hlt9 0) _) (hlt9 1) _) (hlt9 2) _) (hlt9 3) _) (by omega)
end Sk14
end Go.Proofs.YtcjcgehhmjnlcaaGreatDoor
/- 'awake' of layer 14. -/
set_option linter.unusedVariables false
set_option linter.unusedSimpArgs false
namespace Go.Proofs.YtcjcgehhmjnlcaaGreatDoor
open Go.RowKit Go.Shelf Go.Proofs.YtcjcgehhmjnlcaaGreatDoor.It Go.Proofs.YtcjcgehhmjnlcaaGreatDoorW.PrintWords Go.Proofs.YtcjcgehhmjnlcaaGreatDoorW.PrintLast Go.Proofs.YtcjcgehhmjnlcaaGreatDoorW.PrintMore
namespace Sk14
open PSackMatchesReference
theorem aw_fold : bFold 10 [11, 13, 14, 11] = ([1, 3, 4], [11]) := by decide
theorem aw_mv : Mv [1, 3, 4] 1 := by
  refine ⟨by decide, fun i h1 h2 => ?_, by decide⟩
  obtain rfl : i = 1 := by omega
  simp
theorem aw_near : Near [1, 3, 4] 1 [2, 3] := by
  refine ⟨by unfold Srt.Asc; simp, fun y => ?_⟩
  simp
  omega
theorem aw_0 : (sW (sMd 11 0 [⟨2, 3⟩] [11])).getD 0 0 = 11 := by kernel_rfl
theorem aw_1 : (sW (sMd 11 0 [⟨2, 3⟩] [11])).getD 1 0 = 0 := by kernel_rfl
theorem aw_gs : sGs (sMd 11 0 [⟨2, 3⟩] [11]) (sN (sMd 11 0 [⟨2, 3⟩] [11])) = [⟨2, 3⟩] := by kernel_rfl
theorem aw_us : (sW (sMd 11 0 [⟨2, 3⟩] [11])).drop (3 + sN (sMd 11 0 [⟨2, 3⟩] [11])) = [11] := by kernel_rfl
theorem aw_e3 : E3 0 (sMd 11 0 [⟨2, 3⟩] [11]) 0 = none := by kernel_rfl
theorem aw_len : (sMd 11 0 [⟨2, 3⟩] [11]).length = 20 := by kernel_rfl
theorem aw_same : sack_Same.f 9 11 0 [⟨2, 3⟩] [11] 11 0 [⟨2, 3⟩] [11] = some true := by kernel_rfl
theorem aw_byt : Byt (sMd 11 0 [⟨2, 3⟩] [11]) := by
  have h : (sMd 11 0 [⟨2, 3⟩] [11]).all (fun x => decide (0 ≤ x) && decide (x ≤ 255)) = true := by kernel_rfl
  intro x hx
  have := List.all_eq_true.1 h x hx
  simpa using this
set_option maxRecDepth 100000 in
set_option maxHeartbeats 8000000 in
theorem sawake_any (w : World) (hg : GTab w) : Calls Tryz.prog 19 #[] w (IsPost (.bool true) w) := by
  have hU0 : UC (w.alloc (.cells #[.int .u32 11, .int .u32 13, .int .u32 14, .int .u32 11] 23)) (some ⟨w.heap.size, 0, none⟩) [11, 13, 14, 11] := row_put _ _ [11, 13, 14, 11] (by simp) (blk_new _ _)
  have hB := hid (build_any 10 0 (some ⟨w.heap.size, 0, none⟩) 4 [11, 13, 14, 11] _ (by omega) hU0 (by simp) (by simp))
  have HB0 := hid (below_alloc (Below.refl w.heap.size w) (.cells #[.int .u32 11, .int .u32 13, .int .u32 14, .int .u32 11] 23))
  have HGT := hid hg
  clear hU0 hg
  go_enter Tryz.func19, Tryz.ntmps19
  go_wp2_with fail
  refine hB.out.mono ?_
  rintro e w1 ⟨m, B, v, u, rfl, hmv, hnr, hG, hU, hb⟩
  rw [aw_fold] at hmv hnr hU
  obtain rfl : m = 1 := Mv.unique hmv aw_mv
  obtain rfl : B = [2, 3] := Near.unique hnr aw_near
  rw [show gOf [2, 3] = [⟨2, 3⟩] from rfl] at hG
  rw [show ((10 : Int) + 1) % 4294967296 = 11 by decide]
  obtain ⟨A1, c1, rfl, hc1, hg1, -⟩ := ownG_read hG
  obtain ⟨A2, c2, rfl, hc2, hu2⟩ := ownU_read hU
  have HB1 := hid (cthen HB0.out hb)
  have HG1 := hid hg1
  have HU2 := hid hu2
  have HC1 := hid hc1
  have HC2 := hid hc2
  clear hmv hnr hG hU hb hc1 hc2 hg1 hu2 hB
  simp only [List.length_singleton]
  go_wp2_with fail
  obtain ⟨S1, hS1⟩ : ∃ S1, w1.alloc (.cells #[.int .u32 11, .int .u32 0, .slice A1 1 c1, .slice A2 1 c2] 49) = S1 := ⟨_, rfl⟩
  have HP1 := hid (show S1.heap[w1.heap.size]? = some (.cells #[.int .u32 11, .int .u32 0, .slice A1 1 c1, .slice A2 1 c2] 49 (0, 0)) by rw [← hS1]; exact blk_new w1 _)
  have HBS1 := hid (show Below w1.heap.size w1 S1 by rw [← hS1]; exact below_alloc (Below.refl _ _) _)
  rw [hS1]
  clear hS1
  have hm := smake_yes 11 0 A1 A2 c1 c2 [⟨2, 3⟩] [11] S1 (HG1.out.below HBS1.out) HC1.out (HU2.out.below HBS1.out) HC2.out (by decide)
  refine hm.mono ?_
  rintro e w2 ⟨vd, rfl, hD, hb2⟩
  obtain ⟨Ad, cd, rfl, hcd, hbc, -⟩ := own_slice hD
  have HB2 := hid (cthen HBS1.out hb2)
  have HBC := hid hbc
  have HCD := hid hcd
  obtain ⟨Dt, hDt⟩ : ∃ Dt, sMd 11 0 [⟨2, 3⟩] [11] = Dt := ⟨_, rfl⟩
  rw [hDt] at HBC HCD ⊢
  have hL := aw_len
  rw [hDt] at hL
  rw [hL]
  have HDT := hid hDt
  have HP2 := hid (blk_below HP1.out hb2)
  clear hm hD hb2 hbc hcd hDt
  go_wp2_with fail
  obtain ⟨S2, hS2⟩ : ∃ S2, w2.alloc (.cells #[.int .u8 3, .int .u8 0, .slice Ad 20 cd, .slice none 0 0] 35) = S2 := ⟨_, rfl⟩
  have HBS2 := hid (show Below w2.heap.size w2 S2 by rw [← hS2]; exact below_alloc (Below.refl _ _) _)
  have HPC := hid (show S2.heap[w2.heap.size]? = some (.cells #[.int .u8 3, .int .u8 0, .slice Ad 20 cd, .slice none 0 0] 35 (0, 0)) by rw [← hS2]; exact blk_new w2 _)
  have HB3 := hid (cthen (cthen HB1.out HB2.out) HBS2.out)
  have HP3 := hid (blk_below HP2.out HBS2.out)
  rw [hS2]
  clear hS2
  have hof := sof_yes 0 Ad none cd 0 0 Dt S2 (HBC.out.below HBS2.out) (by rw [← HDT.out]; exact aw_byt) HCD.out (by omega) (by omega) (by rw [← HDT.out]; decide) (fun W hW => by
    have := check_3 0 Ad none cd 0 0 Dt W (HGT.out.below (cthen HB3.out hW)) (by omega) ((HBC.out.below HBS2.out).below hW) (by rw [← HDT.out]; exact aw_byt) HCD.out (by omega)
    rw [← HDT.out, aw_e3] at this
    rw [← HDT.out]
    exact this)
  rw [hL] at hof
  unfold ckV at hof
  refine hof.mono ?_
  rintro e w3 ⟨xv, xu, rfl, hxG, hxU, hb3⟩
  rw [← HDT.out] at hxG hxU
  rw [aw_gs] at hxG
  rw [aw_us] at hxU
  rw [← HDT.out, aw_0, aw_1]
  obtain ⟨A3, c3, rfl, hc3, hg3, -⟩ := ownG_read hxG
  obtain ⟨A4, c4, rfl, hc4, hu4⟩ := ownU_read hxU
  have HB4 := hid (cthen HB3.out hb3)
  have HP4 := hid (blk_below HP3.out hb3)
  have HG3 := hid hg3
  have HU4 := hid hu4
  have HC3 := hid hc3
  have HC4 := hid hc4
  have HBS3 := hid hb3
  clear hof hxG hxU hb3 hc3 hc4 hg3 hu4
  simp only [List.length_singleton]
  go_wp2_with fail
  obtain ⟨S3, hS3⟩ : ∃ S3, w3.alloc (.cells #[.int .u32 11, .int .u32 0, .slice A3 1 c3, .slice A4 1 c4] 49) = S3 := ⟨_, rfl⟩
  have HBS4 := hid (show Below w3.heap.size w3 S3 by rw [← hS3]; exact below_alloc (Below.refl _ _) _)
  have HX3 := hid (show S3.heap[w3.heap.size]? = some (.cells #[.int .u32 11, .int .u32 0, .slice A3 1 c3, .slice A4 1 c4] 49 (0, 0)) by rw [← hS3]; exact blk_new w3 _)
  have HS3 := hid (blk_below HP4.out HBS4.out)
  rw [hS3]
  clear hS3
  have hz := sof_other 0 0 none none 0 0 0 0 S3 (by decide)
  unfold ckV at hz
  refine hz.mono ?_
  rintro e w4 ⟨rfl, hb4⟩
  have HBZ := hid (cthen (cthen HB4.out HBS4.out) hb4)
  have HB34 := hid (cthen HBS4.out hb4)
  have HS4 := hid (blk_below HS3.out hb4)
  have HX4 := hid (blk_below HX3.out hb4)
  clear hz hb4
  go_upto_region 7 with fail
  obtain ⟨S4, hS4⟩ : ∃ S4, w4.alloc (.cells #[.int .u32 0, .int .u32 0, .slice none 0 0, .slice none 0 0] 49) = S4 := ⟨_, rfl⟩
  have hb5 : Below w4.heap.size w4 S4 := by rw [← hS4]; exact below_alloc (Below.refl _ _) _
  have HB5 := hid (cthen HBZ.out hb5)
  have HB35 := hid (cthen HB34.out hb5)
  have HB15 := hid (cthen (cthen (cthen HB2.out HBS2.out) HBS3.out) HB35.out)
  have HS5 := hid (blk_below HS4.out hb5)
  have HX5 := hid (blk_below HX4.out hb5)
  rw [hS4]
  clear hS4 hb5
  have HG5 := hid (HG1.out.below HB15.out)
  have HU5 := hid (HU2.out.below HB15.out)
  have HH5 := hid (HG3.out.below HB35.out)
  have HV5 := hid (HU4.out.below HB35.out)
  rcases HG5.out with h | ⟨bg, og, eg, hcg⟩
  · exact absurd h (by simp)
  rcases ints_cells HU5.out with h | ⟨bu, ou, eu, -, hcu⟩
  · exact absurd h (by simp)
  subst eg
  subst eu
  have g0 : S4.cell? ⟨bg, og, none⟩ = some (.int .u16 2) := (hcg 0 (by simp)).1
  have g1 : S4.cell? ⟨bg, og + 1, none⟩ = some (.int .u16 3) := (hcg 0 (by simp)).2
  have u0 : S4.cell? ⟨bu, ou, none⟩ = some (.int .u32 11) := hcu 0 (by simp)
  obtain ⟨⟨p0, p1, p2, p3⟩, -⟩ := four HS5.out
  obtain ⟨⟨x0, x1, x2, x3⟩, -⟩ := four HX5.out
  have hsame := sack_Same.calls 9 11 0 A3 c3 [⟨2, 3⟩] A4 c4 [11] 11 0 (some ⟨bg, og, none⟩) c1 [⟨2, 3⟩] (some ⟨bu, ou, none⟩) c2 [11] true S4 (kc_of_gpc HH5.out (by simp)) HC3.out HV5.out HC4.out (kc_of_gpc HG5.out (by simp)) HC1.out HU5.out HC2.out aw_same
  clear hcg hcu
  go_wp2_with fail
  refine hsame.mono ?_
  rintro e w5 ⟨rfl, hb6⟩
  have HB6 := hid (cthen HB5.out hb6)
  have HG6 := hid (HG5.out.below hb6)
  obtain ⟨⟨p0, p1, p2, p3⟩, -⟩ := four (blk_below HS5.out hb6)
  have HS6 := hid (blk_below HS5.out hb6)
  have hcov := covers_any 11 0 13 (some ⟨bg, og, none⟩) (some ⟨bu, ou, none⟩) c1 1 c2 [⟨2, 3⟩] w5 HG6.out HC1.out (by simp)
  clear hb6 hsame x0 x1 x2 x3 g0 g1 u0
  go_wp2_with fail
  refine hcov.mono ?_
  rw [show covV 11 [⟨2, 3⟩] 13 = true by decide]
  rintro e w6 ⟨rfl, hb7⟩
  have HB7 := hid (cthen HB6.out hb7)
  have HG7 := hid (HG6.out.below hb7)
  obtain ⟨⟨p0, p1, p2, p3⟩, -⟩ := four (blk_below HS6.out hb7)
  have HS7 := hid (blk_below HS6.out hb7)
  have hcov2 := covers_any 11 0 12 (some ⟨bg, og, none⟩) (some ⟨bu, ou, none⟩) c1 1 c2 [⟨2, 3⟩] w6 HG7.out HC1.out (by simp)
  clear hb7 hcov
  go_wp2_with fail
  refine hcov2.mono ?_
  rw [show covV 11 [⟨2, 3⟩] 12 = false by decide]
  rintro e w7 ⟨rfl, hb8⟩
  have HB8 := hid (cthen HB7.out hb8)
  have HG8 := hid (HG7.out.below hb8)
  obtain ⟨⟨p0, p1, p2, p3⟩, -⟩ := four (blk_below HS7.out hb8)
  have hcov3 := covers_any 11 0 9 (some ⟨bg, og, none⟩) (some ⟨bu, ou, none⟩) c1 1 c2 [⟨2, 3⟩] w7 HG8.out HC1.out (by simp)
  clear hb8 hcov2
  go_wp2_with fail
  refine hcov3.mono ?_
  rw [show covV 11 [⟨2, 3⟩] 9 = true by decide]
  rintro e w8 ⟨rfl, hb9⟩
  have HB9 := hid (cthen HB8.out hb9)
  clear hb9 hcov3
  go_wp2_with fail
  go_ret
  exact ⟨rfl, HB9.out⟩
end Sk14
end Go.Proofs.YtcjcgehhmjnlcaaGreatDoor
