/- 'wharfref14.Build'. -/
import Derived.Test.YtcjcgehhmjnlcaaGreatDoorSbd
set_option linter.unusedVariables false
set_option linter.unusedSimpArgs false
namespace Go.Proofs.YtcjcgehhmjnlcaaGreatDoor
open Go.RowKit Go.Shelf Go.Proofs.YtcjcgehhmjnlcaaGreatDoor.It Go.Proofs.YtcjcgehhmjnlcaaGreatDoorW.PrintWords Go.Proofs.YtcjcgehhmjnlcaaGreatDoorW.PrintLast Go.Proofs.YtcjcgehhmjnlcaaGreatDoorW.PrintMore
namespace Sk14
set_option maxHeartbeats 2000000 in
theorem rhas_any (A : Option Addr) (c : Nat) (l : List Int) (x : Int) (w : World) (hS : UC w A l) (hc : l.length ≤ c) (hl : l.length ≤ 1000000) :
    Calls Tryz.prog 85 #[.slice A l.length c, .int .u32 x] w fun e w' => e = .returned (.bool (decide (x ∈ l))) ∧ w' = w := by
  have HS := hid hS
  clear hS
  go_enter Tryz.func85, Tryz.ntmps85
  go_wp2_with fail
  go_loopw [5] (fun iv W => ∃ i : Nat, iv = .int .i64 i ∧ i ≤ l.length ∧ x ∉ l.take i ∧ W = w) (fun iv _ => l.length - (intOf iv).toNat)
  case atStart => exact ⟨0, rfl, by omega, by simp, rfl⟩
  case round =>
    obtain ⟨i, rfl, hi, hn, rfl⟩ := hrel
    by_cases hlt : i < l.length
    · rcases ints_cells HS.out with h | ⟨b, off, rfl, -, hcell⟩
      · rw [h] at hlt; exact absurd hlt (by simp)
      · have k0 := hcell i hlt
        obtain ⟨y, hy⟩ : ∃ y, l.getD i 0 = y := ⟨_, rfl⟩
        rw [hy] at k0
        have HY := hid hy
        have HN := hid hn
        have HLT := hid hlt
        clear hcell hy hn
        by_cases he : y = x
        · subst he
          have hm : decide (y ∈ l) = true := by
            apply decide_eq_true
            have h1 := HY.out
            rw [List.getD_eq_getElem?_getD, List.getElem?_eq_getElem hlt] at h1
            exact List.mem_of_getElem (by simpa using h1)
          have HM := hid hm
          clear hm
          go_wp2_with fail
          go_ret
          exact ⟨by rw [HM.out]; rfl, rfl⟩
        · have hbq : (y == x) = false := by simpa using he
          go_wp2_with fail
          refine ⟨⟨i + 1, by go_num, by omega, ?_, by trivial⟩, by simp [intOf]; omega⟩
          rw [List.take_succ_eq_append_getElem HLT.out, List.mem_append]
          have h1 := HY.out
          rw [List.getD_eq_getElem?_getD, List.getElem?_eq_getElem HLT.out] at h1
          simp at h1
          rintro (h | h)
          · exact HN.out h
          · rw [h1] at h
            exact he (by simpa using (List.mem_singleton.1 h).symm)
    · obtain rfl : i = l.length := by omega
      rw [List.take_length] at hn
      have hm : decide (x ∈ l) = false := by simpa using hn
      have HM := hid hm
      clear hn hm
      go_wp2_with fail
      go_ret
      exact ⟨by rw [HM.out]; rfl, rfl⟩
def reZ : Obj := .cells #[.int .u32 0, .int .u32 0, .slice none 0 0, .slice none 0 0] 44 (0, 0)
def reO (c win : Int) (v u : Value) : Obj := .cells #[.int .u32 c, .int .u32 win, v, u] 44 (0, 0)
theorem rS_alloc {wr W : World} {p b o1 : Nat} {v0 v1 : Value} {o : Obj} (h : Below wr.heap.size wr W ∧ W.cell? ⟨p, 3, none⟩ = some v0 ∧ W.cell? ⟨b, o1, none⟩ = some v1) : Below wr.heap.size wr (W.alloc o) ∧ (W.alloc o).cell? ⟨p, 3, none⟩ = some v0 ∧ (W.alloc o).cell? ⟨b, o1, none⟩ = some v1 :=
  have hb : Below W.heap.size W (W.alloc o) := below_alloc (Below.refl _ _) o
  ⟨cthen h.1 hb, (hb.cell (World.block_lt_of_cell? W _ h.2.1)).trans h.2.1, (hb.cell (World.block_lt_of_cell? W _ h.2.2)).trans h.2.2⟩
/-- What holds in the reference's first loop. -/
structure R1 (w : World) (cum win : Int) (L D : List Int) (lv u : Value) (W : World) : Prop where
  bel : Below w.heap.size w W
  zero : W.heap[w.heap.size]? = some reZ
  s : W.heap[w.heap.size + 1]? = some (reO cum win (.slice none 0 0) u)
  drow : OwnU W (w.heap.size + 2) u D
  lrow : OwnU W (w.heap.size + 2) lv L
  apart : ∀ k, lv.ownBlock = some k → u.ownBlock ≠ some k
  sz : w.heap.size + 2 ≤ W.heap.size
theorem R1.below {w : World} {cum win : Int} {L D : List Int} {lv u : Value} {W W' : World} (h : R1 w cum win L D lv u W) (hb : Below W.heap.size W W') : R1 w cum win L D lv u W' :=
  ⟨cthen h.bel hb, blk_below h.zero hb, blk_below h.s hb, row_kept h.drow hb, row_kept h.lrow hb, h.apart, Nat.le_trans h.sz hb.size⟩
theorem R1.start (w : World) (cum win : Int) : R1 w cum win [] [] (.slice none 0 0) (.slice none 0 0) ((w.alloc reZ).alloc (reO cum win (.slice none 0 0) (.slice none 0 0))) :=
  ⟨below_alloc (below_alloc (Below.refl _ _) _) _, blk_alloc (blk_new w reZ), blk_new1 w reZ _, World.ownsRow_nil _ _ _ _, World.ownsRow_nil _ _ _ _, fun k h => by simp [Value.ownBlock] at h, by simp⟩
theorem own_base {t z base n : Nat} {W : World} {v : Value} {xs : List Value} (h : W.ownsRow base t z v n xs) : ∀ j, v.ownBlock = some j → base ≤ j ∧ j < W.heap.size := fun j hj => by
  rcases h with ⟨-, ⟨rfl, -⟩ | ⟨g, cap, cur, rfl, hgb, hg, -⟩⟩
  · simp [Value.ownBlock] at hj
  · simp [Value.ownBlock] at hj
    subst hj
    exact ⟨hgb, (Array.getElem?_eq_some_iff.1 hg).1⟩
theorem R1.appD {w : World} {cum win x : Int} {L D : List Int} {lv u : Value} {W W' : World} {gg cap : Nat} (h : R1 w cum win L D lv u W) (hg : W.grownBy W' u.ownBlock) (ho : W'.ownsRow (w.heap.size + 2) 23 1 (.slice (some ⟨gg, 0, none⟩) (D.length + 1) cap) (D.length + 1) (D.map (Value.int .u32) ++ [.int .u32 x])) (hat : u.ownBlock = some gg ∨ gg = W.heap.size) :
    W'.heap[w.heap.size + 1]? = some (reO cum win (.slice none 0 0) u) ∧ R1 w cum win L (D ++ [x]) lv (.slice (some ⟨gg, 0, none⟩) (D.length + 1) cap) (W'.setCell ⟨w.heap.size + 1, 3, none⟩ (.slice (some ⟨gg, 0, none⟩) (D.length + 1) cap)) := by
  have hs := h.sz
  have hl := own_base h.drow
  have n0 := row_apart h.drow (by decide) h.zero
  have n1 := row_apart h.drow (by decide) (show W.heap[w.heap.size + 1]? = some (.cells _ 44 (0, 0)) from h.s)
  have z0 : W'.heap[w.heap.size]? = some reZ := by rw [hg.block _ (by omega) n0]; exact h.zero
  have z1 : W'.heap[w.heap.size + 1]? = some (reO cum win (.slice none 0 0) u) := by rw [hg.block _ (by omega) n1]; exact h.s
  have hoU : OwnU W' (w.heap.size + 2) (.slice (some ⟨gg, 0, none⟩) (D.length + 1) cap) (D ++ [x]) := by
    unfold OwnU
    rw [List.length_append, List.map_append]
    exact ho
  have hoL : OwnU W' (w.heap.size + 2) lv L := World.ownsRow.kept h.lrow hg (by
    cases hv : lv.ownBlock with
    | none => exact .inl rfl
    | some k => exact .inr (fun e => h.apart k hv e.symm))
  have hlt : ∀ k, (⟨w.heap.size + 1, k, none⟩ : Addr).block < w.heap.size + 2 := fun k => Nat.lt_succ_self _
  refine ⟨z1, ⟨below_set (h.bel.grown hg h.bel.size (fun j hj => by have := (hl j hj).1; omega)) (Nat.le_succ _) _, ?_, set_blk' z1 3 _, ownsRow_setCell_below hoU (hlt 3) _, ownsRow_setCell_below hoL (hlt 3) _, fun k hk => ?_, ?_⟩⟩
  · rw [Below.heap_setCell W' ⟨w.heap.size + 1, 3, none⟩ _ w.heap.size (by show w.heap.size ≠ w.heap.size + 1; omega)]
    exact z0
  · rcases hat with hat | hat
    · show some gg ≠ some k
      rw [← hat]; exact h.apart k hk
    · have := (own_base h.lrow k hk).2
      simp only [Value.ownBlock]
      intro e
      injection e with e
      omega
  · have := hg.size
    simp
    omega
theorem R1.appL {w : World} {cum win x : Int} {L D : List Int} {lv u : Value} {W W' : World} {gg cap : Nat} (h : R1 w cum win L D lv u W) (hg : W.grownBy W' lv.ownBlock) (ho : W'.ownsRow (w.heap.size + 2) 23 1 (.slice (some ⟨gg, 0, none⟩) (L.length + 1) cap) (L.length + 1) (L.map (Value.int .u32) ++ [.int .u32 x])) (hat : lv.ownBlock = some gg ∨ gg = W.heap.size) :
    R1 w cum win (L ++ [x]) D (.slice (some ⟨gg, 0, none⟩) (L.length + 1) cap) u W' := by
  have hs := h.sz
  have hl := own_base h.lrow
  have n0 := row_apart h.lrow (by decide) h.zero
  have n1 := row_apart h.lrow (by decide) (show W.heap[w.heap.size + 1]? = some (.cells _ 44 (0, 0)) from h.s)
  have z0 : W'.heap[w.heap.size]? = some reZ := by rw [hg.block _ (by omega) n0]; exact h.zero
  have z1 : W'.heap[w.heap.size + 1]? = some (reO cum win (.slice none 0 0) u) := by rw [hg.block _ (by omega) n1]; exact h.s
  have hoU : OwnU W' (w.heap.size + 2) (.slice (some ⟨gg, 0, none⟩) (L.length + 1) cap) (L ++ [x]) := by
    unfold OwnU
    rw [List.length_append, List.map_append]
    exact ho
  have hoD : OwnU W' (w.heap.size + 2) u D := World.ownsRow.kept h.drow hg (by
    cases hv : u.ownBlock with
    | none => exact .inl rfl
    | some k => exact .inr (fun e => h.apart k e.symm hv))
  refine ⟨h.bel.grown hg h.bel.size (fun j hj => by have := (hl j hj).1; omega), z0, z1, hoD, hoU, fun k hk => ?_, ?_⟩
  · simp only [Value.ownBlock] at hk
    injection hk with hk
    subst hk
    rcases hat with hat | hat
    · exact h.apart _ hat
    · intro e
      have := (own_base h.drow _ e).2
      omega
  · have := hg.size
    omega
theorem Kept.snoc {cum x : Int} {L H : List Int} (h : Kept cum L H) (hx : 0 ≤ x ∧ x < 4294967296) : Kept cum (L ++ [x]) (H ++ [dst x cum]) := by
  refine ⟨by rw [List.map_append, h.1]; rfl, fun y hy => ?_⟩
  rcases List.mem_append.1 hy with hy | hy
  · exact h.2 y hy
  · obtain rfl := List.mem_singleton.1 hy
    exact hx
theorem kept_nil (cum : Int) : Kept cum [] [] := ⟨rfl, by simp⟩
theorem Kept.len {cum : Int} {L H : List Int} (h : Kept cum L H) : L.length = H.length := by rw [← h.1, List.length_map]
/-- What holds in the reference's second loop. -/
structure R2 (w : World) (cum win : Int) (H L D : List Int) (lv u : Value) (m : Int) (W : World) : Prop where
  b : R1 w ((cum + m) % 4294967296) win L D lv u W
  m0 : 0 ≤ m
  up : ∀ j, 1 ≤ j → j ≤ m → j ∈ H
theorem R2.of {w : World} {cum win : Int} {H L D : List Int} {lv u : Value} {W : World} (h : R1 w cum win L D lv u W) (hc : 0 ≤ cum ∧ cum < 4294967296) : R2 w cum win H L D lv u 0 W := by
  refine ⟨?_, Int.le_refl 0, fun j h1 h2 => by omega⟩
  rw [show (cum + 0) % 4294967296 = cum by omega]
  exact h
theorem R2.step {w : World} {cum win : Int} {H L D : List Int} {lv u : Value} {m : Int} {W : World} (h : R2 w cum win H L D lv u m W) (hm : m + 1 ∈ H) : R2 w cum win H L D lv u (m + 1) (W.setCell ⟨w.heap.size + 1, 0, none⟩ (.int .u32 ((cum + (m + 1)) % 4294967296))) := by
  obtain ⟨⟨b1, b2, b3, b4, b5, b6, b7⟩, h0, hu⟩ := h
  have hlt : (⟨w.heap.size + 1, 0, none⟩ : Addr).block < w.heap.size + 2 := Nat.lt_succ_self _
  refine ⟨⟨below_set b1 (Nat.le_succ _) _, ?_, set_blk' b3 0 _, ownsRow_setCell_below b4 hlt _, ownsRow_setCell_below b5 hlt _, b6, by simpa using b7⟩, by omega, fun j h1 h2 => ?_⟩
  · rw [Below.heap_setCell W ⟨w.heap.size + 1, 0, none⟩ _ w.heap.size (by show w.heap.size ≠ w.heap.size + 1; omega)]
    exact b2
  · by_cases hj : j = m + 1
    · rw [hj]; exact hm
    · exact hu j h1 (by omega)
/-- What holds in the reference's third loop. -/
structure R3 (w : World) (c2 win : Int) (G : List Gp) (D : List Int) (u lv : Value) (L : List Int) (W : World) : Prop where
  bel : Below w.heap.size w W
  zero : W.heap[w.heap.size]? = some reZ
  s : ∃ v, W.heap[w.heap.size + 1]? = some (reO c2 win v u) ∧ OwnG 94 W (w.heap.size + 2) v G
  drow : OwnU W (w.heap.size + 2) u D
  lrow : OwnU W (w.heap.size + 2) lv L
  sz : w.heap.size + 2 ≤ W.heap.size
theorem R3.of {w : World} {c2 win : Int} {L D : List Int} {lv u : Value} {W : World} (h : R1 w c2 win L D lv u W) : R3 w c2 win [] D u lv L W := ⟨h.bel, h.zero, ⟨_, h.s, World.ownsRow_nil _ _ _ _⟩, h.drow, h.lrow, h.sz⟩
theorem R3.below {w : World} {c2 win : Int} {G : List Gp} {D L : List Int} {u lv : Value} {W W' : World} (h : R3 w c2 win G D u lv L W) (hb : Below W.heap.size W W') : R3 w c2 win G D u lv L W' := by
  obtain ⟨v, h1, h2⟩ := h.s
  exact ⟨cthen h.bel hb, blk_below h.zero hb, ⟨v, blk_below h1 hb, row_kept h2 hb⟩, row_kept h.drow hb, row_kept h.lrow hb, Nat.le_trans h.sz hb.size⟩
theorem R3.step {w : World} {c2 win : Int} {G G' : List Gp} {D L : List Int} {u lv v' : Value} {W W' : World} (h : R3 w c2 win G D u lv L W) (h1 : W'.heap[w.heap.size + 1]? = some (.cells #[.int .u32 c2, .int .u32 win, v', u] 44 (0, 0))) (h2 : OwnG 94 W' (w.heap.size + 2) v' G') (hk : Kpt 94 (w.heap.size + 1) W W') : R3 w c2 win G' D u lv L W' := by
  obtain ⟨v, hs, -⟩ := h.s
  exact ⟨h.bel.trans (hk.bel.mono (Nat.le_succ _)), hk.keep _ _ h.zero (by omega) (by intro cs fr e; unfold reZ at e; injection e with _ e; exact absurd e (by decide)), ⟨v', h1, h2⟩, hk.row h.drow (by decide) hs (by decide), hk.row h.lrow (by decide) hs (by decide), Nat.le_trans h.sz hk.bel.size⟩
theorem put_gof {L E : List Int} {c2 fr : Int} (h : Put L c2 fr E) : (gOf E).length ≤ 65535 := by
  have h1 := asc_len h.1 (lo := 0) (hi := 65535) (by omega) (fun y hy => ((h.2.1 y).1 hy).2.1) (fun y hy => ((h.2.1 y).1 hy).2.2.1)
  have h2 := gOf_len E
  omega
theorem put_last {L E : List Int} {c2 fr : Int} (h : Put L c2 fr E) (hE : E ≠ []) : ∃ G g, gOf E = G ++ [g] ∧ g.f1 = fr := by
  obtain ⟨h1, h2⟩ := gOf_last E hE
  exact ⟨(gOf E).dropLast, (gOf E).getLastD gpZ, last_split _ h1, by rw [h2, h.2.2]⟩
set_option maxRecDepth 100000 in
set_option maxHeartbeats 8000000 in
theorem rbuild_any (cum win : Int) (A : Option Addr) (c : Nat) (l : List Int) (w : World) (hcu : 0 ≤ cum ∧ cum < 4294967296) (hS : UC w A l) (hc : l.length ≤ c) (hl : l.length ≤ 100000) (hx : ∀ x ∈ l, 0 ≤ x ∧ x < 4294967296) :
    Calls Tryz.prog 36 #[.int .u32 cum, .int .u32 win, .slice A l.length c] w (BldPost 94 cum win l w) := by
  have HS := hid hS
  have HL := hid hl
  have HCU := hid hcu
  have HX := hid hx
  have HB := hid (R1.start w cum win)
  obtain ⟨i0, hi0, hz0, hz1, hz2⟩ := info_parts infoU
  clear hS hc hl hcu hx
  go_enter Tryz.func36, Tryz.ntmps36
  go_wp2_with fail
  go_loopw [8, 9] (fun lv iv W => ∃ (i : Nat) (L : List Int) (A2 A3 : Option Addr) (c2 c3 : Nat), iv = .int .i64 i ∧ i ≤ l.length ∧ lv = .slice A2 L.length c2 ∧ Hid (Kept cum L (bFold cum (l.take i)).1) ∧ Hid (R1 w cum win L (bFold cum (l.take i)).2 (.slice A2 L.length c2) (.slice A3 (bFold cum (l.take i)).2.length c3) W)) (fun _ iv _ => l.length - (intOf iv).toNat)
  case atStart => exact ⟨0, [], none, none, 0, 0, rfl, by omega, rfl, hid (kept_nil _), HB⟩
  case round =>
    obtain ⟨i, L, A2, A3, c2, c3, rfl, hi, rfl, hK0, hI⟩ := hrel
    clear HB
    by_cases hlt : i < l.length
    · rcases ints_cells (HS.out.below hI.out.bel) with h | ⟨b, off, rfl, hblt, hcell⟩
      · rw [h] at hlt; exact absurd hlt (by simp)
      · have k0 := hcell i hlt
        obtain ⟨x, hx⟩ : ∃ x, l.getD i 0 = x := ⟨_, rfl⟩
        rw [hx] at k0
        have HXR := hid (show 0 ≤ x ∧ x < 4294967296 from HX.out x (by rw [← hx, List.getD_eq_getElem?_getD, List.getElem?_eq_getElem hlt]; exact List.getElem_mem _))
        have HST := hid (bF_step (cum := cum) hlt hx)
        obtain ⟨d, hd⟩ : ∃ d, dst x cum = d := ⟨_, rfl⟩
        have hd2 : IntKind.u32.wrap (x - cum) = d := hd
        have HD := hid hd
        have hHb := fun y (hy : y ∈ (bFold cum (l.take i)).1) => ((bFold_mem cum (l.take i) y).1 hy).2
        obtain ⟨⟨H, D⟩, hHD⟩ : ∃ S, bFold cum (l.take i) = S := ⟨_, rfl⟩
        rw [hHD] at hI hK0 hHb
        have HHD := hid hHD
        simp only at hI hK0 hHb
        have HHB := hid hHb
        have HDL := hid (show D.length ≤ 100000 by have := bFold_len cum (l.take i); rw [HHD.out] at this; have := HL.out; simp only [List.length_take] at *; omega)
        have HLL := hid (show L.length ≤ 100000 by rw [hK0.out.len]; have := bFold_len cum (l.take i); rw [HHD.out] at this; have := HL.out; simp only [List.length_take] at *; omega)
        have HWI := hid (show wrap64 ((i : Int) + 1) = ((i + 1 : Nat) : Int) by have := HL.out; unfold wrap64; omega)
        have HMS := hid (show l.length - (intOf (.int .i64 (wrap64 ((i : Int) + 1)))).toNat < l.length - i by
          rw [HWI.out]
          simp only [intOf, Int.toNat_natCast]
          omega)
        obtain ⟨⟨q0, q1, q2, q3⟩, ⟨r0, r1, r2, r3⟩⟩ := four (show wr.heap[w.heap.size + 1]? = some (.cells #[.int .u32 cum, .int .u32 win, .slice none 0 0, .slice A3 D.length c3] 44 (0, 0)) from hI.out.s)
        clear hcell hx hd hHD hHb
        by_cases c0 : d = 2147483648
        · have hcx : IntKind.u32.wrap (cum - x) = 2147483648 := by have h1 := HD.out; unfold dst at h1; show (cum - x) % 4294967296 = 2147483648; omega
          have hcx2 : (cum - x) % 4294967296 = 2147483648 := hcx
          have HP := hid (show ¬ (d = 0 ∨ d > 2147483648 ∨ d ∈ H) by rintro (h | h | h); omega; omega; have := (HHB.out d h).2; omega)
          go_wp2_with fail
          refine ⟨⟨i + 1, L, A2, A3, c2, c3, by rw [HWI.out], hlt, rfl, ?_, hid ?_⟩, HMS.out⟩
          · rw [HST.out, HHD.out]
            unfold bStep
            rw [HD.out, if_neg HP.out, if_neg (by omega)]
            exact hK0
          · rw [HST.out, HHD.out]
            unfold bStep
            rw [HD.out, if_neg HP.out, if_neg (by omega)]
            exact hI.out
        · have c0' : (d == 2147483648) = false := by simpa using c0
          obtain ⟨bP, hbP⟩ : ∃ b : Bool, ((d == 0) || decide (d > 2147483648) || decide (x ∈ L)) = b := ⟨_, rfl⟩
          have HBP := hid hbP
          clear hbP
          obtain ⟨Al, cl, eL, hcl, hLu⟩ := ownU_read hI.out.lrow
          injection eL with e1 e2 e3
          subst e1
          subst e3
          clear e2
          have hhas := rhas_any A2 c2 L x wr hLu hcl (by have := HLL.out; omega)
          clear hLu hcl
          go_upto_region 10 with fail
          go_cut [10, 63] from 50 to 62 (fun v10 v W => v10 = .int .u32 d ∧ v = .bool bP ∧ W = wr)
          case first =>
            have hb := HBP.out
            by_cases c1 : d = 0
            · subst c1
              go_wp2_with fail
              go_meet
              exact ⟨rfl, by simpa using hb, rfl⟩
            · have c3 : (d == 0) = false := by simpa using c1
              rw [c3] at hb
              by_cases c4 : d > 2147483648
              · go_wp2_with fail
                go_meet
                exact ⟨rfl, by first | simpa using hb | simp_all, rfl⟩
              · have c5 : decide (d > 2147483648) = false := by simpa using c4
                rw [c5] at hb
                have HHB2 := hid hb
                clear hb
                go_wp2_with fail
                refine hhas.mono ?_
                rintro e W ⟨rfl, rfl⟩
                go_wp2_with fail
                go_meet
                exact ⟨rfl, by have := HHB2.out; simpa using this, rfl⟩
          case rest =>
            obtain ⟨rfl, rfl, rfl⟩ := hcut
            clear hhas
            cases bP with
            | true =>
              have HP := hid (show d = 0 ∨ d > 2147483648 ∨ d ∈ H by have h1 := HBP.out; simp at h1; rw [hK0.out.mem HXR.out, HD.out] at h1; simpa [or_assoc] using h1)
              have hS0 : Below wc.heap.size wc wc.drew ∧ wc.drew.cell? ⟨w.heap.size + 1, 3, none⟩ = some (.slice A3 D.length c3) ∧ wc.drew.cell? ⟨b, off + i, none⟩ = some (.int .u32 x) := ⟨below_drew (Below.refl _ _) 1, q3, k0⟩
              go_wp2_with fail
              clear q0 q1 q2 q3 k0 r0 r1 r2 r3
              refine start_ (n := 10) (S := fun w' => Below wc.heap.size wc w' ∧ w'.cell? ⟨w.heap.size + 1, 3, none⟩ = some (.slice A3 D.length c3) ∧ w'.cell? ⟨b, off + i, none⟩ = some (.int .u32 x)) (ds := [7, 9]) #[false, false, false, false, false, false, false, false, false, false] (by kernel_rfl) rfl rfl hS0 (fun hHeld => ?_)
              generalize wc.drew = w44 at hS0 hHeld ⊢
              refine pure_ (i := 0) (N := some 64) (v := ?_) (a' := ?_) #[true, false, false, false, false, false, false, false, false, false] rfl rfl (by kernel_rfl) (fun _ _ _ h => h) (Or.inl ⟨by rfl, ?_⟩) ?_ ?_
              rotate_left
              · intro w'
                go_simp
                with_reducible rfl
              rotate_left
              · simp only [Act.put, List.setIfInBounds_toArray, List.set_cons_zero, List.set_cons_succ, i64_w, i32_w]
                rfl
              refine pure_ (i := 2) (N := some 66) (v := ?_) (a' := ?_) #[true, false, true, false, false, false, false, false, false, false] rfl rfl (by kernel_rfl) (fun _ _ _ h => h) (Or.inl ⟨by rfl, ?_⟩) ?_ ?_
              rotate_left
              · intro w'
                go_simp
                with_reducible rfl
              rotate_left
              · simp only [Act.put, List.setIfInBounds_toArray, List.set_cons_zero, List.set_cons_succ, i64_w, i32_w]
                rfl
              refine pure_ (i := 3) (N := some 67) (v := ?_) (a' := ?_) #[true, false, true, true, false, false, false, false, false, false] rfl rfl (by kernel_rfl) (fun _ _ _ h => h) (Or.inl ⟨by rfl, ?_⟩) ?_ ?_
              rotate_left
              · intro w'
                go_simp
                with_reducible rfl
              rotate_left
              · simp only [Act.put, List.setIfInBounds_toArray, List.set_cons_zero, List.set_cons_succ, i64_w, i32_w]
                rfl
              refine pure_ (i := 4) (N := some 68) (v := ?_) (a' := ?_) #[true, false, true, true, true, false, false, false, false, false] rfl rfl (by kernel_rfl) (fun _ _ _ h => h) (Or.inl ⟨by rfl, ?_⟩) ?_ ?_
              rotate_left
              · intro w'
                go_simp
                with_reducible rfl
              rotate_left
              · simp only [Act.put, List.setIfInBounds_toArray, List.set_cons_zero, List.set_cons_succ, i64_w, i32_w]
                rfl
              refine take_ (i := 1) (N := some 65) (v := ?_) (a' := ?_) #[true, true, true, true, true, false, false, false, false, false] rfl rfl (by kernel_rfl) (fun _ _ _ h => h) (Or.inl ⟨by rfl, ?_⟩) hHeld ?_ ?_
              rotate_left
              · rintro w' ⟨q0, q1, q2⟩
                go_simp
                with_reducible rfl
              rotate_left
              · simp only [Act.put, List.setIfInBounds_toArray, List.set_cons_zero, List.set_cons_succ, i64_w, i32_w]
                rfl
              refine take_ (i := 5) (N := some 69) (v := ?_) (a' := ?_) #[true, true, true, true, true, true, false, false, false, false] rfl rfl (by kernel_rfl) (fun _ _ _ h => h) (Or.inl ⟨by rfl, ?_⟩) hHeld ?_ ?_
              rotate_left
              · rintro w' ⟨q0, q1, q2⟩
                go_simp
                with_reducible rfl
              rotate_left
              · simp only [Act.put, List.setIfInBounds_toArray, List.set_cons_zero, List.set_cons_succ, i64_w, i32_w]
                rfl
              refine one_ (i := 6) (N := some 70) #[true, true, true, true, true, true, true, false, false, false] rfl rfl (by kernel_rfl) (by decide) (fun K hK => ?_)
              have hS1 := rS_alloc (o := .cells #[.int .u32 x] 23) hHeld
              refine value_ (w1 := w44.alloc (.cells #[.int .u32 x] 23)) (v := .slice (some ⟨w44.heap.size, 0, none⟩) 1 1) (by rfl) rfl (by go_simp; done) ?_
              refine hK.out _ _ hS1 (fun hHeld => ?_)
              clear hK K
              refine norm_ (a' := ?_) ?_ ?_
              rotate_left
              · show Act.put _ (some 70) _ = _
                simp only [Act.put, List.setIfInBounds_toArray, List.set_cons_zero, List.set_cons_succ, i64_w, i32_w]
                rfl
              refine last_ (i := 7) (N := some 71) #[true, true, true, true, true, true, true, true, false, false] rfl rfl (by kernel_rfl) (by decide) (fun K hK => ?_)
              have HR := hid (hI.out.below hHeld.1)
              have HOW := hid (show (w44.alloc (.cells #[.int .u32 x] 23)).ownsRow (w.heap.size + 2) 23 1 (.slice A3 D.length c3) D.length (D.map (Value.int .u32)) from HR.out.drow)
              have HSZ := hid HR.out.sz
              have HNWS := hid (cell_one_new w44 (.int .u32 x) 23)
              clear hHeld hS0
              refine step_append_lies _ (by rfl) _ _ _ (by rfl) (w.heap.size + 2) 23 i0 _ 1 4 Tryz.underlying42 hi0 hz0 hz1 hz2 rfl (by omega) _ _ _ (by rfl) HOW.out ⟨w44.heap.size, 0, none⟩ 1 1 [.int .u32 x] (by rfl) rfl HNWS.out (by simp [Value.oneCell']) (by omega) (by have := HDL.out; unfold maxLen; omega) (by have := HDL.out; omega) HSZ.out _ rfl ?_
              intro gg cap w9 hown1 hgrow hat hlt'
              have HK := hid (HR.out.appD hgrow hown1 hat)
              clear hown1 hgrow hat hlt'
              obtain ⟨⟨q0, q1, q2, q3⟩, ⟨r0, r1, r2, r3⟩⟩ := four HK.out.1
              refine hK.out _ _ ?_
              clear hK K
              refine norm_ (a' := ?_) ?_ ?_
              rotate_left
              · show Act.put _ (some 71) _ = _
                simp only [Act.put, List.setIfInBounds_toArray, List.set_cons_zero, List.set_cons_succ, i64_w, i32_w]
                rfl
              refine pure_ (i := 8) (N := some 72) (v := ?_) (a' := ?_) #[true, true, true, true, true, true, true, true, true, false] rfl rfl (by kernel_rfl) (fun _ _ _ h => h) (Or.inl ⟨by rfl, ?_⟩) ?_ ?_
              rotate_left
              · intro w'
                go_simp
                with_reducible rfl
              rotate_left
              · simp only [Act.put, List.setIfInBounds_toArray, List.set_cons_zero, List.set_cons_succ, i64_w, i32_w]
                rfl
              refine last_ (i := 9) (N := none) #[true, true, true, true, true, true, true, true, true, true] rfl rfl (by kernel_rfl) (by decide) (fun K hK => ?_)
              refine skip_ (w1 := w9.setCell ⟨w.heap.size + 1, 3, none⟩ (.slice (some ⟨gg, 0, none⟩) (D.length + 1) cap)) (by rfl) rfl (by go_simp; done) ?_
              refine hK.out _ _ ?_
              clear hK K
              refine done_ (by kernel_rfl) ?_
              go_wp2_with fail
              refine ⟨⟨i + 1, L, A2, some ⟨gg, 0, none⟩, c2, cap, by rw [HWI.out], hlt, rfl, ?_, hid ?_⟩, HMS.out⟩
              · rw [HST.out, HHD.out]
                unfold bStep
                rw [HD.out, if_pos HP.out]
                exact hK0
              · rw [HST.out, HHD.out]
                unfold bStep
                rw [HD.out, if_pos HP.out]
                simp only [List.length_append, List.length_singleton]
                exact HK.out.2
            | false =>
              have HP := hid (show ¬ (d = 0 ∨ d > 2147483648 ∨ d ∈ H) by
                have h1 := HBP.out
                simp at h1
                rw [hK0.out.mem HXR.out, HD.out] at h1
                rintro (h | h | h)
                · exact h1.1.1 h
                · omega
                · exact h1.2 h)
              have HLT := hid (show d < 2147483648 by have h1 := HP.out; rw [not_or, not_or] at h1; omega)
              have HSZ := hid hI.out.sz
              have HOW := hid (World.ownsRow.alloc (show wc.ownsRow (w.heap.size + 2) 23 1 (.slice A2 L.length c2) L.length (L.map (Value.int .u32)) from hI.out.lrow) (.cells #[.int .u32 x] 23))
              have HIA := hid (hI.out.below (below_alloc (Below.refl wc.heap.size wc) (.cells #[.int .u32 x] 23)))
              go_wp2_with (at_builtin; go_loud (refine wpList_append_lies _ rfl _ _ 42 rfl (w.heap.size + 2) 23 i0 _ 1 4 Tryz.underlying42 hi0 hz0 hz1 hz2 rfl (by decide) _ _ _ rfl HOW.out ⟨wc.heap.size, 0, none⟩ 1 1 [.int .u32 x] rfl rfl (cell_one_new _ _ _) (by simp [Value.oneCell']) (by decide) (by have := HLL.out; unfold maxLen; omega) (by have := HLL.out; omega) HIA.out.sz _ rfl ?_; intro gg cap w9 hown' hgrow hat hlt'; have HK := hid (HIA.out.appL hgrow hown' hat); clear hown' hgrow hat hlt'))
              refine ⟨⟨i + 1, L ++ [x], some ⟨gg, 0, none⟩, A3, cap, c3, by rw [HWI.out], hlt, by simp, ?_, hid ?_⟩, HMS.out⟩
              · rw [HST.out, HHD.out]
                unfold bStep
                rw [HD.out, if_neg HP.out, if_pos HLT.out]
                have := hK0.out.snoc HXR.out
                rw [HD.out] at this
                exact hid this
              · rw [HST.out, HHD.out]
                unfold bStep
                rw [HD.out, if_neg HP.out, if_pos HLT.out]
                simp only [List.length_append, List.length_singleton]
                exact HK.out
    · obtain rfl : i = l.length := by omega
      rw [List.take_length] at hI hK0
      have hHb := fun y (hy : y ∈ (bFold cum l).1) => ((bFold_mem cum l y).1 hy).2
      obtain ⟨⟨H, D⟩, hHD⟩ : ∃ S, bFold cum l = S := ⟨_, rfl⟩
      rw [hHD] at hI hK0 hHb
      have HHD := hid hHD
      simp only at hI hK0 hHb
      have HH := hid hHb
      have HLL := hid (show L.length ≤ 100000 by rw [hK0.out.len]; have := bFold_len cum l; rw [hHD] at this; have := HL.out; simp only at *; omega)
      have HI0 := hid (R2.of (H := H) hI.out HCU.out)
      clear hHD hHb
      go_wp2_with fail
      go_loopg [] 2147483648 (fun k W => ∃ m : Int, m + k = 2147483648 ∧ Hid (R2 w cum win H L D (.slice A2 L.length c2) (.slice A3 D.length c3) m W))
      case atStart => exact ⟨0, by omega, HI0⟩
      case round =>
        obtain ⟨m, hmk, hI2⟩ := hrel
        clear HI0
        have hmlt : m ≤ 2147483647 := by
          have h0 := hI2.out.m0
          by_cases hz : m = 0
          · omega
          · have := (HH.out m (hI2.out.up m (by omega) (Int.le_refl m))).2; omega
        have h0 := hI2.out.m0
        obtain ⟨q2, hq2⟩ : ∃ q2, (cum + m) % 4294967296 = q2 := ⟨_, rfl⟩
        obtain ⟨q3, hq3⟩ : ∃ q3, (cum + (m + 1)) % 4294967296 = q3 := ⟨_, rfl⟩
        have hk3 : IntKind.u32.wrap (q2 + 1) = q3 := by show (q2 + 1) % 4294967296 = q3; omega
        have hin : q3 ∈ L ↔ m + 1 ∈ H := by
          rw [hK0.out.mem (x := q3) (by omega), show dst q3 cum = m + 1 by unfold dst; omega]
        obtain ⟨Al, cl, eL, hcl, hLu⟩ := ownU_read hI2.out.b.lrow
        injection eL with e1 e2 e3
        subst e1
        subst e3
        clear e2
        have hhas := rhas_any A2 c2 L q3 wr hLu hcl (by have := HLL.out; omega)
        have hs := hI2.out.b.s
        rw [hq2] at hs
        obtain ⟨⟨w0, w1, w2, w3⟩, ⟨r0, r1, r2, r3⟩⟩ := four hs
        have HC2 := hid hq2
        have HC3 := hid hq3
        have HMK := hid hmk
        have HM0 := hid h0
        clear hs hq2 hq3 hmk h0 hmlt hLu hcl
        by_cases hm : m + 1 ∈ H
        · have hdec : decide (q3 ∈ L) = true := decide_eq_true (hin.2 hm)
          rw [hdec] at hhas
          have hst := hid (hI2.out.step hm)
          rw [HC3.out] at hst
          clear hin hdec
          go_wp2_with fail
          refine hhas.mono ?_
          rintro e W ⟨rfl, rfl⟩
          go_wp2_with fail
          go_roundg (gk - 1)
          case measure => have := HMK.out; have := (HH.out (m + 1) hm).2; omega
          case rel => exact ⟨m + 1, by have := HMK.out; have := (HH.out (m + 1) hm).2; omega, hst⟩
        · have hdec : decide (q3 ∈ L) = false := decide_eq_false (fun h => hm (hin.1 h))
          rw [hdec] at hhas
          have HMV := hid (show Mv H m from ⟨hI2.out.m0, hI2.out.up, hm⟩)
          have HR3 := hid (R3.of hI2.out.b)
          rw [HC2.out] at HR3
          clear hin hdec
          go_wp2_with fail
          refine hhas.mono ?_
          rintro e W ⟨rfl, rfl⟩
          clear hhas w0 w1 w2 w3 r0 r1 r2 r3 hk3
          go_wp2_with fail
          go_loopg [11] 65536 (fun k v11 W => ∃ (fr : Int) (E : List Int) (bE : Bool), v11 = .bool bE ∧ Hid ((bE = true ↔ E ≠ []) ∧ Put L q2 fr E ∧ fr + k = 65536) ∧ Hid (R3 w q2 win (gOf E) D (.slice A3 D.length c3) (.slice A2 L.length c2) L W))
          case atStart => exact ⟨0, [], false, rfl, hid ⟨by simp, put_nil L q2, by omega⟩, HR3⟩
          case round =>
            obtain ⟨fr, E, bE, rfl, hE, hI3⟩ := hrel
            clear HR3
            obtain ⟨v, hs, hG⟩ := hI3.out.s
            obtain ⟨Ag, cg, rfl⟩ := ownsRow_form hG
            have hgl := put_gof hE.out.2.1
            have hfr := put_fr hE.out.2.1
            obtain ⟨n, hn⟩ : ∃ n, (gOf E).length = n := ⟨_, rfl⟩
            rw [hn] at hs hgl
            obtain ⟨⟨w0, w1, w2, w3⟩, ⟨r0, r1, r2, r3⟩⟩ := four (show wr.heap[w.heap.size + 1]? = some (.cells #[.int .u32 q2, .int .u32 win, .slice Ag n cg, .slice A3 D.length c3] 44 (0, 0)) from hs)
            have HS3 := hid hs
            have HG3 := hid hG
            have HGL := hid hgl
            have HFR := hid hfr
            have HN := hid hn
            clear hs hG hgl hfr hn
            go_upto_if 92 with fail
            go_cut [13] from 93 to 102 (fun v13 W => v13 = .int .i64 fr ∧ W = wr)
            case first =>
              by_cases hE0 : E = []
              · have HF := hid (show fr = 0 by have := hE.out.2.1.2.2; rw [hE0] at this; simpa using this)
                obtain rfl : n = 0 := by rw [← HN.out, hE0]; rfl
                clear hE0
                go_wp2_with fail
                go_meet
                exact ⟨by rw [HF.out], rfl⟩
              · obtain ⟨G', g, hgg, hg1⟩ := put_last hE.out.2.1 hE0
                have hr := HG3.out
                have hgl1 : n = G'.length + 1 := by rw [← HN.out, hgg]; simp
                rw [hgg, show (G' ++ [g]).length = G'.length + 1 by simp] at hr
                have hAg : ∃ bg, Ag = some ⟨bg, 0, none⟩ := by
                  rcases hr.2 with ⟨h, -⟩ | ⟨bg, cap, cur, h, -⟩
                  · cases h
                  · injection h with h _ _
                    exact ⟨bg, h⟩
                obtain ⟨bg, rfl⟩ := hAg
                have hcell := own_last hr
                rw [hg1] at hcell
                have hn0 : wrap64 ((n : Int) - 1) = (G'.length : Int) := by have := HGL.out; unfold wrap64; omega
                have hn1 : (0 : Int) < (n : Int) := by omega
                have hn2 : (0 : Int) ≤ (G'.length : Int) := by omega
                have hn3 : (G'.length : Int) < (n : Int) := by omega
                have HGL1 := hid hgl1
                clear hr hgg hg1 hgl1 hE0
                go_wp2_with fail
                go_meet
                exact ⟨by rw [show wrap64 fr = fr by have := HFR.out; unfold wrap64; omega], rfl⟩
            case rest =>
              obtain ⟨rfl, rfl⟩ := hcut
              have HI4 := hid hI3.out
              clear w0 w1 w2 w3 r0 r1 r2 r3
              go_wp2_with fail
              go_loopw [12, 14] (fun nv jv W => ∃ (j : Nat) (nx : Int), jv = .int .i64 j ∧ j ≤ L.length ∧ nv = .int .i64 nx ∧ Hid (Nxt q2 fr (L.take j) nx) ∧ Hid (R3 w q2 win (gOf E) D (.slice A3 D.length c3) (.slice A2 L.length c2) L W)) (fun _ jv _ => L.length - (intOf jv).toNat)
              case atStart => exact ⟨0, -1, rfl, by omega, rfl, hid (Nxt.nil q2 fr), HI4⟩
              case round =>
                obtain ⟨j, nx, rfl, hj, rfl, hnx, hI5⟩ := hrel
                clear HI4
                by_cases hjl : j < L.length
                · obtain ⟨Al, cl, eL, -, hLu⟩ := ownU_read hI5.out.lrow
                  injection eL with e1 e2 e3
                  subst e1
                  clear e2 e3
                  rcases ints_cells hLu with h | ⟨bl, ol, rfl, -, hcell⟩
                  · rw [h] at hjl; exact absurd hjl (by simp)
                  · have k0 := hcell j hjl
                    obtain ⟨x, hx⟩ : ∃ x, L.getD j 0 = x := ⟨_, rfl⟩
                    rw [hx] at k0
                    obtain ⟨vv, hs5, -⟩ := hI5.out.s
                    have hs0 : wr.cell? ⟨w.heap.size + 1, 0, none⟩ = some (.int .u32 q2) := (four (show wr.heap[w.heap.size + 1]? = some (.cells #[.int .u32 q2, .int .u32 win, vv, .slice A3 D.length c3] 44 (0, 0)) from hs5)).1.1
                    obtain ⟨d, hd⟩ : ∃ d, dst x q2 = d := ⟨_, rfl⟩
                    have hd2 : IntKind.u32.wrap (x - q2) = d := hd
                    have hd3 : (x - q2) % 4294967296 = d := hd
                    have hdw : wrap64 d = d := by have := dst_nonneg x q2; have := dst_lt x q2; unfold wrap64; omega
                    have HTK := hid (show L.take (j + 1) = L.take j ++ [x] by
                      rw [List.take_succ_eq_append_getElem hjl]
                      rw [List.getD_eq_getElem?_getD, List.getElem?_eq_getElem hjl] at hx
                      simp at hx
                      rw [hx])
                    have HD5 := hid hd
                    have HWI := hid (show wrap64 ((j : Int) + 1) = ((j + 1 : Nat) : Int) by have := HLL.out; unfold wrap64; omega)
                    have HMS := hid (show L.length - (intOf (.int .i64 (wrap64 ((j : Int) + 1)))).toNat < L.length - j by
                      rw [HWI.out]
                      simp only [intOf, Int.toNat_natCast]
                      omega)
                    have hS0 : Below wr.heap.size wr wr.drew ∧ wr.drew.cell? ⟨bl, ol + j, none⟩ = some (.int .u32 x) ∧ wr.drew.cell? ⟨w.heap.size + 1, 0, none⟩ = some (.int .u32 q2) := ⟨below_drew (Below.refl _ _) 1, k0, hs0⟩
                    clear hcell hx hd hs5 k0 hs0 hLu
                    go_wp2_with fail
                    refine start_ (n := 9) (S := fun w' => Below wr.heap.size wr w' ∧ w'.cell? ⟨bl, ol + j, none⟩ = some (.int .u32 x) ∧ w'.cell? ⟨w.heap.size + 1, 0, none⟩ = some (.int .u32 q2)) (ds := []) #[false, false, false, false, false, false, false, false, false] (by kernel_rfl) rfl rfl hS0 (fun hHeld => ?_)
                    generalize wr.drew = w44 at hS0 hHeld ⊢
                    refine pure_ (i := 0) (N := some 109) (v := ?_) (a' := ?_) #[true, false, false, false, false, false, false, false, false] rfl rfl (by kernel_rfl) (fun _ _ _ h => h) (Or.inl ⟨by rfl, ?_⟩) ?_ ?_
                    rotate_left
                    · intro w'
                      go_simp
                      with_reducible rfl
                    rotate_left
                    · simp only [Act.put, List.setIfInBounds_toArray, List.set_cons_zero, List.set_cons_succ, i64_w, i32_w]
                      rfl
                    refine pure_ (i := 1) (N := some 110) (v := ?_) (a' := ?_) #[true, true, false, false, false, false, false, false, false] rfl rfl (by kernel_rfl) (fun _ _ _ h => h) (Or.inl ⟨by rfl, ?_⟩) ?_ ?_
                    rotate_left
                    · intro w'
                      go_simp
                      with_reducible rfl
                    rotate_left
                    · simp only [Act.put, List.setIfInBounds_toArray, List.set_cons_zero, List.set_cons_succ, i64_w, i32_w]
                      rfl
                    refine pure_ (i := 2) (N := some 111) (v := ?_) (a' := ?_) #[true, true, true, false, false, false, false, false, false] rfl rfl (by kernel_rfl) (fun _ _ _ h => h) (Or.inl ⟨by rfl, ?_⟩) ?_ ?_
                    rotate_left
                    · intro w'
                      go_simp
                      with_reducible rfl
                    rotate_left
                    · simp only [Act.put, List.setIfInBounds_toArray, List.set_cons_zero, List.set_cons_succ, i64_w, i32_w]
                      rfl
                    refine pure_ (i := 4) (N := some 113) (v := ?_) (a' := ?_) #[true, true, true, false, true, false, false, false, false] rfl rfl (by kernel_rfl) (fun _ _ _ h => h) (Or.inl ⟨by rfl, ?_⟩) ?_ ?_
                    rotate_left
                    · intro w'
                      go_simp
                      with_reducible rfl
                    rotate_left
                    · simp only [Act.put, List.setIfInBounds_toArray, List.set_cons_zero, List.set_cons_succ, i64_w, i32_w]
                      rfl
                    refine take_ (i := 3) (N := some 112) (v := ?_) (a' := ?_) #[true, true, true, true, true, false, false, false, false] rfl rfl (by kernel_rfl) (fun _ _ _ h => h) (Or.inl ⟨by rfl, ?_⟩) hHeld ?_ ?_
                    rotate_left
                    · rintro w' ⟨q0, q1, q2⟩
                      go_simp
                      with_reducible rfl
                    rotate_left
                    · simp only [Act.put, List.setIfInBounds_toArray, List.set_cons_zero, List.set_cons_succ, i64_w, i32_w]
                      rfl
                    refine take_ (i := 5) (N := some 114) (v := ?_) (a' := ?_) #[true, true, true, true, true, true, false, false, false] rfl rfl (by kernel_rfl) (fun _ _ _ h => h) (Or.inl ⟨by rfl, ?_⟩) hHeld ?_ ?_
                    rotate_left
                    · rintro w' ⟨q0, q1, q2⟩
                      go_simp
                      with_reducible rfl
                    rotate_left
                    · simp only [Act.put, List.setIfInBounds_toArray, List.set_cons_zero, List.set_cons_succ, i64_w, i32_w]
                      rfl
                    refine pure_ (i := 6) (N := some 115) (v := ?_) (a' := ?_) #[true, true, true, true, true, true, true, false, false] rfl rfl (by kernel_rfl) (fun _ _ _ h => h) (Or.inl ⟨by rfl, ?_⟩) ?_ ?_
                    rotate_left
                    · intro w'
                      go_simp
                      with_reducible rfl
                    rotate_left
                    · simp only [Act.put, List.setIfInBounds_toArray, List.set_cons_zero, List.set_cons_succ, i64_w, i32_w]
                      rfl
                    refine pure_ (i := 7) (N := some 116) (v := ?_) (a' := ?_) #[true, true, true, true, true, true, true, true, false] rfl rfl (by kernel_rfl) (fun _ _ _ h => h) (Or.inl ⟨by rfl, ?_⟩) ?_ ?_
                    rotate_left
                    · intro w'
                      go_simp
                      with_reducible rfl
                    rotate_left
                    · simp only [Act.put, List.setIfInBounds_toArray, List.set_cons_zero, List.set_cons_succ, i64_w, i32_w]
                      rfl
                    refine pure_ (i := 8) (N := some 15) (v := ?_) (a' := ?_) #[true, true, true, true, true, true, true, true, true] rfl rfl (by kernel_rfl) (fun _ _ _ h => h) (Or.inl ⟨by rfl, ?_⟩) ?_ ?_
                    rotate_left
                    · intro w'
                      go_simp
                      with_reducible rfl
                    rotate_left
                    · simp only [Act.put, List.setIfInBounds_toArray, List.set_cons_zero, List.set_cons_succ, i64_w, i32_w]
                      rfl
                    refine done_ (by kernel_rfl) ?_
                    have HI6 := hid (hI5.out.below hHeld.1)
                    clear hHeld hS0
                    by_cases c1 : d > fr
                    · by_cases c2 : d ≤ 65535
                      · by_cases c3 : nx < 0
                        · have HNX := hid (show Nxt q2 fr (L.take j ++ [x]) d by have := hnx.out.take (x := x) (by rw [HD5.out]; omega) (by rw [HD5.out]; exact c2) (by rw [HD5.out]; exact .inl c3); rw [HD5.out] at this; exact this)
                          go_wp2_with fail
                          refine ⟨⟨j + 1, d, by rw [HWI.out], hjl, rfl, hid ?_, HI6⟩, HMS.out⟩
                          rw [HTK.out]
                          exact HNX.out
                        · by_cases c4 : d < nx
                          · have HNX := hid (show Nxt q2 fr (L.take j ++ [x]) d by have := hnx.out.take (x := x) (by rw [HD5.out]; omega) (by rw [HD5.out]; exact c2) (by rw [HD5.out]; exact .inr c4); rw [HD5.out] at this; exact this)
                            go_wp2_with fail
                            refine ⟨⟨j + 1, d, by rw [HWI.out], hjl, rfl, hid ?_, HI6⟩, HMS.out⟩
                            rw [HTK.out]
                            exact HNX.out
                          · have HNX := hid (show Nxt q2 fr (L.take j ++ [x]) nx from hnx.out.skip (by rw [HD5.out]; rintro ⟨h1, h2, h3⟩; omega))
                            go_wp2_with fail
                            refine ⟨⟨j + 1, nx, by rw [HWI.out], hjl, rfl, hid ?_, HI6⟩, HMS.out⟩
                            rw [HTK.out]
                            exact HNX.out
                      · have HNX := hid (show Nxt q2 fr (L.take j ++ [x]) nx from hnx.out.skip (by rw [HD5.out]; rintro ⟨h1, h2, h3⟩; omega))
                        go_wp2_with fail
                        refine ⟨⟨j + 1, nx, by rw [HWI.out], hjl, rfl, hid ?_, HI6⟩, HMS.out⟩
                        rw [HTK.out]
                        exact HNX.out
                    · have HNX := hid (show Nxt q2 fr (L.take j ++ [x]) nx from hnx.out.skip (by rw [HD5.out]; rintro ⟨h1, h2, h3⟩; omega))
                      go_wp2_with fail
                      refine ⟨⟨j + 1, nx, by rw [HWI.out], hjl, rfl, hid ?_, HI6⟩, HMS.out⟩
                      rw [HTK.out]
                      exact HNX.out
                · obtain rfl : j = L.length := by omega
                  rw [List.take_length] at hnx
                  obtain ⟨v, hs, hG⟩ := hI5.out.s
                  obtain ⟨Ag, cg, rfl⟩ := ownsRow_form hG
                  rw [HN.out] at hs
                  have HS5 := hid hs
                  have HG5 := hid hG
                  obtain ⟨⟨w0, w1, w2, w3⟩, ⟨r0, r1, r2, r3⟩⟩ := four (show wr.heap[w.heap.size + 1]? = some (.cells #[.int .u32 q2, .int .u32 win, .slice Ag n cg, .slice A3 D.length c3] 44 (0, 0)) from hs)
                  obtain ⟨⟨z0, z1, z2, z3⟩, ⟨y0, y1, y2, y3⟩⟩ := four (show wr.heap[w.heap.size]? = some (.cells #[.int .u32 0, .int .u32 0, .slice none 0 0, .slice none 0 0] 44 (0, 0)) from hI5.out.zero)
                  clear hs hG
                  by_cases hneg : nx < 0
                  · have HNE := hid (show nx = -1 by rcases hnx.out with ⟨h, -⟩ | ⟨-, -, h, -⟩; exact h; omega)
                    go_wp2_with fail
                    refine bodyPost_ret (v := .agg #[.int .u32 q2, .int .u32 win, .slice Ag n cg, .slice A3 D.length c3]) (by simp [results, Tryz.results36, go_sem, z0, z1, z2, z3]) rfl ?_
                    have hG9 := HG5.out
                    have hU9 := hI5.out.drow
                    have hb9 := hI5.out.bel
                    rw [HN.out] at hG9
                    have hlt9 : ∀ k, (⟨w.heap.size, k, none⟩ : Addr).block < w.heap.size + 2 := fun k => by show w.heap.size < w.heap.size + 2; omega
                    have hle9 : ∀ k, w.heap.size ≤ (⟨w.heap.size, k, none⟩ : Addr).block := fun k => Nat.le_refl _
                    have hnr : Near H m E := by
                      have hn2 := hnx.out
                      rw [HNE.out] at hn2
                      exact Kept.near HH.out hK0.out HMV.out (by rw [HC2.out]; exact put_end hE.out.2.1 hn2)
                    refine ⟨m, E, .slice Ag n cg, .slice A3 D.length c3, by rw [HC2.out], by rw [HHD.out]; exact HMV.out, by rw [HHD.out]; exact hnr, ?_, ?_, below_set (below_set (below_set (below_set hb9 (hle9 0) _) (hle9 1) _) (hle9 2) _) (hle9 3) _⟩
                    · exact ownG_lower (ownsRow_setCell_below (ownsRow_setCell_below (ownsRow_setCell_below (ownsRow_setCell_below hG9 (hlt9 0) _) (hlt9 1) _) (hlt9 2) _) (hlt9 3) _) (by omega)
                    · rw [HHD.out]
                      exact ownU_lower (ownsRow_setCell_below (ownsRow_setCell_below (ownsRow_setCell_below (ownsRow_setCell_below hU9 (hlt9 0) _) (hlt9 1) _) (hlt9 2) _) (hlt9 3) _) (by omega)
                  · obtain ⟨hp1, hp2, hp3⟩ := put_step hE.out.2.1 hnx.out (by omega)
                    have HP1 := hid hp1
                    have HMS := hid (show (65536 - nx).toNat < gk by have := hE.out.2.2; have := HFR.out; omega)
                    have HRL := hid (show nx + ((65536 - nx).toNat : Int) = 65536 by omega)
                    have hwn : IntKind.u16.wrap nx = nx := by show nx % 65536 = nx; omega
                    have hwx : wrap64 nx = nx := by unfold wrap64; omega
                    have HNX := hid (show 1 ≤ nx ∧ nx ≤ 65535 by have := HFR.out; omega)
                    clear hp1 hp2 hp3 z0 z1 z2 z3 y0 y1 y2 y3
                    by_cases hE0 : E = []
                    · obtain rfl : bE = false := by
                        cases bE with
                        | false => rfl
                        | true => exact absurd hE0 (hE.out.1.1 rfl)
                      obtain rfl : n = 0 := by rw [← HN.out, hE0]; rfl
                      have HG0 : Hid (OwnG 94 wr (w.heap.size + 2) (.slice Ag 0 cg) []) := hid (by have := HG5.out; rw [hE0] at this; exact this)
                      have HE0 := hid hE0
                      obtain ⟨j0, hj0, hy0, hy1, hy2⟩ := info_parts infoGr
                      have HOW := hid (World.ownsRow.alloc HG0.out (.cells (gcells ⟨nx, nx⟩).toArray 94))
                      have HNW := hid (news_g 94 wr ⟨nx, nx⟩)
                      have HP := hid (show w.heap.size + 1 < w.heap.size + 2 by omega)
                      have HP3 := hid (show w.heap.size + 1 < wr.heap.size by have := hI5.out.sz; omega)
                      have HB2 := hid (show w.heap.size + 2 ≤ (wr.alloc (.cells (gcells ⟨nx, nx⟩).toArray 94)).heap.size by rw [World.size_alloc]; have := hI5.out.sz; omega)
                      have HON := hid (one_gcells ⟨nx, nx⟩)
                      clear hE0
                      go_wp2_with (at_builtin; go_loud (refine wpList_append_own _ rfl _ _ 41 rfl (w.heap.size + 2) 94 j0 _ 2 4 Tryz.underlying41 hj0 hy0 hy1 hy2 rfl (by decide) _ _ _ rfl HOW.out ⟨wr.heap.size, 0, none⟩ 1 1 (gcells ⟨nx, nx⟩) rfl rfl HNW.out HON.out (by decide) (by decide) HB2.out ?_; intro v' w9 hown' hgrow _; have hK := hid (kpt_app (by decide) HP.out HP3.out HS5.out rfl HG0.out hgrow hown'); have hxx := kpt_blk (by decide) HS5.out HG0.out hgrow; obtain ⟨A9, c9, rfl⟩ := ownsRow_form hown'; clear w0 w1 w2 w3 r0 r1 r2 r3; obtain ⟨⟨w0, w1, w2, w3⟩, ⟨r0, r1, r2, r3⟩⟩ := four hxx; clear hxx))
                      go_roundg (65536 - nx).toNat
                      case measure => exact HMS.out
                      case rel =>
                        refine ⟨nx, E ++ [nx], true, rfl, hid ⟨by simp, HP1.out, HRL.out⟩, hid (hI5.out.step hK.out.1 ?_ hK.out.2.2)⟩
                        rw [gOf_snoc, HE0.out, show gOf [] = [] from rfl, gadd_nil]
                        exact hK.out.2.1
                    · obtain rfl : bE = true := hE.out.1.2 hE0
                      obtain ⟨G', g, hgg, hg1⟩ := put_last hE.out.2.1 hE0
                      have hr := HG5.out
                      have hgl1 : n = G'.length + 1 := by rw [← HN.out, hgg]; simp
                      rw [hgg, show (G' ++ [g]).length = G'.length + 1 by simp] at hr
                      have hAg : ∃ bg, Ag = some ⟨bg, 0, none⟩ := by
                        rcases hr.2 with ⟨h, -⟩ | ⟨bg, cap, cur, h, -⟩
                        · cases h
                        · injection h with h _ _
                          exact ⟨bg, h⟩
                      obtain ⟨bg, rfl⟩ := hAg
                      have hcell := own_last hr
                      have hfro : wr.frozen? ⟨bg, G'.length * 2 + 1, none⟩ = false := own_fro hr
                      rw [hg1] at hcell
                      have hn0 : wrap64 ((n : Int) - 1) = (G'.length : Int) := by have := HGL.out; unfold wrap64; omega
                      have hn1 : (0 : Int) < (n : Int) := by omega
                      have hn2 : (0 : Int) ≤ (G'.length : Int) := by omega
                      have hn3 : (G'.length : Int) < (n : Int) := by omega
                      have hfw : wrap64 fr = fr := by have := HFR.out; unfold wrap64; omega
                      have hf1 : wrap64 (fr + 1) = fr + 1 := by have := HFR.out; unfold wrap64; omega
                      have HGL1 := hid hgl1
                      have HGG := hid hgg
                      have HG1 := hid hg1
                      have HRR := hid hr
                      have hs9 := HS5.out
                      rw [hgl1] at hs9
                      have HS9 := hid hs9
                      clear hgg hg1 hgl1 hE0 hr hs9
                      by_cases heq : fr + 1 = nx
                      · have hT := hid (kpt_to (d := nx) (by decide) (show w.heap.size + 1 < w.heap.size + 2 by omega) HS9.out HRR.out)
                        have hu : IntKind.u16.wrap (fr + 1) = nx := by rw [heq]; exact hwn
                        go_wp2_with fail
                        go_roundg (65536 - nx).toNat
                        case measure => exact HMS.out
                        case rel =>
                          refine ⟨nx, E ++ [nx], true, rfl, hid ⟨by simp, HP1.out, HRL.out⟩, hid (hI5.out.step (by rw [HGL1.out] at *; exact hT.out.1) ?_ hT.out.2.2)⟩
                          rw [gOf_snoc, HGG.out, gadd_yes _ _ _ (by rw [HG1.out]; exact heq)]
                          exact hT.out.2.1
                      · have HG0 : Hid (OwnG 94 wr (w.heap.size + 2) (.slice (some ⟨bg, 0, none⟩) n cg) (G' ++ [g])) := hid (by rw [HGL1.out]; exact HRR.out)
                        obtain ⟨j0, hj0, hy0, hy1, hy2⟩ := info_parts infoGr
                        have HNE := hid heq
                        have hne : (fr + 1 == nx) = false := by simpa using heq
                        have HOW := hid (World.ownsRow.alloc (show wr.ownsRow (w.heap.size + 2) 94 2 (.slice (some ⟨bg, 0, none⟩) n cg) n ((G' ++ [g]).flatMap gcells) by have h9 := HG0.out; unfold OwnG at h9; rw [show (G' ++ [g]).length = n by rw [HGL1.out]; simp] at h9; exact h9) (.cells (gcells ⟨nx, nx⟩).toArray 94))
                        have HNW := hid (news_g 94 wr ⟨nx, nx⟩)
                        have HP := hid (show w.heap.size + 1 < w.heap.size + 2 by omega)
                        have HP3 := hid (show w.heap.size + 1 < wr.heap.size by have := hI5.out.sz; omega)
                        have HB2 := hid (show w.heap.size + 2 ≤ (wr.alloc (.cells (gcells ⟨nx, nx⟩).toArray 94)).heap.size by rw [World.size_alloc]; have := hI5.out.sz; omega)
                        have HON := hid (one_gcells ⟨nx, nx⟩)
                        go_wp2_with (at_builtin; go_loud (refine wpList_append_own _ rfl _ _ 41 rfl (w.heap.size + 2) 94 j0 _ 2 4 Tryz.underlying41 hj0 hy0 hy1 hy2 rfl (by decide) _ _ _ rfl HOW.out ⟨wr.heap.size, 0, none⟩ 1 1 (gcells ⟨nx, nx⟩) rfl rfl HNW.out HON.out (by have := HGL.out; unfold maxLen; omega) (by have := HGL.out; omega) HB2.out ?_; intro v' w9 hown' hgrow _; have hK := hid (kpt_app (by decide) HP.out HP3.out HS5.out (by rw [HGL1.out]; simp) HG0.out hgrow hown'); have hxx := kpt_blk (by decide) HS5.out HG0.out hgrow; obtain ⟨A9, c9, rfl⟩ := ownsRow_form hown'; clear w0 w1 w2 w3 r0 r1 r2 r3; obtain ⟨⟨w0, w1, w2, w3⟩, ⟨r0, r1, r2, r3⟩⟩ := four hxx; clear hxx))
                        go_roundg (65536 - nx).toNat
                        case measure => exact HMS.out
                        case rel =>
                          refine ⟨nx, E ++ [nx], true, rfl, hid ⟨by simp, HP1.out, HRL.out⟩, hid (hI5.out.step hK.out.1 ?_ hK.out.2.2)⟩
                          rw [gOf_snoc, HGG.out, gadd_no _ _ (by simpa [HG1.out] using HNE.out)]
                          exact hK.out.2.1
end Sk14
end Go.Proofs.YtcjcgehhmjnlcaaGreatDoor
