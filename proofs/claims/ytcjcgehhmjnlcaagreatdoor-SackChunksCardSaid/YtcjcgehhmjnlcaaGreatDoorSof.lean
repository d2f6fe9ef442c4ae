/- 'sack.Of'. -/
import Derived.Test.YtcjcgehhmjnlcaaGreatDoorSmc
import Derived.Test.YtcjcgehhmjnlcaaGreatDoorSga
set_option linter.unusedVariables false
set_option linter.unusedSimpArgs false
namespace Go.Proofs.YtcjcgehhmjnlcaaGreatDoor
open Go.RowKit Go.Shelf Go.Proofs.YtcjcgehhmjnlcaaGreatDoor.It Go.Proofs.YtcjcgehhmjnlcaaGreatDoorW.PrintWords Go.Proofs.YtcjcgehhmjnlcaaGreatDoorW.PrintLast Go.Proofs.YtcjcgehhmjnlcaaGreatDoorW.PrintMore
namespace Sk14
def SofNo (w : World) (e : Ending) (w' : World) : Prop := e = .returned (.tuple #[.agg #[.int .u32 0, .int .u32 0, .slice none 0 0, .slice none 0 0], .bool false]) ∧ Below w.heap.size w w'
def ckO (t f : Int) (A : Option Addr) (n c : Nat) (K : Option Addr) (m d : Nat) : Obj := .cells #[.int .u8 t, .int .u8 f, .slice A n c, .slice K m d] 35 (0, 0)
set_option maxRecDepth 100000 in
set_option maxHeartbeats 4000000 in
theorem sof_other (t f : Int) (A K : Option Addr) (n c m d : Nat) (w : World) (h : t ≠ 3) : Calls Tryz.prog 23 #[ckV t f A n c K m d] w (SofNo w) := by
  have hb : (t != 3) = true := by simpa using h
  have hz := blk_new1 w (ckO t f A n c K m d) saZ
  unfold ckO saZ at hz
  obtain ⟨⟨z0, z1, z2, z3⟩, ⟨y0, y1, y2, y3⟩⟩ := four hz
  have HB0 := hid (below_alloc (below_alloc (Below.refl w.heap.size w) (ckO t f A n c K m d)) saZ)
  clear hz h
  unfold ckV
  go_enter Tryz.func23, Tryz.ntmps23
  go_wp2_with fail
  refine bodyPost_ret (v := .tuple #[.agg #[.int .u32 0, .int .u32 0, .slice none 0 0, .slice none 0 0], .bool false]) (by simp [results, Tryz.results23, go_sem, z0, z1, z2, z3]) rfl ?_
  exact ⟨rfl, HB0.out⟩
set_option maxRecDepth 100000 in
set_option maxHeartbeats 4000000 in
theorem sof_bad (f : Int) (A K : Option Addr) (n c m d : Nat) (w : World) (X : Int × Option Int) (hck : ∀ W, Below w.heap.size w W → Calls Tryz.prog 29 #[ckV 3 f A n c K m d] W (ErrPost (some X) W)) : Calls Tryz.prog 23 #[ckV 3 f A n c K m d] w (SofNo w) := by
  have hz := hid (blk_new1 w (ckO 3 f A n c K m d) saZ)
  have HB0 := hid (below_alloc (below_alloc (Below.refl w.heap.size w) (ckO 3 f A n c K m d)) saZ)
  have H := hck _ HB0.out
  clear hck
  obtain ⟨c0, _ | n0⟩ := X
  all_goals
    unfold ckV ErrPost at H
    simp only [eV] at H
    unfold ckV
    go_enter Tryz.func23, Tryz.ntmps23
    go_wp2_with fail
    refine H.mono ?_
    rintro e w1 ⟨rfl, hb⟩
    have hz1 := blk_below hz.out hb
    unfold saZ at hz1
    obtain ⟨⟨z0, z1, z2, z3⟩, ⟨y0, y1, y2, y3⟩⟩ := four hz1
    have HB1 := hid (cthen HB0.out hb)
    clear hz1 hb H
    go_wp2_with fail
    refine bodyPost_ret (v := .tuple #[.agg #[.int .u32 0, .int .u32 0, .slice none 0 0, .slice none 0 0], .bool false]) (by simp [results, Tryz.results23, go_sem, z0, z1, z2, z3]) rfl ?_
    exact ⟨rfl, below_set (below_set (below_set (below_set HB1.out (Nat.le_succ _) _) (Nat.le_succ _) _) (Nat.le_succ _) _) (Nat.le_succ _) _⟩
/-- The numbers of a sack's data. -/
def sW (D : List Int) : List Int := numsOf 4 D
def sN (D : List Int) : Nat := ((sW D).getD 2 0 / 65536).toNat
def sG (x : Int) : Gp := ⟨IntKind.u16.wrap (x / 65536), IntKind.u16.wrap x⟩
def sGs (D : List Int) (n : Nat) : List Gp := (((sW D).drop 3).take n).map sG
def SofPost (D : List Int) (w : World) (e : Ending) (w' : World) : Prop := ∃ v u, e = .returned (.tuple #[.agg #[.int .u32 ((sW D).getD 0 0), .int .u32 ((sW D).getD 1 0), v, u], .bool true]) ∧ OwnG 93 w' w.heap.size v (sGs D (sN D)) ∧ OwnU w' w.heap.size u ((sW D).drop (3 + sN D)) ∧ Below w.heap.size w w'
theorem numsOf_getD (k : Nat) (D : List Int) (i : Nat) (h : i < D.length / k) : (numsOf k D).getD i 0 = numAt (fun t => D.getD t 0) (i * k) k := by
  unfold numsOf upto
  rw [List.getD_eq_getElem?_getD, List.getElem?_map, List.getElem?_map, List.getElem?_range h]
  rfl
theorem byt_getD {D : List Int} (hB : Byt D) (t : Nat) : 0 ≤ D.getD t 0 ∧ D.getD t 0 ≤ 255 := by
  rw [List.getD_eq_getElem?_getD]
  cases ht : D[t]? with
  | none => simp
  | some x => exact hB x (List.mem_of_getElem? ht)
theorem sW_bd (D : List Int) (hB : Byt D) (i : Nat) : 0 ≤ (numsOf 4 D).getD i 0 ∧ (numsOf 4 D).getD i 0 < 4294967296 := by
  by_cases h : i < D.length / 4
  · rw [numsOf_getD 4 D i h]
    have := numAt_bd (bs := fun t => D.getD t 0) (i := i * 4) (k := 4) (fun t _ => byt_getD hB _) 4 (Nat.le_refl 4)
    exact ⟨this.1, Int.lt_of_lt_of_le this.2 (by decide)⟩
  · rw [List.getD_eq_getElem?_getD, List.getElem?_eq_none (by rw [numsOf_len]; omega)]
    simp
theorem sW_pos (D : List Int) (hB : Byt D) (L : List Int) (hL : numsOf 4 D = L) (i : Nat) (X : Int) (hX : L.getD i 0 = X) : 0 ≤ X := by
  rw [← hX, ← hL]
  exact (sW_bd D hB i).1
theorem sW_le (D : List Int) (hl : D.length ≤ 65531) (L : List Int) (hL : numsOf 4 D = L) : L.length ≤ 16382 := by
  rw [← hL, numsOf_len]
  omega
/-- What holds in the loop over the gaps. -/
def SoI (w : World) (p : Nat) (X0 X1 : Int) (v : Value) (l : List Gp) (W : World) : Prop := Below w.heap.size w W ∧ W.heap[w.heap.size + 1]? = some saZ ∧ W.heap[p]? = some (.cells #[.int .u32 X0, .int .u32 X1, v, .slice none 0 0] 49 (0, 0)) ∧ OwnG 93 W p v l ∧ w.heap.size + 1 < p
theorem soi_app {w w2 W W' : World} {p : Nat} {X0 X1 : Int} {v v' : Value} {l : List Gp} {n : Nat} {g : Gp} (hp2 : w2.heap.size ≤ p) (hw2 : Below w2.heap.size w2 W) (h : SoI w p X0 X1 v l W) (hn : l.length = n) (hg : (W.alloc (.cells (gcells g).toArray 93)).grownBy W' v.ownBlock) (ho : W'.ownsRow p 93 2 v' (n + 1) (l.flatMap gcells ++ gcells g)) :
    Below w.heap.size w W' ∧ W'.heap[w.heap.size + 1]? = some saZ ∧ W'.heap[p]? = some (.cells #[.int .u32 X0, .int .u32 X1, v, .slice none 0 0] 49 (0, 0)) ∧ OwnG 93 W' p v' (l ++ [g]) ∧ w.heap.size + 1 < p ∧ Below w2.heap.size w2 W' := by
  obtain ⟨hb, h1, h2, hw, hp⟩ := h
  have ha := below_alloc (Below.refl W.heap.size W) (.cells (gcells g).toArray 93)
  have n1 := row_apart hw (by decide) h1
  have n2 := row_apart hw (by decide) h2
  have k1 := blk_below h1 ha
  have k2 := blk_below h2 ha
  have hl : ∀ j, v.ownBlock = some j → p ≤ j := fun j hj => by
    rcases hw with ⟨-, ⟨rfl, -⟩ | ⟨g, cap, cur, rfl, hgb, -⟩⟩
    · simp [Value.ownBlock] at hj
    · simp [Value.ownBlock] at hj; omega
  refine ⟨(cthen hb ha).grown hg (cthen hb ha).size (fun j hj => by have := hl j hj; omega), ?_, ?_, ?_, hp, (cthen hw2 ha).grown hg (cthen hw2 ha).size (fun j hj => Nat.le_trans hp2 (hl j hj))⟩
  · rw [hg.block _ (Array.getElem?_eq_some_iff.1 k1).1 n1]; exact k1
  · rw [hg.block _ (Array.getElem?_eq_some_iff.1 k2).1 n2]; exact k2
  · unfold OwnG
    rw [List.length_append, List.flatMap_append, hn]
    simpa using ho
theorem soi_set {w W : World} {p : Nat} {X0 X1 : Int} {v v' : Value} {l : List Gp} (hb : Below w.heap.size w W) (h1 : W.heap[w.heap.size + 1]? = some saZ) (h2 : W.heap[p]? = some (.cells #[.int .u32 X0, .int .u32 X1, v, .slice none 0 0] 49 (0, 0))) (ho : OwnG 93 W p v' l) (hp : w.heap.size + 1 < p) : SoI w p X0 X1 v' l (W.setCell ⟨p, 2, none⟩ v') := by
  refine ⟨below_set hb (by omega) _, ?_, set_blk' h2 2 v', ownsRow_setCell_other ho (Ne.symm (row_apart ho (by decide) h2)) _, hp⟩
  rw [Below.heap_setCell W ⟨p, 2, none⟩ v' (w.heap.size + 1) (by show w.heap.size + 1 ≠ p; omega)]
  exact h1
theorem news_u {w2 W : World} {b off j : Nat} {L : List Int} (hb : Below w2.heap.size w2 W) (hlt : b < w2.heap.size) (hc : ∀ t, t < L.length → w2.cell? ⟨b, off + t, none⟩ = some (.int .u32 (L.getD t 0))) : ∀ k u, ((L.drop j).map (Value.int .u32))[k]? = some u → W.cell? ((⟨b, off + j, none⟩ : Addr).add k) = some u := by
  intro k u hu
  rw [Go.WideShapes.add_plain]
  rw [List.getElem?_map, List.getElem?_drop, Option.map_eq_some_iff] at hu
  obtain ⟨x, hx, rfl⟩ := hu
  have ht : j + k < L.length := (List.getElem?_eq_some_iff.1 hx).1
  have h := hc (j + k) ht
  rw [List.getD_eq_getElem?_getD, hx] at h
  have h2 := (hb.cell (p := ⟨b, off + (j + k), none⟩) hlt).trans h
  rwa [← Nat.add_assoc] at h2
theorem sof_fin {w wr w9 : World} {p : Nat} {X0 X1 : Int} {v u : Value} {G : List Gp} {U : List Int} (hI : SoI w p X0 X1 v G wr) (hB9 : Below wr.heap.size wr w9) (hU : OwnU w9 p u U) (a0 a1 a2 a3 : Value) :
    OwnG 93 (((((w9.setCell ⟨p, 3, none⟩ u).setCell ⟨w.heap.size + 1, 0, none⟩ a0).setCell ⟨w.heap.size + 1, 1, none⟩ a1).setCell ⟨w.heap.size + 1, 2, none⟩ a2).setCell ⟨w.heap.size + 1, 3, none⟩ a3) w.heap.size v G ∧
    OwnU (((((w9.setCell ⟨p, 3, none⟩ u).setCell ⟨w.heap.size + 1, 0, none⟩ a0).setCell ⟨w.heap.size + 1, 1, none⟩ a1).setCell ⟨w.heap.size + 1, 2, none⟩ a2).setCell ⟨w.heap.size + 1, 3, none⟩ a3) w.heap.size u U ∧
    Below w.heap.size w (((((w9.setCell ⟨p, 3, none⟩ u).setCell ⟨w.heap.size + 1, 0, none⟩ a0).setCell ⟨w.heap.size + 1, 1, none⟩ a1).setCell ⟨w.heap.size + 1, 2, none⟩ a2).setCell ⟨w.heap.size + 1, 3, none⟩ a3) := by
  obtain ⟨hb, h1, h2, hG, hp⟩ := hI
  have k2 := blk_below h2 hB9
  have gG : OwnG 93 w9 p v G := row_kept hG hB9
  have g1 := ownsRow_setCell_other (a := ⟨p, 3, none⟩) gG (Ne.symm (row_apart gG (by decide) k2)) u
  have u1 := ownsRow_setCell_other (a := ⟨p, 3, none⟩) hU (Ne.symm (row_apart hU (by decide) k2)) u
  have hlt : ∀ k, (⟨w.heap.size + 1, k, none⟩ : Addr).block < p := fun k => hp
  have hle : ∀ k, w.heap.size ≤ (⟨w.heap.size + 1, k, none⟩ : Addr).block := fun k => Nat.le_succ _
  refine ⟨ownG_lower (ownsRow_setCell_below (ownsRow_setCell_below (ownsRow_setCell_below (ownsRow_setCell_below g1 (hlt 0) _) (hlt 1) _) (hlt 2) _) (hlt 3) _) (by omega),
    ownU_lower (ownsRow_setCell_below (ownsRow_setCell_below (ownsRow_setCell_below (ownsRow_setCell_below u1 (hlt 0) _) (hlt 1) _) (hlt 2) _) (hlt 3) _) (by omega),
    below_set (below_set (below_set (below_set (below_set (cthen hb hB9) (by show w.heap.size ≤ p; omega) _) (hle 0) _) (hle 1) _) (hle 2) _) (hle 3) _⟩
theorem sG_step (L : List Int) (i : Nat) (x : Int) (h : 3 + i < L.length) (hx : L.getD (3 + i) 0 = x) : ((L.drop 3).take (i + 1)).map sG = ((L.drop 3).take i).map sG ++ [sG x] := by
  have hd : i < (L.drop 3).length := by rw [List.length_drop]; omega
  rw [List.take_succ_eq_append_getElem hd, List.map_append]
  rw [List.getD_eq_getElem?_getD, List.getElem?_eq_getElem h] at hx
  simp at hx
  simp [hx]
abbrev Two2 (w2 : World) (b off : Nat) (X0 X1 : Int) (W : World) : Prop := Below w2.heap.size w2 W ∧ W.cell? ⟨b, off, none⟩ = some (.int .u32 X0) ∧ W.cell? ⟨b, off + 1, none⟩ = some (.int .u32 X1)
def Of5 (w2 : World) (p : Nat) (o : Obj) (W : World) : Prop := w2.heap.size ≤ p ∧ W.heap[p]? = some o ∧ Below w2.heap.size w2 W
theorem Two2.alloc {w2 W : World} {b off : Nat} {X0 X1 : Int} {o : Obj} (h : Two2 w2 b off X0 X1 W) : Two2 w2 b off X0 X1 (W.alloc o) :=
  have hb : Below W.heap.size W (W.alloc o) := below_alloc (Below.refl _ _) o
  ⟨cthen h.1 hb, (hb.cell (World.block_lt_of_cell? W _ h.2.1)).trans h.2.1, (hb.cell (World.block_lt_of_cell? W _ h.2.2)).trans h.2.2⟩
theorem Two2.allocd {w2 W : World} {b off : Nat} {X0 X1 : Int} {o : Obj} (h : Two2 w2 b off X0 X1 W.drew) : Two2 w2 b off X0 X1 (W.alloc o).drew := by
  have h2 := Two2.alloc (o := o) (show Two2 w2 b off X0 X1 W from ⟨below_undrew' h.1, h.2⟩)
  exact ⟨below_drew h2.1 1, h2.2⟩
set_option maxRecDepth 100000 in
set_option maxHeartbeats 8000000 in
theorem sof_yes (f : Int) (A K : Option Addr) (c m d : Nat) (D : List Int) (w : World) (hC : BC w A D) (hB : Byt D) (hc : D.length ≤ c) (hl : D.length ≤ 65531) (h4 : D.length % 4 = 0) (h12 : 3 + sN D ≤ (sW D).length)
    (hck : ∀ W, Below w.heap.size w W → Calls Tryz.prog 29 #[ckV 3 f A D.length c K m d] W (ErrPost none W)) : Calls Tryz.prog 23 #[ckV 3 f A D.length c K m d] w (SofPost D w) := by
  have hz := hid (blk_new1 w (ckO 3 f A D.length c K m d) saZ)
  have hx := hid (blk_alloc (x := saZ) (blk_new w (ckO 3 f A D.length c K m d)))
  have HB0 := hid (below_alloc (below_alloc (Below.refl w.heap.size w) (ckO 3 f A D.length c K m d)) saZ)
  have H := hck _ HB0.out
  have HC := hid hC
  have HBy := hid hB
  have HCC := hid hc
  have HL := hid hl
  have H4 := hid h4
  have H12 := hid h12
  clear hck hC hB hc hl h4 h12
  unfold ckV ErrPost at H
  simp only [eV] at H
  unfold ckV
  go_enter Tryz.func23, Tryz.ntmps23
  go_wp2_with fail
  refine H.mono ?_
  rintro e w1 ⟨rfl, hb⟩
  have HZ := hid (blk_below hz.out hb)
  have HX := hid (blk_below hx.out hb)
  have HB1 := hid (cthen HB0.out hb)
  clear hb H hz hx HB0
  obtain ⟨⟨x0, x1, x2, x3⟩, -⟩ := four HX.out
  go_wp2_with fail
  refine (Numbers_any 4 (by omega) A c D w1 (HC.out.below HB1.out) HBy.out HCC.out (by have := HL.out; omega) H4.out).mono ?_
  rintro e w2 ⟨v, rfl, hR, hb⟩
  have HB2 := hid (cthen HB1.out hb)
  have HZ2 := hid (blk_below HZ.out hb)
  obtain ⟨B, cB, rfl, hcB, hU⟩ := Kd.R_reads hR
  obtain ⟨L, hL⟩ : ∃ L, numsOf 4 D = L := ⟨_, rfl⟩
  rw [hL] at hR hcB hU ⊢
  have hL3 : 3 ≤ L.length := by have := H12.out; unfold sW at this; rw [hL] at this; omega
  have HLL := hid hL
  clear hL hb HX HB1 HZ x0 x1 x2 x3
  rcases ints_cells hU with h | ⟨b, off, rfl, hblt, hcell⟩
  · rw [h] at hL3; exact absurd hL3 (by simp)
  have HCL := hid hcell
  have c0 := hcell 0 (by omega)
  have c1 := hcell 1 (by omega)
  have c2 := hcell 2 (by omega)
  obtain ⟨X0, hX0⟩ : ∃ X, L.getD 0 0 = X := ⟨_, rfl⟩
  obtain ⟨X1, hX1⟩ : ∃ X, L.getD 1 0 = X := ⟨_, rfl⟩
  obtain ⟨X2, hX2⟩ : ∃ X, L.getD 2 0 = X := ⟨_, rfl⟩
  rw [hX0] at c0
  rw [hX1] at c1
  rw [hX2] at c2
  have HX0 := hid hX0
  have HX1 := hid hX1
  have HX2 := hid hX2
  have g0 : (0 : Int) < (L.length : Int) := by omega
  have g1 : (1 : Int) < (L.length : Int) := by omega
  have g2 : (2 : Int) < (L.length : Int) := by omega
  clear hcell hX0 hX1 hX2
  go_wp2_with fail
  rw [Nat.add_zero] at c0
  have hS0 : Two2 w2 b off X0 X1 w2.drew := ⟨below_drew (Below.refl _ _) 1, c0, c1⟩
  unfold Two2 at hS0
  go_cut [5] from 9 (fun v5 wx => ∃ p : Nat, v5 = .pointer (some ⟨p, 0, none⟩) ∧ Hid (Of5 w2 p (.cells #[.int .u32 X0, .int .u32 X1, .slice none 0 0, .slice none 0 0] 49 (0, 0)) wx))
  case first =>
    clear c0 c1 c2
    have hz0 : ¬ L = [] := by rintro rfl; simp at hL3
    have hz1 : 0 < L.length := by omega
    have hz2 : 1 < L.length := by omega
    go_region_held3 (fun W => Below w2.heap.size w2 W ∧ W.cell? ⟨b, off, none⟩ = some (.int .u32 X0) ∧ W.cell? ⟨b, off + 1, none⟩ = some (.int .u32 X1))
      (first | with_reducible assumption | (refine Two2.alloc ?_; with_reducible assumption) | (refine Two2.allocd ?_; with_reducible assumption))
      (fail)
    all_goals
      go_wp2_with fail
      go_meet
      exact ⟨_, rfl, hid ⟨Nat.le_refl _, blk_newd _ _, below_drew (below_alloc (Below.refl _ _) _) 1⟩⟩
  case rest =>
  obtain ⟨p, rfl, hp⟩ := hcut
  have hbc := hid hp.out.2.2
  have hc2 : wc.cell? ⟨b, off + 2, none⟩ = some (.int .u32 X2) := (hbc.out.cell (p := ⟨b, off + 2, none⟩) hblt).trans c2
  clear c0 c1 c2 hS0
  obtain ⟨n, hn, hn0, hn1⟩ : ∃ n : Nat, X2 / 65536 = (n : Int) ∧ Hid (n = sN D) ∧ 3 + n ≤ L.length := by
    have h := H12.out
    have h0 : 0 ≤ X2 := sW_pos D HBy.out L HLL.out 2 X2 HX2.out
    refine ⟨sN D, ?_, hid rfl, by unfold sW at h; rw [HLL.out] at h; exact h⟩
    unfold sN sW
    rw [HLL.out, HX2.out]
    omega
  have hll := sW_le D HL.out L HLL.out
  have s3 : wrap64 (n : Int) = (n : Int) := by unfold wrap64; omega
  have s2 : wrap64 (3 + (n : Int)) = 3 + (n : Int) := by unfold wrap64; omega
  have g3 : 0 ≤ 3 + (n : Int) := by omega
  have g4 : 3 + (n : Int) ≤ (cB : Int) := by omega
  have g5 : max (3 + (n : Int)) 0 = 3 + (n : Int) := by omega
  have g6 : (3 : Int) ≤ 3 + (n : Int) := by omega
  have HN1 := hid hn1
  have HLLL := hid hll
  have HCB := hid hcB
  have HI := hid (show SoI w p X0 X1 (.slice none 0 0) [] wc from ⟨cthen HB2.out hbc.out, blk_below HZ2.out hbc.out, hp.out.2.1, World.ownsRow_nil _ _ _ _, Nat.le_trans (by have := (Array.getElem?_eq_some_iff.1 HZ2.out).1; omega) hp.out.1⟩)
  have HCW := hid hbc.out
  have HP2 := hid hp.out.1
  clear hn1 hll hL3 hcB hp HZ2 HB2 hbc
  go_wp2_with fail
  all_goals
    go_loopw [38] (fun iv W => ∃ (i : Nat) (A' : Option Addr) (c' : Nat), iv = .int .i64 i ∧ i ≤ n ∧ Hid (SoI w p X0 X1 (.slice A' i c') (((L.drop 3).take i).map sG) W) ∧ Hid (Below w2.heap.size w2 W)) (fun iv _ => n - (intOf iv).toNat)
    case atStart => exact ⟨0, none, 0, rfl, by omega, by simpa using HI, HCW⟩
    case round =>
      obtain ⟨i, A', c', rfl, hi, hI, hW⟩ := hrel
      by_cases hlt : i < n
      · have hne3 : cB ≠ 3 := by have := HCB.out; have := HN1.out; omega
        first
        | (exfalso; exact hne3 (by assumption))
        | (have hk := HCL.out (3 + i) (by have := HN1.out; omega)
           obtain ⟨x, hx⟩ : ∃ x, L.getD (3 + i) 0 = x := ⟨_, rfl⟩
           rw [hx] at hk
           have k0 : wr.cell? ⟨b, off + 3 + i, none⟩ = some (.int .u32 x) := by
             have := (hW.out.cell (p := ⟨b, off + (3 + i), none⟩) hblt).trans hk
             rwa [show off + (3 + i) = off + 3 + i by omega] at this
           have HXX := hid hx
           clear hk hx
           obtain ⟨⟨q0, q1, q2, q3⟩, ⟨r0, r1, r2, r3⟩⟩ := four hI.out.2.2.1
           obtain ⟨i0, hi0, hz0, hz1, hz2⟩ := info_parts infoG
           have hown := hI.out.2.2.2.1
           have hln : (((L.drop 3).take i).map sG).length = i := by have := HN1.out; simp; omega
           unfold OwnG at hown
           rw [hln] at hown
           have HOW := hid (World.ownsRow.alloc hown (.cells (gcells (sG x)).toArray 93))
           have HLN := hid hln
           have HBS := hid (below_alloc hI.out.1 (.cells (gcells (sG x)).toArray 93))
           have HNW := hid (news_g 93 wr (sG x))
           have hi9 := hid (show i ≤ 20000 by have := HN1.out; have := HLLL.out; omega)
           clear hown hln
           go_wp2_with (at_builtin; refine wpList_append_own _ rfl _ _ 47 rfl p 93 i0 _ 2 4 Tryz.underlying47 hi0 hz0 hz1 hz2 rfl (by decide) _ _ _ rfl HOW.out ⟨wr.heap.size, 0, none⟩ 1 1 (gcells (sG x)) rfl rfl HNW.out (by intro u hu; simp only [gcells, List.mem_cons, List.not_mem_nil, or_false] at hu; rcases hu with rfl | rfl <;> rfl) (by have := hi9.out; unfold maxLen; omega) (by have := hi9.out; omega) (Nat.le_of_lt (Nat.lt_of_lt_of_le (Array.getElem?_eq_some_iff.1 hI.out.2.2.1).1 (below_alloc (Below.refl wr.heap.size wr) _).size)) ?_; intro v' w9 hown' hgrow _; have hgw : (wr.alloc (.cells (gcells (sG x)).toArray 93)).grownBy w9 (Value.slice A' i c').ownBlock := hgrow; have HI9 := hid (soi_app HP2.out hW.out hI.out HLN.out hgw hown'); clear hgw; obtain ⟨A9, c9, rfl⟩ := ownsRow_form hown'; clear hown' hgrow q0 q1 q2 q3 r0 r1 r2 r3; obtain ⟨⟨q0, q1, q2, q3⟩, ⟨r0, r1, r2, r3⟩⟩ := four HI9.out.2.2.1)
           obtain ⟨hA, hB1, hC2, hD, hE, hF⟩ := HI9.out
           have hi20 := hi9.out
           have hstep := sG_step L i x (by have := HN1.out; omega) HXX.out
           have hw : wrap64 ((i : Int) + 1) = ((i + 1 : Nat) : Int) := by unfold wrap64; omega
           have hms : n - (intOf (.int .i64 (wrap64 ((i : Int) + 1)))).toNat < n - i := by
             rw [hw]
             simp only [intOf, Int.toNat_natCast]
             clear hw
             omega
           refine ⟨⟨i + 1, A9, c9, by rw [hw], hlt, hid (by rw [hstep]; exact soi_set hA hB1 hC2 hD hE), hid (below_set hF HP2.out _)⟩, by simpa [intOf] using hms⟩)
      · obtain rfl : i = n := by omega
        obtain ⟨⟨q0, q1, q2, q3⟩, ⟨r0, r1, r2, r3⟩⟩ := four hI.out.2.2.1
        obtain ⟨⟨z0, z1, z2, z3⟩, ⟨y0, y1, y2, y3⟩⟩ := four (show wr.heap[w.heap.size + 1]? = some (.cells #[.int .u32 0, .int .u32 0, .slice none 0 0, .slice none 0 0] 49 (0, 0)) from hI.out.2.1)
        -- region 11 --
        have hS0 : Below wr.heap.size wr wr.drew ∧ wr.drew.cell? ⟨p, 3, none⟩ = some (.slice none 0 0) := ⟨below_drew (Below.refl _ _) 1, q3⟩
        have l1 : 3 + (i : Int) ≤ (L.length : Int) := by have := HN1.out; omega
        have l2 : (L.length : Int) ≤ (cB : Int) := by have := HCB.out; omega
        have HW2 := hid hW.out.size
        have HPZ := hid (Array.getElem?_eq_some_iff.1 hI.out.2.2.1).1
        obtain ⟨i0, hi0, hz0, hz1, hz2⟩ := info_parts infoU
        have tn : (3 + (i : Int)).toNat = 3 + i := by omega
        by_cases h0 : L.length = 3 + i
        · by_cases hc3 : cB = 3 + i
          · have e2 : (cB = (3 + (i : Int)).toNat) = True := by rw [tn]; simp [hc3]
            try (have e0 : (i = 0) = True := by simp; omega)
            go_wp2_with fail
            clear q0 q1 q2 q3
            refine start_ (n := 9) (S := fun w' => Below wr.heap.size wr w' ∧ w'.cell? ⟨p, 3, none⟩ = some (.slice none 0 0)) (ds := [6, 8]) #[false, false, false, false, false, false, false, false, false] (by kernel_rfl) rfl rfl hS0 (fun hHeld => ?_)
            generalize wr.drew = w44 at hS0 hHeld ⊢
            refine pure_ (i := 0) (N := some 54) (v := ?_) (a' := ?_) #[true, false, false, false, false, false, false, false, false] rfl rfl (by kernel_rfl) (fun _ _ _ h => h) (Or.inl ⟨by rfl, ?_⟩) ?_ ?_
            rotate_left
            · intro w'
              go_simp
              with_reducible rfl
            rotate_left
            · simp only [Act.put, List.setIfInBounds_toArray, List.set_cons_zero, List.set_cons_succ, i64_w, i32_w]
              rfl
            refine pure_ (i := 2) (N := some 56) (v := ?_) (a' := ?_) #[true, false, true, false, false, false, false, false, false] rfl rfl (by kernel_rfl) (fun _ _ _ h => h) (Or.inl ⟨by rfl, ?_⟩) ?_ ?_
            rotate_left
            · intro w'
              go_simp
              with_reducible rfl
            rotate_left
            · simp only [Act.put, List.setIfInBounds_toArray, List.set_cons_zero, List.set_cons_succ, i64_w, i32_w]
              rfl
            refine pure_ (i := 3) (N := some 57) (v := ?_) (a' := ?_) #[true, false, true, true, false, false, false, false, false] rfl rfl (by kernel_rfl) (fun _ _ _ h => h) (Or.inl ⟨by rfl, ?_⟩) ?_ ?_
            rotate_left
            · intro w'
              go_simp
              with_reducible rfl
            rotate_left
            · simp only [Act.put, List.setIfInBounds_toArray, List.set_cons_zero, List.set_cons_succ, i64_w, i32_w]
              rfl
            refine pure_ (i := 4) (N := some 58) (v := ?_) (a' := ?_) #[true, false, true, true, true, false, false, false, false] rfl rfl (by kernel_rfl) (fun _ _ _ h => h) (Or.inl ⟨by rfl, ?_⟩) ?_ ?_
            rotate_left
            · intro w'
              go_simp
              with_reducible rfl
            rotate_left
            · simp only [Act.put, List.setIfInBounds_toArray, List.set_cons_zero, List.set_cons_succ, i64_w, i32_w]
              rfl
            refine pure_ (i := 5) (N := some 59) (v := ?_) (a' := ?_) #[true, false, true, true, true, true, false, false, false] rfl rfl (by kernel_rfl) (fun _ _ _ h => h) (Or.inl ⟨by rfl, ?_⟩) ?_ ?_
            rotate_left
            · intro w'
              go_simp
              with_reducible rfl
            rotate_left
            · simp only [Act.put, List.setIfInBounds_toArray, List.set_cons_zero, List.set_cons_succ, i64_w, i32_w]
              rfl
            refine take_ (i := 1) (N := some 55) (v := ?_) (a' := ?_) #[true, true, true, true, true, true, false, false, false] rfl rfl (by kernel_rfl) (fun _ _ _ h => h) (Or.inl ⟨by rfl, ?_⟩) hHeld ?_ ?_
            rotate_left
            · rintro w' ⟨q0, q1⟩
              go_simp
              with_reducible rfl
            rotate_left
            · simp only [Act.put, List.setIfInBounds_toArray, List.set_cons_zero, List.set_cons_succ, i64_w, i32_w]
              rfl
            refine last_ (i := 6) (N := some 60) #[true, true, true, true, true, true, true, false, false] rfl rfl (by kernel_rfl) (by decide) (fun K hK => ?_)
            refine value_ (w1 := w44) (v := .slice none 0 0) (by rfl) rfl (by go_simp; done) ?_
            have HB9 := hid hHeld.1
            clear hHeld hS0
            clear r0 r1 r2 r3 z0 z1 z2 z3 y0 y1 y2 y3
            obtain ⟨⟨z0, z1, z2, z3⟩, ⟨y0, y1, y2, y3⟩⟩ := four (blk_below (show wr.heap[w.heap.size + 1]? = some (.cells #[.int .u32 0, .int .u32 0, .slice none 0 0, .slice none 0 0] 49 (0, 0)) from hI.out.2.1) HB9.out)
            obtain ⟨⟨q0, q1, q2, q3⟩, ⟨r0, r1, r2, r3⟩⟩ := four (blk_below hI.out.2.2.1 HB9.out)
            refine hK.out _ _ ?_
            clear hK K
            refine norm_ (a' := ?_) ?_ ?_
            rotate_left
            · show Act.put _ (some 60) _ = _
              simp only [Act.put, List.setIfInBounds_toArray, List.set_cons_zero, List.set_cons_succ, i64_w, i32_w]
              rfl
            refine pure_ (i := 7) (N := some 61) (v := ?_) (a' := ?_) #[true, true, true, true, true, true, true, true, false] rfl rfl (by kernel_rfl) (fun _ _ _ h => h) (Or.inl ⟨by rfl, ?_⟩) ?_ ?_
            rotate_left
            · intro w'
              go_simp
              with_reducible rfl
            rotate_left
            · simp only [Act.put, List.setIfInBounds_toArray, List.set_cons_zero, List.set_cons_succ, i64_w, i32_w]
              rfl
            refine last_ (i := 8) (N := none) #[true, true, true, true, true, true, true, true, true] rfl rfl (by kernel_rfl) (by decide) (fun K hK => ?_)
            refine skip_ (w1 := w44.setCell ⟨p, 3, none⟩ (.slice none 0 0)) (by rfl) rfl (by go_simp; done) ?_
            refine hK.out _ _ ?_
            clear hK K
            refine done_ (by kernel_rfl) ?_
            have hne : p ≠ w.heap.size + 1 := by have := hI.out.2.2.2.2; omega
            have hne' : w.heap.size + 1 ≠ p := by have := hI.out.2.2.2.2; omega
            go_wp2_with fail
            refine bodyPost_ret (v := .tuple #[.agg #[.int .u32 X0, .int .u32 X1, .slice A' i c', .slice none 0 0], .bool true]) (by simp [results, Tryz.results23, go_sem, z0, z1, z2, z3, hne, hne']) rfl ?_
            have hF := sof_fin (U := L.drop (3 + i)) hI.out HB9.out (by rw [List.drop_eq_nil_of_le (by omega)]; exact World.ownsRow_nil _ _ _ _) (.int .u32 X0) (.int .u32 X1) (.slice A' i c') (.slice none 0 0)
            refine ⟨.slice A' i c', .slice none 0 0, ?_, ?_, ?_, hF.2.2⟩
            · unfold sW; rw [HLL.out, HX0.out, HX1.out]
            · unfold sGs sW; rw [HLL.out, ← hn0.out]; exact hF.1
            · unfold sW; rw [HLL.out, ← hn0.out]; exact hF.2.1
          · first
            | (exfalso; have := HN1.out; have := HCB.out; omega)
            | (have e2 : (cB = (3 + (i : Int)).toNat) = False := by rw [tn]; simp [hc3]
               go_wp2_with fail
               clear q0 q1 q2 q3
               refine start_ (n := 9) (S := fun w' => Below wr.heap.size wr w' ∧ w'.cell? ⟨p, 3, none⟩ = some (.slice none 0 0)) (ds := [6, 8]) #[false, false, false, false, false, false, false, false, false] (by kernel_rfl) rfl rfl hS0 (fun hHeld => ?_)
               generalize wr.drew = w44 at hS0 hHeld ⊢
               refine pure_ (i := 0) (N := some 54) (v := ?_) (a' := ?_) #[true, false, false, false, false, false, false, false, false] rfl rfl (by kernel_rfl) (fun _ _ _ h => h) (Or.inl ⟨by rfl, ?_⟩) ?_ ?_
               rotate_left
               · intro w'
                 go_simp
                 with_reducible rfl
               rotate_left
               · simp only [Act.put, List.setIfInBounds_toArray, List.set_cons_zero, List.set_cons_succ, i64_w, i32_w]
                 rfl
               refine pure_ (i := 2) (N := some 56) (v := ?_) (a' := ?_) #[true, false, true, false, false, false, false, false, false] rfl rfl (by kernel_rfl) (fun _ _ _ h => h) (Or.inl ⟨by rfl, ?_⟩) ?_ ?_
               rotate_left
               · intro w'
                 go_simp
                 with_reducible rfl
               rotate_left
               · simp only [Act.put, List.setIfInBounds_toArray, List.set_cons_zero, List.set_cons_succ, i64_w, i32_w]
                 rfl
               refine pure_ (i := 3) (N := some 57) (v := ?_) (a' := ?_) #[true, false, true, true, false, false, false, false, false] rfl rfl (by kernel_rfl) (fun _ _ _ h => h) (Or.inl ⟨by rfl, ?_⟩) ?_ ?_
               rotate_left
               · intro w'
                 go_simp
                 with_reducible rfl
               rotate_left
               · simp only [Act.put, List.setIfInBounds_toArray, List.set_cons_zero, List.set_cons_succ, i64_w, i32_w]
                 rfl
               refine pure_ (i := 4) (N := some 58) (v := ?_) (a' := ?_) #[true, false, true, true, true, false, false, false, false] rfl rfl (by kernel_rfl) (fun _ _ _ h => h) (Or.inl ⟨by rfl, ?_⟩) ?_ ?_
               rotate_left
               · intro w'
                 go_simp
                 with_reducible rfl
               rotate_left
               · simp only [Act.put, List.setIfInBounds_toArray, List.set_cons_zero, List.set_cons_succ, i64_w, i32_w]
                 rfl
               refine pure_ (i := 5) (N := some 59) (v := ?_) (a' := ?_) #[true, false, true, true, true, true, false, false, false] rfl rfl (by kernel_rfl) (fun _ _ _ h => h) (Or.inl ⟨by rfl, ?_⟩) ?_ ?_
               rotate_left
               · intro w'
                 go_simp
                 with_reducible rfl
               rotate_left
               · simp only [Act.put, List.setIfInBounds_toArray, List.set_cons_zero, List.set_cons_succ, i64_w, i32_w]
                 rfl
               refine take_ (i := 1) (N := some 55) (v := ?_) (a' := ?_) #[true, true, true, true, true, true, false, false, false] rfl rfl (by kernel_rfl) (fun _ _ _ h => h) (Or.inl ⟨by rfl, ?_⟩) hHeld ?_ ?_
               rotate_left
               · rintro w' ⟨q0, q1⟩
                 go_simp
                 with_reducible rfl
               rotate_left
               · simp only [Act.put, List.setIfInBounds_toArray, List.set_cons_zero, List.set_cons_succ, i64_w, i32_w]
                 rfl
               refine last_ (i := 6) (N := some 60) #[true, true, true, true, true, true, true, false, false] rfl rfl (by kernel_rfl) (by decide) (fun K hK => ?_)
               refine value_ (w1 := w44) (v := .slice none 0 0) (by rfl) rfl (by go_simp; done) ?_
               have HB9 := hid hHeld.1
               clear hHeld hS0
               clear r0 r1 r2 r3 z0 z1 z2 z3 y0 y1 y2 y3
               obtain ⟨⟨z0, z1, z2, z3⟩, ⟨y0, y1, y2, y3⟩⟩ := four (blk_below (show wr.heap[w.heap.size + 1]? = some (.cells #[.int .u32 0, .int .u32 0, .slice none 0 0, .slice none 0 0] 49 (0, 0)) from hI.out.2.1) HB9.out)
               obtain ⟨⟨q0, q1, q2, q3⟩, ⟨r0, r1, r2, r3⟩⟩ := four (blk_below hI.out.2.2.1 HB9.out)
               refine hK.out _ _ ?_
               clear hK K
               refine norm_ (a' := ?_) ?_ ?_
               rotate_left
               · show Act.put _ (some 60) _ = _
                 simp only [Act.put, List.setIfInBounds_toArray, List.set_cons_zero, List.set_cons_succ, i64_w, i32_w]
                 rfl
               refine pure_ (i := 7) (N := some 61) (v := ?_) (a' := ?_) #[true, true, true, true, true, true, true, true, false] rfl rfl (by kernel_rfl) (fun _ _ _ h => h) (Or.inl ⟨by rfl, ?_⟩) ?_ ?_
               rotate_left
               · intro w'
                 go_simp
                 with_reducible rfl
               rotate_left
               · simp only [Act.put, List.setIfInBounds_toArray, List.set_cons_zero, List.set_cons_succ, i64_w, i32_w]
                 rfl
               refine last_ (i := 8) (N := none) #[true, true, true, true, true, true, true, true, true] rfl rfl (by kernel_rfl) (by decide) (fun K hK => ?_)
               refine skip_ (w1 := w44.setCell ⟨p, 3, none⟩ (.slice none 0 0)) (by rfl) rfl (by go_simp; done) ?_
               refine hK.out _ _ ?_
               clear hK K
               refine done_ (by kernel_rfl) ?_
               have hne : p ≠ w.heap.size + 1 := by have := hI.out.2.2.2.2; omega
               have hne' : w.heap.size + 1 ≠ p := by have := hI.out.2.2.2.2; omega
               go_wp2_with fail
               refine bodyPost_ret (v := .tuple #[.agg #[.int .u32 X0, .int .u32 X1, .slice A' i c', .slice none 0 0], .bool true]) (by simp [results, Tryz.results23, go_sem, z0, z1, z2, z3, hne, hne']) rfl ?_
               have hF := sof_fin (U := L.drop (3 + i)) hI.out HB9.out (by rw [List.drop_eq_nil_of_le (by omega)]; exact World.ownsRow_nil _ _ _ _) (.int .u32 X0) (.int .u32 X1) (.slice A' i c') (.slice none 0 0)
               refine ⟨.slice A' i c', .slice none 0 0, ?_, ?_, ?_, hF.2.2⟩
               · unfold sW; rw [HLL.out, HX0.out, HX1.out]
               · unfold sGs sW; rw [HLL.out, ← hn0.out]; exact hF.1
               · unfold sW; rw [HLL.out, ← hn0.out]; exact hF.2.1)
        · have hc3 : cB ≠ 3 + i := by omega
          first
          | (exfalso; have := HN1.out; have := HCB.out; omega)
          | (have e2 : (cB = (3 + (i : Int)).toNat) = False := by rw [tn]; simp [hc3]
             go_wp2_with fail
             clear q0 q1 q2 q3
             refine start_ (n := 9) (S := fun w' => Below wr.heap.size wr w' ∧ w'.cell? ⟨p, 3, none⟩ = some (.slice none 0 0)) (ds := [6, 8]) #[false, false, false, false, false, false, false, false, false] (by kernel_rfl) rfl rfl hS0 (fun hHeld => ?_)
             generalize wr.drew = w44 at hS0 hHeld ⊢
             refine pure_ (i := 0) (N := some 54) (v := ?_) (a' := ?_) #[true, false, false, false, false, false, false, false, false] rfl rfl (by kernel_rfl) (fun _ _ _ h => h) (Or.inl ⟨by rfl, ?_⟩) ?_ ?_
             rotate_left
             · intro w'
               go_simp
               with_reducible rfl
             rotate_left
             · simp only [Act.put, List.setIfInBounds_toArray, List.set_cons_zero, List.set_cons_succ, i64_w, i32_w]
               rfl
             refine pure_ (i := 2) (N := some 56) (v := ?_) (a' := ?_) #[true, false, true, false, false, false, false, false, false] rfl rfl (by kernel_rfl) (fun _ _ _ h => h) (Or.inl ⟨by rfl, ?_⟩) ?_ ?_
             rotate_left
             · intro w'
               go_simp
               with_reducible rfl
             rotate_left
             · simp only [Act.put, List.setIfInBounds_toArray, List.set_cons_zero, List.set_cons_succ, i64_w, i32_w]
               rfl
             refine pure_ (i := 3) (N := some 57) (v := ?_) (a' := ?_) #[true, false, true, true, false, false, false, false, false] rfl rfl (by kernel_rfl) (fun _ _ _ h => h) (Or.inl ⟨by rfl, ?_⟩) ?_ ?_
             rotate_left
             · intro w'
               go_simp
               with_reducible rfl
             rotate_left
             · simp only [Act.put, List.setIfInBounds_toArray, List.set_cons_zero, List.set_cons_succ, i64_w, i32_w]
               rfl
             refine pure_ (i := 4) (N := some 58) (v := ?_) (a' := ?_) #[true, false, true, true, true, false, false, false, false] rfl rfl (by kernel_rfl) (fun _ _ _ h => h) (Or.inl ⟨by rfl, ?_⟩) ?_ ?_
             rotate_left
             · intro w'
               go_simp
               with_reducible rfl
             rotate_left
             · simp only [Act.put, List.setIfInBounds_toArray, List.set_cons_zero, List.set_cons_succ, i64_w, i32_w]
               rfl
             refine pure_ (i := 5) (N := some 59) (v := ?_) (a' := ?_) #[true, false, true, true, true, true, false, false, false] rfl rfl (by kernel_rfl) (fun _ _ _ h => h) (Or.inl ⟨by rfl, ?_⟩) ?_ ?_
             rotate_left
             · intro w'
               go_simp
               with_reducible rfl
             rotate_left
             · simp only [Act.put, List.setIfInBounds_toArray, List.set_cons_zero, List.set_cons_succ, i64_w, i32_w]
               rfl
             refine take_ (i := 1) (N := some 55) (v := ?_) (a' := ?_) #[true, true, true, true, true, true, false, false, false] rfl rfl (by kernel_rfl) (fun _ _ _ h => h) (Or.inl ⟨by rfl, ?_⟩) hHeld ?_ ?_
             rotate_left
             · rintro w' ⟨q0, q1⟩
               go_simp
               with_reducible rfl
             rotate_left
             · simp only [Act.put, List.setIfInBounds_toArray, List.set_cons_zero, List.set_cons_succ, i64_w, i32_w]
               rfl
             refine last_ (i := 6) (N := some 60) #[true, true, true, true, true, true, true, false, false] rfl rfl (by kernel_rfl) (by decide) (fun K hK => ?_)
             obtain ⟨k44, e44⟩ := hHeld
             refine step_append_lies _ (by rfl) _ _ _ (by rfl) p 23 i0 _ 1 4 Tryz.underlying42 hi0 hz0 hz1 hz2 rfl (by omega) _ _ _ (by rfl) (World.ownsRow_nil _ _ _ _) ⟨b, off + (3 + i), none⟩ (L.length - (3 + i)) (cB - (3 + i)) ((L.drop (3 + i)).map (Value.int .u32)) (by rfl) (by simp) (news_u (Below.trans (Below.mono hW.out (Nat.le_refl _)) (Below.mono k44 HW2.out)) hblt HCL.out) (by intro u hu; obtain ⟨_, _, rfl⟩ := List.mem_map.1 hu; rfl) (by have := HN1.out; omega) (by have := HLLL.out; unfold maxLen; omega) (by have := HLLL.out; omega) (by have := k44.size; have := HPZ.out; omega) _ rfl ?_
             intro gg cap w9 hown1 hgrow hat hlt'
             have HB9 := hid (k44.grown hgrow k44.size (fun j hj => by cases hj))
             have HO9 := hid hown1
             clear hown1 hgrow hat hlt' k44 e44 hS0
             clear r0 r1 r2 r3 z0 z1 z2 z3 y0 y1 y2 y3
             obtain ⟨⟨z0, z1, z2, z3⟩, ⟨y0, y1, y2, y3⟩⟩ := four (blk_below (show wr.heap[w.heap.size + 1]? = some (.cells #[.int .u32 0, .int .u32 0, .slice none 0 0, .slice none 0 0] 49 (0, 0)) from hI.out.2.1) HB9.out)
             obtain ⟨⟨q0, q1, q2, q3⟩, ⟨r0, r1, r2, r3⟩⟩ := four (blk_below hI.out.2.2.1 HB9.out)
             refine hK.out _ _ ?_
             clear hK K
             refine norm_ (a' := ?_) ?_ ?_
             rotate_left
             · show Act.put _ (some 60) _ = _
               simp only [Act.put, List.setIfInBounds_toArray, List.set_cons_zero, List.set_cons_succ, i64_w, i32_w]
               rfl
             refine pure_ (i := 7) (N := some 61) (v := ?_) (a' := ?_) #[true, true, true, true, true, true, true, true, false] rfl rfl (by kernel_rfl) (fun _ _ _ h => h) (Or.inl ⟨by rfl, ?_⟩) ?_ ?_
             rotate_left
             · intro w'
               go_simp
               with_reducible rfl
             rotate_left
             · simp only [Act.put, List.setIfInBounds_toArray, List.set_cons_zero, List.set_cons_succ, i64_w, i32_w]
               rfl
             refine last_ (i := 8) (N := none) #[true, true, true, true, true, true, true, true, true] rfl rfl (by kernel_rfl) (by decide) (fun K hK => ?_)
             refine skip_ (w1 := w9.setCell ⟨p, 3, none⟩ (.slice (some ⟨gg, 0, none⟩) (0 + (L.length - (3 + i))) cap)) (by rfl) rfl (by go_simp; done) ?_
             refine hK.out _ _ ?_
             clear hK K
             refine done_ (by kernel_rfl) ?_
             have hne : p ≠ w.heap.size + 1 := by have := hI.out.2.2.2.2; omega
             have hne' : w.heap.size + 1 ≠ p := by have := hI.out.2.2.2.2; omega
             go_wp2_with fail
             refine bodyPost_ret (v := .tuple #[.agg #[.int .u32 X0, .int .u32 X1, .slice A' i c', .slice (some ⟨gg, 0, none⟩) (L.length - (3 + i)) cap], .bool true]) (by simp [results, Tryz.results23, go_sem, z0, z1, z2, z3, hne, hne']) rfl ?_
             have hF := sof_fin (U := L.drop (3 + i)) hI.out HB9.out (by have h9 := HO9.out; unfold OwnU; rw [List.length_drop]; rw [Nat.zero_add] at h9; exact h9) (.int .u32 X0) (.int .u32 X1) (.slice A' i c') (.slice (some ⟨gg, 0, none⟩) (L.length - (3 + i)) cap)
             refine ⟨.slice A' i c', .slice (some ⟨gg, 0, none⟩) (L.length - (3 + i)) cap, ?_, ?_, ?_, hF.2.2⟩
             · unfold sW; rw [HLL.out, HX0.out, HX1.out]
             · unfold sGs sW; rw [HLL.out, ← hn0.out]; exact hF.1
             · unfold sW; rw [HLL.out, ← hn0.out]; exact hF.2.1)
        -- end of region 11 --
end Sk14
end Go.Proofs.YtcjcgehhmjnlcaaGreatDoor
