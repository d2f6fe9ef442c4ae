/- 'node.Clone' at any tree: what is made is the call's own. -/
import Derived.Test.YtmfmomfhiieilaaGreatDoorBnc
set_option linter.unusedVariables false
set_option linter.unusedSimpArgs false
namespace Go.Proofs.YtmfmomfhiieilaaGreatDoor
open Go.RowKit Go.Shelf Go.Proofs.YtmfmomfhiieilaaGreatDoor.It Go.Proofs.YtmfmomfhiieilaaGreatDoorW.PrintWords Go.Proofs.YtmfmomfhiieilaaGreatDoorW.PrintLast Go.Proofs.YtmfmomfhiieilaaGreatDoorW.PrintMore
namespace Bn
open PBundleSorted
theorem infoN : (Tryz.prog.info? 87).map (fun i => (i.zero, i.size, i.bytes)) = some (some (.agg #[.int .u16 0, .slice none 0 0, .slice none 0 0]), 3, 56) := by kernel_rfl
abbrev ndZ : Obj := .cells #[.int .u16 0, .slice none 0 0, .slice none 0 0] 87 (0, 0)
theorem set_blk3 {W : World} {b t : Nat} {cs : Array Value} {fr : Nat × Nat} (h : W.heap[b]? = some (.cells cs t fr)) (j : Nat) (v : Value) : (W.setCell ⟨b, j, none⟩ v).heap[b]? = some (.cells (cs.setIfInBounds j v) t fr) := by
  simp [World.setCell, Array.getElem?_modify, h]
theorem blk_fars {W : World} {b p j : Nat} {o : Obj} {v : Value} (h : W.heap[b]? = some o) (hne : b ≠ p) : (W.setCell ⟨p, j, none⟩ v).heap[b]? = some o := (Below.heap_setCell W ⟨p, j, none⟩ v b hne).trans h
abbrev RD (w : World) (base : Nat) (ok : Nat → Prop) (v : Value) (D : List Int) : Prop := Kd.R (Kd.int .u8) 5 w base ok v D
abbrev RK (w : World) (base : Nat) (ok : Nat → Prop) (v : Value) (l : List Nd) : Prop := Kd.R k87 87 w base ok v l
/-- What 'node.Clone' gives. -/
def ClP (x : Nd) (w : World) (e : Ending) (w' : World) : Prop := ∃ v1 v2, e = .returned (.agg #[.int .u16 x.f0, v1, v2]) ∧ RD w' w.heap.size (fun _ => True) v1 x.f1 ∧ RK w' w.heap.size (fun _ => True) v2 x.f2 ∧ Below w.heap.size w w'
/-- What holds in the loop: the copy is at po, its nodes lie from z on. -/
structure ClI (w : World) (x : Nd) (p0 : Obj) (z po : Nat) (vD vK : Value) (l : List Nd) (W : World) : Prop where
  bel : Below w.heap.size w W
  box : W.heap[w.heap.size]? = some p0
  res : W.heap[w.heap.size + 1]? = some ndZ
  out : W.heap[po]? = some (.cells #[.int .u16 x.f0, vD, vK] 87 (0, 0))
  dat : RD W w.heap.size (fun k => w.heap.size + 2 ≤ k ∧ k < z ∧ k ≠ po) vD x.f1
  row : RK W z (fun _ => True) vK l
  hpo : w.heap.size + 2 ≤ po ∧ po < z
  hz : z ≤ W.heap.size
theorem ClI.below {w : World} {x : Nd} {p0 : Obj} {z po : Nat} {vD vK : Value} {l : List Nd} {W W' : World} (h : ClI w x p0 z po vD vK l W) (hb : Below W.heap.size W W') : ClI w x p0 z po vD vK l W' :=
  ⟨cthen h.bel hb, blk_below h.box hb, blk_below h.res hb, blk_below h.out hb, Kd.R_below h.dat hb, Kd.R_below h.row hb, h.hpo, Nat.le_trans h.hz hb.size⟩
theorem RK_far {W : World} {z p j : Nat} {v u : Value} {l : List Nd} (h : RK W z (fun _ => True) v l) (hp : p < z) : RK (W.setCell ⟨p, j, none⟩ u) z (fun _ => True) v l :=
  Kd.R_mono (Kd.R_far (p := ⟨p, j, none⟩) (Kd.R_bound h) (fun k hk => by have := hk.2.1; show k ≠ p; omega) u) (fun _ _ => trivial)
theorem ClI.step {w : World} {x y : Nd} {p0 : Obj} {z po : Nat} {vD vK v1 : Value} {l : List Nd} {W w1 : World} (h : ClI w x p0 z po vD vK l W) (hb : Below z W w1) (hr : RK w1 z (fun _ => True) v1 (l ++ [y])) : ClI w x p0 z po vD v1 (l ++ [y]) (w1.setCell ⟨po, 2, none⟩ v1) := by
  have hp := h.hpo
  have hlt : ∀ k, k < z → w1.heap[k]? = W.heap[k]? := fun k hk => hb.block k hk
  have hsz : W.heap.size ≤ w1.heap.size := hb.size
  refine ⟨below_set ?_ (by omega) _, blk_fars ((hlt _ (by omega)).trans h.box) (by omega), blk_fars ((hlt _ (by omega)).trans h.res) (by omega), ?_, ?_, RK_far hr (by omega), hp, by have := h.hz; simp [World.setCell]; omega⟩
  · exact h.bel.trans (hb.mono (by omega))
  · exact set_blk3 ((hlt _ hp.2).trans h.out) 2 v1
  · exact Kd.R_far (p := ⟨po, 2, none⟩) (Kd.R_step h.dat (fun k hk _ => hlt k hk.2.1)) (fun k hk => hk.2.2) v1
theorem ClI.startA {w : World} {x : Nd} {p0 : Obj} {b : Nat} {vD : Value} {W : World} (hb : Below w.heap.size w W) (h0 : W.heap[w.heap.size]? = some p0) (h1 : W.heap[w.heap.size + 1]? = some ndZ) (hv : OwnB W b vD x.f1) (hle : w.heap.size + 2 ≤ b) :
    ClI w x p0 (W.heap.size + 1) W.heap.size vD (.slice none 0 0) [] (W.alloc (.cells #[.int .u16 x.f0, vD, .slice none 0 0] 87)) := by
  have hW : w.heap.size + 2 ≤ W.heap.size := by have := blk_lt h1; omega
  have hr : RD W b (fun _ => True) vD x.f1 := R_of_own (k := .u8) hv
  refine ⟨below_alloc hb _, blk_alloc h0, blk_alloc h1, blk_new W _, ?_, Kd.R_nil _ _ _ _ _, ⟨hW, by omega⟩, by rw [World.size_alloc]; exact Nat.le_refl _⟩
  exact Kd.R_below (Kd.R_lower (Kd.R_mono (Kd.R_bound hr) (fun k hk => ⟨by have := hk.2.1; omega, by have := hk.2.2.1; omega, by have := hk.2.2.1; omega⟩)) (by omega)) (below_alloc (Below.refl _ _) _)
theorem ClI.startB {w : World} {x : Nd} {p0 : Obj} {b po : Nat} {vD : Value} {W : World} (hb : Below w.heap.size w W) (h0 : W.heap[w.heap.size]? = some p0) (h1 : W.heap[w.heap.size + 1]? = some ndZ) (h2 : W.heap[po]? = some ndZ) (hv : OwnB W b vD x.f1) (hlt : b = po + 1) (hle : w.heap.size + 2 ≤ po) :
    ClI w x p0 W.heap.size po vD (.slice none 0 0) [] (((W.setCell ⟨po, 0, none⟩ (.int .u16 x.f0)).setCell ⟨po, 1, none⟩ vD).setCell ⟨po, 2, none⟩ (.slice none 0 0)) := by
  have hr : RD W b (fun _ => True) vD x.f1 := R_of_own (k := .u8) hv
  have hr2 : RD W w.heap.size (fun k => w.heap.size + 2 ≤ k ∧ k < W.heap.size ∧ k ≠ po) vD x.f1 := Kd.R_lower (Kd.R_mono (Kd.R_bound hr) (fun k hk => ⟨by have := hk.2.1; omega, hk.2.2.1, by have := hk.2.1; omega⟩)) (by omega)
  have hp := blk_lt h2
  refine ⟨below_set (below_set (below_set hb (by omega) _) (by omega) _) (by omega) _, blk_fars (blk_fars (blk_fars h0 (by omega)) (by omega)) (by omega), blk_fars (blk_fars (blk_fars h1 (by omega)) (by omega)) (by omega), set_blk3 (set_blk3 (set_blk3 h2 0 _) 1 _) 2 _, ?_, Kd.R_nil _ _ _ _ _, ⟨hle, hp⟩, by simp [World.setCell]⟩
  exact Kd.R_far (p := ⟨po, 2, none⟩) (Kd.R_far (p := ⟨po, 1, none⟩) (Kd.R_far (p := ⟨po, 0, none⟩) hr2 (fun k hk => hk.2.2) _) (fun k hk => hk.2.2) _) (fun k hk => hk.2.2) _
theorem ClI.fin {w : World} {x : Nd} {p0 : Obj} {z po : Nat} {vD vK a b c : Value} {W : World} (h : ClI w x p0 z po vD vK x.f2 W) :
    RD (((W.setCell ⟨w.heap.size + 1, 0, none⟩ a).setCell ⟨w.heap.size + 1, 1, none⟩ b).setCell ⟨w.heap.size + 1, 2, none⟩ c) w.heap.size (fun _ => True) vD x.f1 ∧ RK (((W.setCell ⟨w.heap.size + 1, 0, none⟩ a).setCell ⟨w.heap.size + 1, 1, none⟩ b).setCell ⟨w.heap.size + 1, 2, none⟩ c) w.heap.size (fun _ => True) vK x.f2 ∧ Below w.heap.size w (((W.setCell ⟨w.heap.size + 1, 0, none⟩ a).setCell ⟨w.heap.size + 1, 1, none⟩ b).setCell ⟨w.heap.size + 1, 2, none⟩ c) := by
  have hp := h.hpo
  refine ⟨?_, Kd.R_lower (RK_far (RK_far (RK_far h.row (by omega)) (by omega)) (by omega)) (by omega), below_set (below_set (below_set h.bel (by omega) _) (by omega) _) (by omega) _⟩
  exact Kd.R_mono (Kd.R_far (p := ⟨w.heap.size + 1, 2, none⟩) (Kd.R_far (p := ⟨w.heap.size + 1, 1, none⟩) (Kd.R_far (p := ⟨w.heap.size + 1, 0, none⟩) h.dat (fun k hk => by have := hk.1; show k ≠ w.heap.size + 1; omega) _) (fun k hk => by have := hk.1; show k ≠ w.heap.size + 1; omega) _) (fun k hk => by have := hk.1; show k ≠ w.heap.size + 1; omega) _) (fun _ _ => trivial)
theorem cl1_blw {S W W' : World} {p : Nat} {v0 v1 : Value} (h : Below S.heap.size S W ∧ W.cell? ⟨p, 0, none⟩ = some v0 ∧ W.cell? ⟨p, 1, none⟩ = some v1) (hb : Below W.heap.size W W') : Below S.heap.size S W' ∧ W'.cell? ⟨p, 0, none⟩ = some v0 ∧ W'.cell? ⟨p, 1, none⟩ = some v1 :=
  ⟨cthen h.1 hb, pw_cell_below hb h.2.1, pw_cell_below hb h.2.2⟩
theorem cl5_blw {S W W' : World} {p : Addr} {a0 a1 a2 : Addr} {v v0 v1 v2 : Value} (h : Below S.heap.size S W ∧ W.cell? p = some v ∧ W.cell? a0 = some v0 ∧ W.cell? a1 = some v1 ∧ W.cell? a2 = some v2) (hb : Below W.heap.size W W') : Below S.heap.size S W' ∧ W'.cell? p = some v ∧ W'.cell? a0 = some v0 ∧ W'.cell? a1 = some v1 ∧ W'.cell? a2 = some v2 :=
  ⟨cthen h.1 hb, pw_cell_below hb h.2.1, pw_cell_below hb h.2.2.1, pw_cell_below hb h.2.2.2.1, pw_cell_below hb h.2.2.2.2⟩
/-- The contract of 'node.Clone' at a node. -/
def ClC (x : Nd) : Prop := ∀ (A1 K : Option Addr) (m1 d1 m2 d2 : Nat) (w : World), x.f1.length = m1 → x.f2.length = m2 → BC w A1 x.f1 → m1 ≤ d1 → Kd.C k87 w K m2 x.f2 → m2 ≤ d2 →
  Calls Tryz.prog 53 #[.agg #[.int .u16 x.f0, .slice A1 m1 d1, .slice K m2 d2]] w (ClP x w)
set_option maxRecDepth 100000 in
set_option maxHeartbeats 4000000 in
theorem clone_step (x : Nd) (hcn : cnt x ≤ 1000) (ih : ∀ y ∈ x.f2, ClC y) : ClC x := by
  intro A1 K m1 d1 m2 d2 w hm1 hm2 g1 l1 g2 l2
  have HM1 := hid hm1
  have HM2 := hid hm2
  have HCN := hid hcn
  have HIH := hid ih
  have G2 := hid g2
  have HML := hid (show m2 ≤ 1000 by have h := cnt_eq x; have h2 := len_cnts x.f2; omega)
  obtain ⟨S, hS⟩ : ∃ S, (w.alloc (.cells #[.int .u16 x.f0, .slice A1 m1 d1, .slice K m2 d2] 87)).alloc (.cells #[.int .u16 0, .slice none 0 0, .slice none 0 0] 87) = S := ⟨_, rfl⟩
  have HS := hid hS
  have hbS : Below w.heap.size w S := by rw [← hS]; exact below_alloc (below_alloc (Below.refl _ _) _) _
  have hzS : S.heap.size = w.heap.size + 2 := by rw [← hS, World.size_alloc, World.size_alloc]
  have BS := hid hbS
  have ZS := hid hzS
  have XS := hid (show S.heap[w.heap.size]? = some (.cells #[.int .u16 x.f0, .slice A1 m1 d1, .slice K m2 d2] 87 (0, 0)) by rw [← hS]; exact blk_alloc (blk_new w _))
  have RS := hid (show S.heap[w.heap.size + 1]? = some ndZ by rw [← hS]; have h := blk_new (w.alloc (.cells #[.int .u16 x.f0, .slice A1 m1 d1, .slice K m2 d2] 87)) (.cells #[.int .u16 0, .slice none 0 0, .slice none 0 0] 87); rw [World.size_alloc] at h; exact h)
  have HCLN := hid (fun W (hW : Below S.heap.size S W) => by
    have h := clone_any A1 d1 x.f1 W (g1.below (cthen hbS hW)) (by omega) (by have h := cnt_eq x; omega)
    rw [hm1] at h
    exact h)
  obtain ⟨⟨x0, x1, x2⟩, -⟩ := three XS.out
  have hS0 : Below S.heap.size S S.drew ∧ S.drew.cell? ⟨w.heap.size, 0, none⟩ = some (.int .u16 x.f0) ∧ S.drew.cell? ⟨w.heap.size, 1, none⟩ = some (.slice A1 m1 d1) := ⟨below_drew (Below.refl _ _) 1, x0, x1⟩
  clear hm1 hm2 hcn ih g1 g2 l1 l2 hS hbS hzS x0 x1 x2
  go_enter Tryz.func53, Tryz.ntmps53
  go_upto_region 1 with fail
  rw [HS.out]
  refine start_ (n := 8) (S := fun W => Below S.heap.size S W ∧ W.cell? ⟨w.heap.size, 0, none⟩ = some (.int .u16 x.f0) ∧ W.cell? ⟨w.heap.size, 1, none⟩ = some (.slice A1 m1 d1)) (ds := [7]) (bA 8 0) (by kernel_rfl) rfl rfl hS0 (fun hHeld => ?_)
  generalize S.drew = w44 at hS0 hHeld ⊢
  refine pU 0 (some 6) (bA 8 1) rfl rfl ?_
  refine tU 1 (some 7) (bA 8 3) rfl rfl hHeld (by rintro w' ⟨q0, q1, q2⟩; go_simp; with_reducible rfl) ?_
  refine pU 2 (some 8) (bA 8 7) rfl rfl ?_
  refine tU 3 (some 9) (bA 8 15) rfl rfl hHeld (by rintro w' ⟨q0, q1, q2⟩; go_simp; with_reducible rfl) ?_
  refine two_ (i := 4) (j := 6) (Ni := some 10) (Nj := some 3) (bA 8 31) (bA 8 79) rfl rfl rfl rfl (by kernel_rfl) (by decide) (by decide) (fun K hK => ?_) (fun K hK => ?_)
  · skip
    refine goes_ Tryz.func54 (by kernel_rfl) rfl #[.slice A1 m1 d1] (by rfl) rfl rfl (by simp only [List.map_toArray, List.map_cons, List.map_nil]; rfl) ?_
    refine Calls.mono (HCLN.out _ hHeld.1) ?_
    rintro e W6 ⟨vD, rfl, hvD, hb6⟩
    refine ⟨_, rfl, ?_⟩
    obtain ⟨A9, c9, rfl, -, -, -⟩ := own_slice hvD
    have hS6 := cl1_blw hHeld hb6
    have HB6 := hid (cthen hHeld.1 hb6)
    have HVD := hid hvD
    have HSZ := hid (show S.heap.size ≤ w44.heap.size from hHeld.1.size)
    clear hvD hb6
    refine hK.out _ _ hS6 (fun hHeld6 => ?_)
    clear hK K
    refine nU ?_
    refine pU 5 (some 11) (bA 8 63) rfl rfl ?_
    refine one_ (i := 6) (N := some 3) (bA 8 127) rfl rfl (by kernel_rfl) (by decide) (fun K hK => ?_)
    refine value_ (w1 := W6.alloc (.cells #[.int .u16 0, .slice none 0 0, .slice none 0 0] 87)) (v := .pointer (some ⟨W6.heap.size, 0, none⟩)) (by rfl) rfl (by go_simp; done) ?_
    have hS7 := cl1_blw hHeld6 (below_alloc (Below.refl _ _) (.cells #[.int .u16 0, .slice none 0 0, .slice none 0 0] 87))
    refine hK.out _ _ hS7 (fun hHeld7 => ?_)
    clear hK K
    refine nU ?_
    refine last_ (i := 7) (N := none) (bA 8 255) rfl rfl (by kernel_rfl) (by decide) (fun K hK => ?_)
    refine skip_ (w1 := W6.alloc (.cells #[.int .u16 x.f0, .slice A9 x.f1.length c9, .slice none 0 0] 87)) (by rfl) rfl (by go_simp; done) ?_
    refine hK.out _ _ ?_
    clear hK K
    refine done_ (by kernel_rfl) ?_
    have hI0 := ClI.startA (cthen BS.out HB6.out) (blk_below XS.out HB6.out) (blk_below RS.out HB6.out) HVD.out (by have h1 := HSZ.out; have h2 := ZS.out; rw [← h2]; exact h1)
    obtain ⟨W7, hW7⟩ : ∃ W, W6.alloc (.cells #[.int .u16 x.f0, .slice A9 x.f1.length c9, .slice none 0 0] 87) = W := ⟨_, rfl⟩
    rw [hW7] at hI0 ⊢
    have HI0 := hid hI0
    obtain ⟨⟨b0, b1, b2⟩, -⟩ := three hI0.box
    clear hI0 hW7 hS0 b0 b1
    go_wp2_with fail
    go_loopw [15] (fun vi W => ∃ (i : Nat) (A2 : Option Addr) (c2 : Nat), vi = .int .i64 i ∧ i ≤ m2 ∧ Hid (ClI w x (.cells #[.int .u16 x.f0, .slice A1 m1 d1, .slice K m2 d2] 87 (0, 0)) (W6.heap.size + 1) W6.heap.size (.slice A9 x.f1.length c9) (.slice A2 i c2) (x.f2.take i) W)) (fun vi _ => m2 - (intOf vi).toNat)
    case atStart => exact ⟨0, none, 0, rfl, by omega, HI0⟩
    case round =>
      obtain ⟨i, A2, c2, rfl, hi, hI⟩ := hrel
      clear HI0
      by_cases hlt : i < m2
      · have hil : i < x.f2.length := by have := HM2.out; omega
        obtain ⟨b, off, B1, e1, B2, e2, rfl, k0, k1, k2, l1, g1, l2, g2⟩ := node_at (Kd.C_below (show Kd.C k87 w K x.f2.length x.f2 by rw [HM2.out]; exact G2.out) hI.out.bel) i hil
        have HMEM := hid (HIH.out x.f2[i] (List.getElem_mem hil))
        have HTK := hid (List.take_succ_eq_append_getElem hil)
        obtain ⟨y, hy⟩ : ∃ y, x.f2[i] = y := ⟨_, rfl⟩
        rw [hy] at k0 k1 k2 l1 g1 l2 g2 HMEM HTK
        obtain ⟨n1, hn1⟩ : ∃ m, y.f1.length = m := ⟨_, rfl⟩
        obtain ⟨n2, hn2⟩ : ∃ m, y.f2.length = m := ⟨_, rfl⟩
        rw [hn1] at k1 l1
        rw [hn2] at k2 l2 g2
        have HWI := hid (show wrap64 ((i : Int) + 1) = ((i + 1 : Nat) : Int) by have := HML.out; unfold wrap64; omega)
        have HIN := hid (show i ≤ 1000 by have := HML.out; omega)
        have HLN := hid (show (x.f2.take i).length = i by rw [List.length_take]; omega)
        have hcall := fun W (hW : Below wr.heap.size wr W) => HMEM.out B1 B2 n1 e1 n2 e2 W hn1 hn2 (g1.below hW) l1 (Kd.C_below g2 hW) l2
        obtain ⟨⟨o0, o1, o2⟩, -⟩ := three hI.out.out
        clear hy hil o0 o1 g1 g2 l1 l2 hn1 hn2
        go_upto_region 5 with fail
        obtain ⟨S5, hS5⟩ : ∃ S5, wr.alloc (.cells #[.int .u16 y.f0, .slice B1 n1 e1, .slice B2 n2 e2] 87) = S5 := ⟨_, rfl⟩
        have hbS5 : Below wr.heap.size wr S5 := by rw [← hS5]; exact below_alloc (Below.refl _ _) _
        have BS5 := hid hbS5
        obtain ⟨⟨y0, y1, y2⟩, -⟩ := three (show S5.heap[wr.heap.size]? = some (.cells #[.int .u16 y.f0, .slice B1 n1 e1, .slice B2 n2 e2] 87 (0, 0)) by rw [← hS5]; exact blk_new wr _)
        have HCALL := hid (fun W (hW : Below S5.heap.size S5 W) => hcall W (cthen hbS5 hW))
        have o2 := pw_cell_below hbS5 o2
        have hS50 : Below S5.heap.size S5 S5.drew ∧ S5.drew.cell? ⟨W6.heap.size, 2, none⟩ = some (.slice A2 i c2) ∧ S5.drew.cell? ⟨wr.heap.size, 0, none⟩ = some (.int .u16 y.f0) ∧ S5.drew.cell? ⟨wr.heap.size, 1, none⟩ = some (.slice B1 n1 e1) ∧ S5.drew.cell? ⟨wr.heap.size, 2, none⟩ = some (.slice B2 n2 e2) := ⟨below_drew (Below.refl _ _) 1, o2, y0, y1, y2⟩
        rw [hS5]
        clear hcall hS5 hbS5 y0 y1 y2 o2 k0 k1 k2
        refine start_ (n := 8) (S := (fun w' => Below S5.heap.size S5 w' ∧ w'.cell? ⟨W6.heap.size, 2, none⟩ = some (.slice A2 i c2) ∧ w'.cell? ⟨wr.heap.size, 0, none⟩ = some (.int .u16 y.f0) ∧ w'.cell? ⟨wr.heap.size, 1, none⟩ = some (.slice B1 n1 e1) ∧ w'.cell? ⟨wr.heap.size, 2, none⟩ = some (.slice B2 n2 e2))) (ds := [5, 7]) (bA 8 0) (by kernel_rfl) rfl rfl hS50 (fun hHeld => ?_)
        generalize S5.drew = w45 at hS50 hHeld ⊢
        refine pU 0 (some 19) (bA 8 1) rfl rfl ?_
        refine tU 1 (some 20) (bA 8 3) rfl rfl hHeld (by rintro w' ⟨q0, q1, q2, q3, q4⟩; go_simp; with_reducible rfl) ?_
        refine tU 2 (some 21) (bA 8 7) rfl rfl hHeld (by rintro w' ⟨q0, q1, q2, q3, q4⟩; go_simp; with_reducible rfl) ?_
        refine one_ (i := 3) (N := some 22) (bA 8 15) rfl rfl (by kernel_rfl) (by decide) (fun K hK => ?_)
        refine goes_ Tryz.func53 (by kernel_rfl) rfl #[.agg #[.int .u16 y.f0, .slice B1 n1 e1, .slice B2 n2 e2]] (by rfl) rfl rfl (by simp only [List.map_toArray, List.map_cons, List.map_nil]; rfl) ?_
        refine Calls.mono (HCALL.out _ hHeld.1) ?_
        rintro e W8 ⟨v1, v2, rfl, hr1, hr2, hb8⟩
        refine ⟨_, rfl, ?_⟩
        obtain ⟨C1, h1, rfl, -, -⟩ := Kd.R_reads hr1
        obtain ⟨C2, h2, rfl, -, -⟩ := Kd.R_reads hr2
        have HB8 := hid (cthen (cthen BS5.out hHeld.1) hb8)
        have hz8 : wr.heap.size ≤ w45.heap.size := by have h1 := BS5.out.size; have h2 := hHeld.1.size; omega
        have HM8 := hid (k87_mkM W8 (W6.heap.size + 1) (fun k => wr.heap.size ≤ k) y (Kd.R_lower (Kd.R_mono (Kd.R_bound hr1) (fun k hk => by have := hk.2.1; show wr.heap.size ≤ k; omega)) (by have := hI.out.hz; omega)) (Kd.R_lower (Kd.R_mono (Kd.R_bound hr2) (fun k hk => by have := hk.2.1; show wr.heap.size ≤ k; omega)) (by have := hI.out.hz; omega)))
        have hcell8 := pw_cell_below hb8 hHeld.2.1
        have hS8 := cl5_blw hHeld hb8
        clear hr1 hr2 hb8 hz8 hcell8
        refine hK.out _ _ hS8 (fun hHeld8 => ?_)
        clear hK K
        refine nU ?_
        refine one_ (i := 4) (N := some 23) (bA 8 31) rfl rfl (by kernel_rfl) (by decide) (fun K hK => ?_)
        refine value_ (w1 := W8.alloc (.cells #[.int .u16 y.f0, .slice C1 y.f1.length h1, .slice C2 y.f2.length h2] 87)) (v := .slice (some ⟨W8.heap.size, 0, none⟩) 1 1) (by rfl) rfl (by go_simp; done) ?_
        refine hK.out _ _ (cl5_blw hS8 (below_alloc (Below.refl _ _) _)) (fun hHeld9 => ?_)
        clear hK K
        refine nU ?_
        refine last_ (i := 5) (N := some 24) (bA 8 63) rfl rfl (by kernel_rfl) (by decide) (fun K hK => ?_)
        refine Kd.R_append_step k87 (w0 := W8) (W := W8) (W6.heap.size + 1) (by rfl) _ _ 40 87 _ 56 (by rfl) Tryz.underlying40 infoN rfl (by decide) (by decide) (.slice A2 i c2) (x.f2.take i) y [.int .u16 y.f0, .slice C1 y.f1.length h1, .slice C2 y.f2.length h2] (fun _ => True) (fun k => wr.heap.size ≤ k) (by rfl) (by rfl) HM8.out (fun k hk => ⟨trivial, fun he => by have h := (Kd.R_bound hI.out.row).1 k he.symm; have := h.2.2.1; omega⟩) (fun _ _ => trivial) (Kd.R_below hI.out.row HB8.out) (Below.refl _ _) (by have h1 := hI.out.hz; have h2 := HB8.out.size; omega) (by rw [HLN.out]; have := HIN.out; omega) ?_
        rintro v3 w9 hr9 hb9 - -
        obtain ⟨A3, c3, rfl, -, -⟩ := Kd.R_reads hr9
        obtain ⟨⟨g0, g1, g2⟩, ⟨f0, f1, f2⟩⟩ := three ((hb9.block _ hI.out.hpo.2).trans (blk_below hI.out.out HB8.out))
        have HR9 := hid hr9
        have HB9 := hid hb9
        clear hr9 hb9
        refine hK.out _ _ ?_
        clear hK K
        refine nU ?_
        refine pU 6 (some 25) (bA 8 127) rfl rfl ?_
        refine last_ (i := 7) (N := none) (bA 8 255) rfl rfl (by kernel_rfl) (by decide) (fun K hK => ?_)
        refine skip_ (w1 := w9.setCell ⟨W6.heap.size, 2, none⟩ (.slice A3 (x.f2.take i ++ [y]).length c3)) (by rfl) rfl (by go_simp; done) ?_
        refine hK.out _ _ ?_
        clear hK K
        refine done_ (by kernel_rfl) ?_
        have HST := hid (ClI.step hI.out ((HB8.out.mono hI.out.hz).trans HB9.out) HR9.out)
        have HL2 := hid (show (x.f2.take i ++ [y]).length = i + 1 by rw [List.length_append, HLN.out]; rfl)
        rw [HL2.out] at HST ⊢
        rw [← HTK.out] at HST
        clear g0 g1 g2 f0 f1 f2 hHeld hS50 hS8 hHeld8 hHeld9
        go_wp2_with fail
        exact ⟨⟨i + 1, A3, c3, by rw [HWI.out], hlt, HST⟩, by rw [HWI.out]; simp only [intOf, Int.toNat_natCast]; omega⟩
      · obtain rfl : i = m2 := by omega
        have htl : x.f2.take i = x.f2 := by rw [← HM2.out, List.take_length]
        rw [htl] at hI
        obtain ⟨⟨o0, o1, o2⟩, -⟩ := three hI.out.out
        obtain ⟨⟨r0, r1, r2⟩, ⟨f0, f1, f2⟩⟩ := three hI.out.res
        have HF := hid (fun a b c => ClI.fin (a := a) (b := b) (c := c) hI.out)
        clear htl
        go_wp2_with fail
        clear r0 r1 r2 f0 f1 f2 o0 o1 o2
        obtain ⟨⟨s0, s1, s2⟩, -⟩ := three (show (((wr.setCell ⟨w.heap.size + 1, 0, none⟩ (.int .u16 x.f0)).setCell ⟨w.heap.size + 1, 1, none⟩ (.slice A9 x.f1.length c9)).setCell ⟨w.heap.size + 1, 2, none⟩ (.slice A2 i c2)).heap[w.heap.size + 1]? = some (.cells #[.int .u16 x.f0, .slice A9 x.f1.length c9, .slice A2 i c2] 87 (0, 0)) from set_blk3 (set_blk3 (set_blk3 hI.out.res 0 _) 1 _) 2 _)
        exact bodyPost_ret (v := .agg #[.int .u16 x.f0, .slice A9 x.f1.length c9, .slice A2 i c2]) (by simp [results, Tryz.results53, go_sem, s0, s1, s2]) rfl ⟨_, _, rfl, (HF.out _ _ _).1, (HF.out _ _ _).2.1, (HF.out _ _ _).2.2⟩
  · skip
    refine value_ (w1 := w44.alloc (.cells #[.int .u16 0, .slice none 0 0, .slice none 0 0] 87)) (v := .pointer (some ⟨w44.heap.size, 0, none⟩)) (by rfl) rfl (by go_simp; done) ?_
    have hS5 := cl1_blw hHeld (below_alloc (Below.refl _ _) (.cells #[.int .u16 0, .slice none 0 0, .slice none 0 0] 87))
    have HZ5 := hid (blk_new w44 (.cells #[.int .u16 0, .slice none 0 0, .slice none 0 0] 87))
    refine hK.out _ _ hS5 (fun hHeld6 => ?_)
    clear hK K
    refine nU ?_
    refine one_ (i := 4) (N := some 10) (bA 8 95) rfl rfl (by kernel_rfl) (by decide) (fun K hK => ?_)
    refine goes_ Tryz.func54 (by kernel_rfl) rfl #[.slice A1 m1 d1] (by rfl) rfl rfl (by simp only [List.map_toArray, List.map_cons, List.map_nil]; rfl) ?_
    refine Calls.mono (HCLN.out _ hHeld6.1) ?_
    rintro e W6 ⟨vD, rfl, hvD, hb6⟩
    refine ⟨_, rfl, ?_⟩
    obtain ⟨A9, c9, rfl, -, -, -⟩ := own_slice hvD
    have HB6 := hid (cthen hHeld6.1 hb6)
    have HVD := hid hvD
    have HSZ := hid (show S.heap.size ≤ w44.heap.size from hHeld.1.size)
    have HZ6 := hid (blk_below HZ5.out hb6)
    have hS6 := cl1_blw hHeld6 hb6
    clear hvD hb6
    refine hK.out _ _ hS6 (fun hHeld7 => ?_)
    clear hK K
    refine nU ?_
    refine pU 5 (some 11) (bA 8 127) rfl rfl ?_
    refine last_ (i := 7) (N := none) (bA 8 255) rfl rfl (by kernel_rfl) (by decide) (fun K hK => ?_)
    obtain ⟨⟨z0, z1, z2⟩, ⟨f0, f1, f2⟩⟩ := three HZ6.out
    refine skip_ (w1 := ((W6.setCell ⟨w44.heap.size, 0, none⟩ (.int .u16 x.f0)).setCell ⟨w44.heap.size, 1, none⟩ (.slice A9 x.f1.length c9)).setCell ⟨w44.heap.size, 2, none⟩ (.slice none 0 0)) (by rfl) rfl (by go_simp; done) ?_
    clear z0 z1 z2 f0 f1 f2
    refine hK.out _ _ ?_
    clear hK K
    refine done_ (by kernel_rfl) ?_
    have hI0 := ClI.startB (cthen BS.out HB6.out) (blk_below XS.out HB6.out) (blk_below RS.out HB6.out) HZ6.out HVD.out (by rw [World.size_alloc]) (by have h1 := HSZ.out; have h2 := ZS.out; rw [← h2]; exact h1)
    obtain ⟨W7, hW7⟩ : ∃ W, ((W6.setCell ⟨w44.heap.size, 0, none⟩ (.int .u16 x.f0)).setCell ⟨w44.heap.size, 1, none⟩ (.slice A9 x.f1.length c9)).setCell ⟨w44.heap.size, 2, none⟩ (.slice none 0 0) = W := ⟨_, rfl⟩
    rw [hW7] at hI0 ⊢
    have HI0 := hid hI0
    obtain ⟨⟨b0, b1, b2⟩, -⟩ := three hI0.box
    clear hI0 hW7 hS0 b0 b1
    go_wp2_with fail
    go_loopw [15] (fun vi W => ∃ (i : Nat) (A2 : Option Addr) (c2 : Nat), vi = .int .i64 i ∧ i ≤ m2 ∧ Hid (ClI w x (.cells #[.int .u16 x.f0, .slice A1 m1 d1, .slice K m2 d2] 87 (0, 0)) W6.heap.size w44.heap.size (.slice A9 x.f1.length c9) (.slice A2 i c2) (x.f2.take i) W)) (fun vi _ => m2 - (intOf vi).toNat)
    case atStart => exact ⟨0, none, 0, rfl, by omega, HI0⟩
    case round =>
      obtain ⟨i, A2, c2, rfl, hi, hI⟩ := hrel
      clear HI0
      by_cases hlt : i < m2
      · have hil : i < x.f2.length := by have := HM2.out; omega
        obtain ⟨b, off, B1, e1, B2, e2, rfl, k0, k1, k2, l1, g1, l2, g2⟩ := node_at (Kd.C_below (show Kd.C k87 w K x.f2.length x.f2 by rw [HM2.out]; exact G2.out) hI.out.bel) i hil
        have HMEM := hid (HIH.out x.f2[i] (List.getElem_mem hil))
        have HTK := hid (List.take_succ_eq_append_getElem hil)
        obtain ⟨y, hy⟩ : ∃ y, x.f2[i] = y := ⟨_, rfl⟩
        rw [hy] at k0 k1 k2 l1 g1 l2 g2 HMEM HTK
        obtain ⟨n1, hn1⟩ : ∃ m, y.f1.length = m := ⟨_, rfl⟩
        obtain ⟨n2, hn2⟩ : ∃ m, y.f2.length = m := ⟨_, rfl⟩
        rw [hn1] at k1 l1
        rw [hn2] at k2 l2 g2
        have HWI := hid (show wrap64 ((i : Int) + 1) = ((i + 1 : Nat) : Int) by have := HML.out; unfold wrap64; omega)
        have HIN := hid (show i ≤ 1000 by have := HML.out; omega)
        have HLN := hid (show (x.f2.take i).length = i by rw [List.length_take]; omega)
        have hcall := fun W (hW : Below wr.heap.size wr W) => HMEM.out B1 B2 n1 e1 n2 e2 W hn1 hn2 (g1.below hW) l1 (Kd.C_below g2 hW) l2
        obtain ⟨⟨o0, o1, o2⟩, -⟩ := three hI.out.out
        clear hy hil o0 o1 g1 g2 l1 l2 hn1 hn2
        go_upto_region 5 with fail
        obtain ⟨S5, hS5⟩ : ∃ S5, wr.alloc (.cells #[.int .u16 y.f0, .slice B1 n1 e1, .slice B2 n2 e2] 87) = S5 := ⟨_, rfl⟩
        have hbS5 : Below wr.heap.size wr S5 := by rw [← hS5]; exact below_alloc (Below.refl _ _) _
        have BS5 := hid hbS5
        obtain ⟨⟨y0, y1, y2⟩, -⟩ := three (show S5.heap[wr.heap.size]? = some (.cells #[.int .u16 y.f0, .slice B1 n1 e1, .slice B2 n2 e2] 87 (0, 0)) by rw [← hS5]; exact blk_new wr _)
        have HCALL := hid (fun W (hW : Below S5.heap.size S5 W) => hcall W (cthen hbS5 hW))
        have o2 := pw_cell_below hbS5 o2
        have hS50 : Below S5.heap.size S5 S5.drew ∧ S5.drew.cell? ⟨w44.heap.size, 2, none⟩ = some (.slice A2 i c2) ∧ S5.drew.cell? ⟨wr.heap.size, 0, none⟩ = some (.int .u16 y.f0) ∧ S5.drew.cell? ⟨wr.heap.size, 1, none⟩ = some (.slice B1 n1 e1) ∧ S5.drew.cell? ⟨wr.heap.size, 2, none⟩ = some (.slice B2 n2 e2) := ⟨below_drew (Below.refl _ _) 1, o2, y0, y1, y2⟩
        rw [hS5]
        clear hcall hS5 hbS5 y0 y1 y2 o2 k0 k1 k2
        refine start_ (n := 8) (S := (fun w' => Below S5.heap.size S5 w' ∧ w'.cell? ⟨w44.heap.size, 2, none⟩ = some (.slice A2 i c2) ∧ w'.cell? ⟨wr.heap.size, 0, none⟩ = some (.int .u16 y.f0) ∧ w'.cell? ⟨wr.heap.size, 1, none⟩ = some (.slice B1 n1 e1) ∧ w'.cell? ⟨wr.heap.size, 2, none⟩ = some (.slice B2 n2 e2))) (ds := [5, 7]) (bA 8 0) (by kernel_rfl) rfl rfl hS50 (fun hHeld => ?_)
        generalize S5.drew = w45 at hS50 hHeld ⊢
        refine pU 0 (some 19) (bA 8 1) rfl rfl ?_
        refine tU 1 (some 20) (bA 8 3) rfl rfl hHeld (by rintro w' ⟨q0, q1, q2, q3, q4⟩; go_simp; with_reducible rfl) ?_
        refine tU 2 (some 21) (bA 8 7) rfl rfl hHeld (by rintro w' ⟨q0, q1, q2, q3, q4⟩; go_simp; with_reducible rfl) ?_
        refine one_ (i := 3) (N := some 22) (bA 8 15) rfl rfl (by kernel_rfl) (by decide) (fun K hK => ?_)
        refine goes_ Tryz.func53 (by kernel_rfl) rfl #[.agg #[.int .u16 y.f0, .slice B1 n1 e1, .slice B2 n2 e2]] (by rfl) rfl rfl (by simp only [List.map_toArray, List.map_cons, List.map_nil]; rfl) ?_
        refine Calls.mono (HCALL.out _ hHeld.1) ?_
        rintro e W8 ⟨v1, v2, rfl, hr1, hr2, hb8⟩
        refine ⟨_, rfl, ?_⟩
        obtain ⟨C1, h1, rfl, -, -⟩ := Kd.R_reads hr1
        obtain ⟨C2, h2, rfl, -, -⟩ := Kd.R_reads hr2
        have HB8 := hid (cthen (cthen BS5.out hHeld.1) hb8)
        have hz8 : wr.heap.size ≤ w45.heap.size := by have h1 := BS5.out.size; have h2 := hHeld.1.size; omega
        have HM8 := hid (k87_mkM W8 W6.heap.size (fun k => wr.heap.size ≤ k) y (Kd.R_lower (Kd.R_mono (Kd.R_bound hr1) (fun k hk => by have := hk.2.1; show wr.heap.size ≤ k; omega)) (by have := hI.out.hz; omega)) (Kd.R_lower (Kd.R_mono (Kd.R_bound hr2) (fun k hk => by have := hk.2.1; show wr.heap.size ≤ k; omega)) (by have := hI.out.hz; omega)))
        have hcell8 := pw_cell_below hb8 hHeld.2.1
        have hS8 := cl5_blw hHeld hb8
        clear hr1 hr2 hb8 hz8 hcell8
        refine hK.out _ _ hS8 (fun hHeld8 => ?_)
        clear hK K
        refine nU ?_
        refine one_ (i := 4) (N := some 23) (bA 8 31) rfl rfl (by kernel_rfl) (by decide) (fun K hK => ?_)
        refine value_ (w1 := W8.alloc (.cells #[.int .u16 y.f0, .slice C1 y.f1.length h1, .slice C2 y.f2.length h2] 87)) (v := .slice (some ⟨W8.heap.size, 0, none⟩) 1 1) (by rfl) rfl (by go_simp; done) ?_
        refine hK.out _ _ (cl5_blw hS8 (below_alloc (Below.refl _ _) _)) (fun hHeld9 => ?_)
        clear hK K
        refine nU ?_
        refine last_ (i := 5) (N := some 24) (bA 8 63) rfl rfl (by kernel_rfl) (by decide) (fun K hK => ?_)
        refine Kd.R_append_step k87 (w0 := W8) (W := W8) W6.heap.size (by rfl) _ _ 40 87 _ 56 (by rfl) Tryz.underlying40 infoN rfl (by decide) (by decide) (.slice A2 i c2) (x.f2.take i) y [.int .u16 y.f0, .slice C1 y.f1.length h1, .slice C2 y.f2.length h2] (fun _ => True) (fun k => wr.heap.size ≤ k) (by rfl) (by rfl) HM8.out (fun k hk => ⟨trivial, fun he => by have h := (Kd.R_bound hI.out.row).1 k he.symm; have := h.2.2.1; omega⟩) (fun _ _ => trivial) (Kd.R_below hI.out.row HB8.out) (Below.refl _ _) (by have h1 := hI.out.hz; have h2 := HB8.out.size; omega) (by rw [HLN.out]; have := HIN.out; omega) ?_
        rintro v3 w9 hr9 hb9 - -
        obtain ⟨A3, c3, rfl, -, -⟩ := Kd.R_reads hr9
        obtain ⟨⟨g0, g1, g2⟩, ⟨f0, f1, f2⟩⟩ := three ((hb9.block _ hI.out.hpo.2).trans (blk_below hI.out.out HB8.out))
        have HR9 := hid hr9
        have HB9 := hid hb9
        clear hr9 hb9
        refine hK.out _ _ ?_
        clear hK K
        refine nU ?_
        refine pU 6 (some 25) (bA 8 127) rfl rfl ?_
        refine last_ (i := 7) (N := none) (bA 8 255) rfl rfl (by kernel_rfl) (by decide) (fun K hK => ?_)
        refine skip_ (w1 := w9.setCell ⟨w44.heap.size, 2, none⟩ (.slice A3 (x.f2.take i ++ [y]).length c3)) (by rfl) rfl (by go_simp; done) ?_
        refine hK.out _ _ ?_
        clear hK K
        refine done_ (by kernel_rfl) ?_
        have HST := hid (ClI.step hI.out ((HB8.out.mono hI.out.hz).trans HB9.out) HR9.out)
        have HL2 := hid (show (x.f2.take i ++ [y]).length = i + 1 by rw [List.length_append, HLN.out]; rfl)
        rw [HL2.out] at HST ⊢
        rw [← HTK.out] at HST
        clear g0 g1 g2 f0 f1 f2 hHeld hS50 hS8 hHeld8 hHeld9
        go_wp2_with fail
        exact ⟨⟨i + 1, A3, c3, by rw [HWI.out], hlt, HST⟩, by rw [HWI.out]; simp only [intOf, Int.toNat_natCast]; omega⟩
      · obtain rfl : i = m2 := by omega
        have htl : x.f2.take i = x.f2 := by rw [← HM2.out, List.take_length]
        rw [htl] at hI
        obtain ⟨⟨o0, o1, o2⟩, -⟩ := three hI.out.out
        obtain ⟨⟨r0, r1, r2⟩, ⟨f0, f1, f2⟩⟩ := three hI.out.res
        have HF := hid (fun a b c => ClI.fin (a := a) (b := b) (c := c) hI.out)
        clear htl
        go_wp2_with fail
        clear r0 r1 r2 f0 f1 f2 o0 o1 o2
        obtain ⟨⟨s0, s1, s2⟩, -⟩ := three (show (((wr.setCell ⟨w.heap.size + 1, 0, none⟩ (.int .u16 x.f0)).setCell ⟨w.heap.size + 1, 1, none⟩ (.slice A9 x.f1.length c9)).setCell ⟨w.heap.size + 1, 2, none⟩ (.slice A2 i c2)).heap[w.heap.size + 1]? = some (.cells #[.int .u16 x.f0, .slice A9 x.f1.length c9, .slice A2 i c2] 87 (0, 0)) from set_blk3 (set_blk3 (set_blk3 hI.out.res 0 _) 1 _) 2 _)
        exact bodyPost_ret (v := .agg #[.int .u16 x.f0, .slice A9 x.f1.length c9, .slice A2 i c2]) (by simp [results, Tryz.results53, go_sem, s0, s1, s2]) rfl ⟨_, _, rfl, (HF.out _ _ _).1, (HF.out _ _ _).2.1, (HF.out _ _ _).2.2⟩
/-- 'node.Clone' at any node that is not too much. -/
theorem ncl_any : ∀ (k : Nat) (x : Nd), cnt x ≤ k → k ≤ 1000 → ClC x := by
  intro k
  induction k with
  | zero =>
    intro x hl hk
    have := cnt_eq x
    omega
  | succ k ih =>
    intro x hl hk
    refine clone_step x (by omega) (fun y hy => ih y ?_ (by omega))
    have h1 := cnts_at x.f2 y hy
    have h2 := cnt_eq x
    omega
end Bn
end Go.Proofs.YtmfmomfhiieilaaGreatDoor
