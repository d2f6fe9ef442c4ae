/- Joined: Sbk, Srs. -/
import Derived.Test.YtcjcgehhmjnlcaaGreatDoorSbp
import Derived.Test.YtcjcgehhmjnlcaaGreatDoorSga
/- 'wharflaw14.back'. -/
set_option linter.unusedVariables false
set_option linter.unusedSimpArgs false
namespace Go.Proofs.YtcjcgehhmjnlcaaGreatDoor
open Go.RowKit Go.Shelf Go.Proofs.YtcjcgehhmjnlcaaGreatDoor.It Go.Proofs.YtcjcgehhmjnlcaaGreatDoorW.PrintWords Go.Proofs.YtcjcgehhmjnlcaaGreatDoorW.PrintLast Go.Proofs.YtcjcgehhmjnlcaaGreatDoorW.PrintMore
namespace Sk14
structure BkI (w : World) (cu wi : Int) (A : Option Addr) (n c : Nat) (u v : Value) (l : List Gp) (W : World) : Prop where
  bel : Below w.heap.size w W
  box : W.heap[w.heap.size]? = some (.cells #[.int .u32 cu, .int .u32 wi, .slice A n c, u] 49 (0, 0))
  zero : W.heap[w.heap.size + 1]? = some reZ
  out : W.heap[w.heap.size + 2]? = some (.cells #[.int .u32 cu, .int .u32 wi, v, u] 44 (0, 0))
  row : OwnG 94 W (w.heap.size + 3) v l
  sz : w.heap.size + 3 ≤ W.heap.size
theorem BkI.below {w : World} {cu wi : Int} {A : Option Addr} {n c : Nat} {u v : Value} {l : List Gp} {W W' : World} (h : BkI w cu wi A n c u v l W) (hb : Below W.heap.size W W') : BkI w cu wi A n c u v l W' :=
  ⟨cthen h.bel hb, blk_below h.box hb, blk_below h.zero hb, blk_below h.out hb, row_kept h.row hb, Nat.le_trans h.sz hb.size⟩
theorem BkI.step {w : World} {cu wi : Int} {A : Option Addr} {n c : Nat} {u v v' : Value} {l l' : List Gp} {W W' : World} (h : BkI w cu wi A n c u v l W) (h1 : W'.heap[w.heap.size + 2]? = some (.cells #[.int .u32 cu, .int .u32 wi, v', u] 44 (0, 0))) (h2 : OwnG 94 W' (w.heap.size + 3) v' l') (hk : Kpt 94 (w.heap.size + 2) W W') : BkI w cu wi A n c u v' l' W' :=
  ⟨h.bel.trans (hk.bel.mono (by omega)), hk.keep _ _ h.box (by omega) (by intro cs fr e; injection e with _ e; exact absurd e (by decide)), hk.keep _ _ h.zero (by omega) (by intro cs fr e; unfold reZ at e; injection e with _ e; exact absurd e (by decide)), h1, h2, Nat.le_trans h.sz hk.bel.size⟩
theorem bk_row {t b i c2 : Nat} {A2 : Option Addr} {l : List Gp} {w : World} {o : Obj} (hl : l.length = i) (h : OwnG t w b (.slice A2 i c2) l) : (w.alloc o).ownsRow b t 2 (.slice A2 i c2) i (l.flatMap gcells) := by
  unfold OwnG at h
  rw [hl] at h
  exact World.ownsRow.alloc h o
theorem bS_alloc {wr W : World} {p0 o0 p1 o1 p2 o2 p3 o3 : Nat} {v0 v1 v2 v3 : Value} {o : Obj} (h : Below wr.heap.size wr W ∧ W.cell? ⟨p0, o0, none⟩ = some v0 ∧ W.cell? ⟨p1, o1, none⟩ = some v1 ∧ W.cell? ⟨p2, o2, none⟩ = some v2 ∧ W.cell? ⟨p3, o3, none⟩ = some v3) : Below wr.heap.size wr (W.alloc o) ∧ (W.alloc o).cell? ⟨p0, o0, none⟩ = some v0 ∧ (W.alloc o).cell? ⟨p1, o1, none⟩ = some v1 ∧ (W.alloc o).cell? ⟨p2, o2, none⟩ = some v2 ∧ (W.alloc o).cell? ⟨p3, o3, none⟩ = some v3 :=
  have hb : Below W.heap.size W (W.alloc o) := below_alloc (Below.refl _ _) o
  have k : ∀ {p : Addr} {v : Value}, W.cell? p = some v → (W.alloc o).cell? p = some v := fun h => (hb.cell (World.block_lt_of_cell? W _ h)).trans h
  ⟨cthen h.1 hb, k h.2.1, k h.2.2.1, k h.2.2.2.1, k h.2.2.2.2⟩
theorem bk_take (l : List Gp) (i : Nat) (g : Gp) (h : i < l.length) (hg : l.getD i gpZ = g) : l.take (i + 1) = l.take i ++ [g] := by
  rw [List.take_succ_eq_append_getElem h]
  rw [List.getD_eq_getElem?_getD, List.getElem?_eq_getElem h] at hg
  simp at hg
  rw [hg]
/-- What 'back' gives. -/
def Bk2Post (cu wi : Int) (l : List Gp) (u : Value) (w : World) (e : Ending) (w' : World) : Prop :=
  ∃ A c, e = .returned (.agg #[.int .u32 cu, .int .u32 wi, .slice A l.length c, u]) ∧ OwnG 94 w' w.heap.size (.slice A l.length c) l ∧ Below w.heap.size w w'
set_option maxRecDepth 100000 in
set_option maxHeartbeats 8000000 in
theorem sbk_any (cu wi : Int) (A B : Option Addr) (c m d : Nat) (l : List Gp) (w : World) (hG : GpC w A l) (hl : l.length ≤ 1000000) :
    Calls Tryz.prog 27 #[.agg #[.int .u32 cu, .int .u32 wi, .slice A l.length c, .slice B m d]] w (Bk2Post cu wi l (.slice B m d) w) := by
  have HG := hid hG
  obtain ⟨n, hn⟩ : ∃ n, l.length = n := ⟨_, rfl⟩
  rw [hn]
  have HN := hid hn
  have HL := hid (show n ≤ 1000000 by omega)
  have HB0 := hid (show BkI w cu wi A n c (.slice B m d) (.slice none 0 0) [] (((w.alloc (.cells #[.int .u32 cu, .int .u32 wi, .slice A n c, .slice B m d] 49)).alloc reZ).alloc (.cells #[.int .u32 cu, .int .u32 wi, .slice none 0 0, .slice B m d] 44)) from
    ⟨below_alloc (below_alloc (below_alloc (Below.refl _ _) _) _) _, blk_alloc (blk_alloc (blk_new w _)), blk_alloc (blk_new1 w _ _), by
      have := blk_new ((w.alloc (.cells #[.int .u32 cu, .int .u32 wi, .slice A n c, .slice B m d] 49)).alloc reZ) (.cells #[.int .u32 cu, .int .u32 wi, .slice none 0 0, .slice B m d] 44)
      rw [World.size_alloc, World.size_alloc] at this
      exact this, World.ownsRow_nil _ _ _ _, by simp⟩)
  obtain ⟨i0, hi0, hz0, hz1, hz2⟩ := info_parts infoGr
  clear hG hl hn
  go_enter Tryz.func27, Tryz.ntmps27
  go_wp2_with fail
  go_loopw [4] (fun iv W => ∃ (i : Nat) (A2 : Option Addr) (c2 : Nat), iv = .int .i64 i ∧ i ≤ n ∧ Hid (BkI w cu wi A n c (.slice B m d) (.slice A2 i c2) (l.take i) W)) (fun iv _ => n - (intOf iv).toNat)
  case atStart => exact ⟨0, none, 0, rfl, by omega, HB0⟩
  case round =>
    obtain ⟨i, A2, c2, rfl, hi, hI⟩ := hrel
    clear HB0
    obtain ⟨⟨q0, q1, q2, q3⟩, ⟨r0, r1, r2, r3⟩⟩ := four hI.out.out
    obtain ⟨⟨z0, z1, z2, z3⟩, -⟩ := four hI.out.box
    by_cases hlt : i < n
    · rcases HG.out.below hI.out.bel with h | ⟨b, off, rfl, hcl⟩
      · have := HN.out; rw [h] at this; exact absurd hlt (by simp at this; omega)
      · obtain ⟨k0, k1⟩ := hcl i (by have := HN.out; omega)
        obtain ⟨g, hg⟩ : ∃ g, l.getD i gpZ = g := ⟨_, rfl⟩
        rw [hg] at k0 k1
        have HTK := hid (bk_take l i g (by have := HN.out; omega) hg)
        have HLN := hid (show (l.take i).length = i by have := HN.out; simp; omega)
        have HIL := hid (show i ≤ 1000000 by have := HL.out; omega)
        have hS0 : Below wr.heap.size wr wr.drew ∧ wr.drew.cell? ⟨w.heap.size + 2, 2, none⟩ = some (.slice A2 i c2) ∧ wr.drew.cell? ⟨w.heap.size, 2, none⟩ = some (.slice (some ⟨b, off, none⟩) n c) ∧ wr.drew.cell? ⟨b, off + i * 2, none⟩ = some (.int .u16 g.f0) ∧ wr.drew.cell? ⟨b, off + i * 2 + 1, none⟩ = some (.int .u16 g.f1) := ⟨below_drew (Below.refl _ _) 1, q2, z2, k0, k1⟩
        have hii : (0 : Int) ≤ (i : Int) := by omega
        have hin : (i : Int) < (n : Int) := by omega
        clear hcl hg
        go_wp2_with fail
        clear q0 q1 q2 q3 r0 r1 r2 r3 z0 z1 z2 z3 k0 k1
        refine start_ (n := 11) (S := fun w' => Below wr.heap.size wr w' ∧ w'.cell? ⟨w.heap.size + 2, 2, none⟩ = some (.slice A2 i c2) ∧ w'.cell? ⟨w.heap.size, 2, none⟩ = some (.slice (some ⟨b, off, none⟩) n c) ∧ w'.cell? ⟨b, off + i * 2, none⟩ = some (.int .u16 g.f0) ∧ w'.cell? ⟨b, off + i * 2 + 1, none⟩ = some (.int .u16 g.f1)) (ds := [8, 10]) #[false, false, false, false, false, false, false, false, false, false, false] (by kernel_rfl) rfl rfl hS0 (fun hHeld => ?_)
        generalize wr.drew = w44 at hS0 hHeld ⊢
        refine pure_ (i := 0) (N := some 19) (v := ?_) (a' := ?_) #[true, false, false, false, false, false, false, false, false, false, false] rfl rfl (by kernel_rfl) (fun _ _ _ h => h) (Or.inl ⟨by rfl, ?_⟩) ?_ ?_
        rotate_left
        · intro w'
          go_simp
          with_reducible rfl
        rotate_left
        · simp only [Act.put, List.setIfInBounds_toArray, List.set_cons_zero, List.set_cons_succ, i64_w, i32_w]
          rfl
        refine pure_ (i := 2) (N := some 21) (v := ?_) (a' := ?_) #[true, false, true, false, false, false, false, false, false, false, false] rfl rfl (by kernel_rfl) (fun _ _ _ h => h) (Or.inl ⟨by rfl, ?_⟩) ?_ ?_
        rotate_left
        · intro w'
          go_simp
          with_reducible rfl
        rotate_left
        · simp only [Act.put, List.setIfInBounds_toArray, List.set_cons_zero, List.set_cons_succ, i64_w, i32_w]
          rfl
        refine pure_ (i := 4) (N := some 23) (v := ?_) (a' := ?_) #[true, false, true, false, true, false, false, false, false, false, false] rfl rfl (by kernel_rfl) (fun _ _ _ h => h) (Or.inl ⟨by rfl, ?_⟩) ?_ ?_
        rotate_left
        · intro w'
          go_simp
          with_reducible rfl
        rotate_left
        · simp only [Act.put, List.setIfInBounds_toArray, List.set_cons_zero, List.set_cons_succ, i64_w, i32_w]
          rfl
        refine take_ (i := 1) (N := some 20) (v := ?_) (a' := ?_) #[true, true, true, false, true, false, false, false, false, false, false] rfl rfl (by kernel_rfl) (fun _ _ _ h => h) (Or.inl ⟨by rfl, ?_⟩) hHeld ?_ ?_
        rotate_left
        · rintro w' ⟨q0, q1, q2, q3, q4⟩
          go_simp
          with_reducible rfl
        rotate_left
        · simp only [Act.put, List.setIfInBounds_toArray, List.set_cons_zero, List.set_cons_succ, i64_w, i32_w]
          rfl
        refine take_ (i := 3) (N := some 22) (v := ?_) (a' := ?_) #[true, true, true, true, true, false, false, false, false, false, false] rfl rfl (by kernel_rfl) (fun _ _ _ h => h) (Or.inl ⟨by rfl, ?_⟩) hHeld ?_ ?_
        rotate_left
        · rintro w' ⟨q0, q1, q2, q3, q4⟩
          go_simp
          with_reducible rfl
        rotate_left
        · simp only [Act.put, List.setIfInBounds_toArray, List.set_cons_zero, List.set_cons_succ, i64_w, i32_w]
          rfl
        refine pure_ (i := 5) (N := some 24) (v := ?_) (a' := ?_) #[true, true, true, true, true, true, false, false, false, false, false] rfl rfl (by kernel_rfl) (fun _ _ _ h => h) (Or.inl ⟨by rfl, ?_⟩) ?_ ?_
        rotate_left
        · intro w'
          go_simp
          with_reducible rfl
        rotate_left
        · simp only [Act.put, List.setIfInBounds_toArray, List.set_cons_zero, List.set_cons_succ, i64_w, i32_w]
          rfl
        refine take_ (i := 6) (N := some 25) (v := ?_) (a' := ?_) #[true, true, true, true, true, true, true, false, false, false, false] rfl rfl (by kernel_rfl) (fun _ _ _ h => h) (Or.inl ⟨by rfl, ?_⟩) hHeld ?_ ?_
        rotate_left
        · rintro w' ⟨q0, q1, q2, q3, q4⟩
          go_simp
          with_reducible rfl
        rotate_left
        · simp only [Act.put, List.setIfInBounds_toArray, List.set_cons_zero, List.set_cons_succ, i64_w, i32_w]
          rfl
        refine one_ (i := 7) (N := some 26) #[true, true, true, true, true, true, true, true, false, false, false] rfl rfl (by kernel_rfl) (by decide) (fun K hK => ?_)
        have hS1 := bS_alloc (o := .cells (gcells g).toArray 94) hHeld
        refine value_ (w1 := w44.alloc (.cells (gcells g).toArray 94)) (v := .slice (some ⟨w44.heap.size, 0, none⟩) 1 1) (by rfl) rfl (by go_simp; rfl) ?_
        have HI4 := hid (hI.out.below hHeld.1)
        refine hK.out _ _ hS1 (fun hHeld => ?_)
        clear hK K
        refine norm_ (a' := ?_) ?_ ?_
        rotate_left
        · show Act.put _ (some 26) _ = _
          simp only [Act.put, List.setIfInBounds_toArray, List.set_cons_zero, List.set_cons_succ, i64_w, i32_w]
          rfl
        refine last_ (i := 8) (N := some 27) #[true, true, true, true, true, true, true, true, true, false, false] rfl rfl (by kernel_rfl) (by decide) (fun K hK => ?_)
        have hG4 := HI4.out.row
        have HROW := hid (bk_row HLN.out hG4 (o := .cells (gcells g).toArray 94))
        have HSZ := hid (show w.heap.size + 3 ≤ (w44.alloc (.cells (gcells g).toArray 94)).heap.size by rw [World.size_alloc]; have := HI4.out.sz; omega)
        have HP3 := hid (show w.heap.size + 2 < w44.heap.size by have := HI4.out.sz; omega)
        have HNW := hid (news_g 94 w44 g)
        clear hHeld hS0 hG4
        refine step_append_lies _ (by rfl) _ _ _ (by rfl) (w.heap.size + 3) 94 i0 _ 2 4 Tryz.underlying41 hi0 hz0 hz1 hz2 rfl (by omega) _ _ _ (by rfl) HROW.out ⟨w44.heap.size, 0, none⟩ 1 1 (gcells g) (by rfl) rfl HNW.out (one_gcells g) (by omega) (by have := HIL.out; unfold maxLen; omega) (by have := HIL.out; omega) HSZ.out _ rfl ?_
        intro gg cap w9 hown1 hgrow hat hlt'
        have hK9 := hid (kpt_app (by decide) (show w.heap.size + 2 < w.heap.size + 3 by omega) HP3.out HI4.out.out HLN.out HI4.out.row hgrow hown1)
        have hxx := kpt_blk (by decide) HI4.out.out HI4.out.row hgrow
        obtain ⟨⟨q0, q1, q2, q3⟩, ⟨r0, r1, r2, r3⟩⟩ := four hxx
        clear hown1 hgrow hat hlt' hxx
        refine hK.out _ _ ?_
        clear hK K
        refine norm_ (a' := ?_) ?_ ?_
        rotate_left
        · show Act.put _ (some 27) _ = _
          simp only [Act.put, List.setIfInBounds_toArray, List.set_cons_zero, List.set_cons_succ, i64_w, i32_w]
          rfl
        refine pure_ (i := 9) (N := some 28) (v := ?_) (a' := ?_) #[true, true, true, true, true, true, true, true, true, true, false] rfl rfl (by kernel_rfl) (fun _ _ _ h => h) (Or.inl ⟨by rfl, ?_⟩) ?_ ?_
        rotate_left
        · intro w'
          go_simp
          with_reducible rfl
        rotate_left
        · simp only [Act.put, List.setIfInBounds_toArray, List.set_cons_zero, List.set_cons_succ, i64_w, i32_w]
          rfl
        refine last_ (i := 10) (N := none) #[true, true, true, true, true, true, true, true, true, true, true] rfl rfl (by kernel_rfl) (by decide) (fun K hK => ?_)
        refine skip_ (w1 := w9.setCell ⟨w.heap.size + 2, 2, none⟩ (.slice (some ⟨gg, 0, none⟩) (i + 1) cap)) (by rfl) rfl (by go_simp; done) ?_
        refine hK.out _ _ ?_
        clear hK K
        refine done_ (by kernel_rfl) ?_
        have HWI := hid (show wrap64 ((i : Int) + 1) = ((i + 1 : Nat) : Int) by have := HIL.out; unfold wrap64; omega)
        have hms : n - (intOf (.int .i64 (wrap64 ((i : Int) + 1)))).toNat < n - i := by
          rw [HWI.out]
          simp only [intOf, Int.toNat_natCast]
          omega
        have HMS := hid hms
        clear hms
        go_wp2_with fail
        refine ⟨⟨i + 1, some ⟨gg, 0, none⟩, cap, by rw [HWI.out], hlt, hid ?_⟩, HMS.out⟩
        rw [HTK.out]
        exact HI4.out.step hK9.out.1 hK9.out.2.1 hK9.out.2.2
    · obtain rfl : i = n := by omega
      obtain ⟨⟨y0, y1, y2, y3⟩, ⟨x0, x1, x2, x3⟩⟩ := four (show wr.heap[w.heap.size + 1]? = some (.cells #[.int .u32 0, .int .u32 0, .slice none 0 0, .slice none 0 0] 44 (0, 0)) from hI.out.zero)
      go_wp2_with fail
      refine bodyPost_ret (v := .agg #[.int .u32 cu, .int .u32 wi, .slice A2 i c2, .slice B m d]) (by simp [results, Tryz.results27, go_sem, y0, y1, y2, y3]) rfl ?_
      have hG9 := hI.out.row
      have hb9 := hI.out.bel
      rw [← HN.out, List.take_length] at hG9
      rw [HN.out] at hG9
      have hlt9 : ∀ k, (⟨w.heap.size + 1, k, none⟩ : Addr).block < w.heap.size + 3 := fun k => by show w.heap.size + 1 < w.heap.size + 3; omega
      have hle9 : ∀ k, w.heap.size ≤ (⟨w.heap.size + 1, k, none⟩ : Addr).block := fun k => Nat.le_succ _
      refine ⟨A2, c2, by rw [HN.out], ?_, below_set (below_set (below_set (below_set hb9 (hle9 0) _) (hle9 1) _) (hle9 2) _) (hle9 3) _⟩
      rw [HN.out]
      exact ownG_lower (ownsRow_setCell_below (ownsRow_setCell_below (ownsRow_setCell_below (ownsRow_setCell_below hG9 (hlt9 0) _) (hlt9 1) _) (hlt9 2) _) (hlt9 3) _) (by omega)
end Sk14
end Go.Proofs.YtcjcgehhmjnlcaaGreatDoor
/- 'wharfref14.Same' on two descriptions that are the same. -/
set_option linter.unusedVariables false
set_option linter.unusedSimpArgs false
namespace Go.Proofs.YtcjcgehhmjnlcaaGreatDoor
open Go.RowKit Go.Shelf Go.Proofs.YtcjcgehhmjnlcaaGreatDoor.It Go.Proofs.YtcjcgehhmjnlcaaGreatDoorW.PrintWords Go.Proofs.YtcjcgehhmjnlcaaGreatDoorW.PrintLast Go.Proofs.YtcjcgehhmjnlcaaGreatDoorW.PrintMore
namespace Sk14
open PSackMatchesReference
attribute [local go_sem high] eqA94
def rO (cu wi : Int) (A B : Option Addr) (n c m d : Nat) : Obj := .cells #[.int .u32 cu, .int .u32 wi, .slice A n c, .slice B m d] 44 (0, 0)
structure RsI (w : World) (cu wi : Int) (A1 A2 B1 B2 : Option Addr) (n m c1 c2 d1 d2 : Nat) (W : World) : Prop where
  bel : Below w.heap.size w W
  b1 : W.heap[w.heap.size]? = some (rO cu wi A1 B1 n c1 m d1)
  b2 : W.heap[w.heap.size + 1]? = some (rO cu wi A2 B2 n c2 m d2)
theorem RsI.below {w : World} {cu wi : Int} {A1 A2 B1 B2 : Option Addr} {n m c1 c2 d1 d2 : Nat} {W W' : World} (h : RsI w cu wi A1 A2 B1 B2 n m c1 c2 d1 d2 W) (hb : Below W.heap.size W W') : RsI w cu wi A1 A2 B1 B2 n m c1 c2 d1 d2 W' := ⟨cthen h.bel hb, blk_below h.b1 hb, blk_below h.b2 hb⟩
set_option maxRecDepth 100000 in
set_option maxHeartbeats 8000000 in
theorem rsame_any (cu wi : Int) (A1 A2 B1 B2 : Option Addr) (c1 c2 d1 d2 n m : Nat) (l : List Gp) (D : List Int) (w : World) (hn : l.length = n) (hm : D.length = m) (h1 : GpC w A1 l) (h2 : GpC w A2 l) (u1 : UC w B1 D) (u2 : UC w B2 D) (hl : n ≤ 1000000) (hD : m ≤ 1000000) :
    Calls Tryz.prog 26 #[.agg #[.int .u32 cu, .int .u32 wi, .slice A1 n c1, .slice B1 m d1], .agg #[.int .u32 cu, .int .u32 wi, .slice A2 n c2, .slice B2 m d2]] w (IsPost (.bool true) w) := by
  have HG1 := hid h1
  have HG2 := hid h2
  have HU1 := hid u1
  have HU2 := hid u2
  have HN := hid hn
  have HM := hid hm
  have HL := hid hl
  have HD := hid hD
  have HI0 := hid (show RsI w cu wi A1 A2 B1 B2 n m c1 c2 d1 d2 ((w.alloc (rO cu wi A1 B1 n c1 m d1)).alloc (rO cu wi A2 B2 n c2 m d2)) from ⟨below_alloc (below_alloc (Below.refl _ _) _) _, blk_alloc (blk_new w _), blk_new1 w _ _⟩)
  clear h1 h2 u1 u2 hn hm hl hD
  go_enter Tryz.func26, Tryz.ntmps26
  go_upto_region 1 with fail
  obtain ⟨S0, hS0⟩ : ∃ S0, (w.alloc (.cells #[.int .u32 cu, .int .u32 wi, .slice A1 n c1, .slice B1 m d1] 44)).alloc (.cells #[.int .u32 cu, .int .u32 wi, .slice A2 n c2, .slice B2 m d2] 44) = S0 := ⟨_, rfl⟩
  have hS0' : (w.alloc (rO cu wi A1 B1 n c1 m d1)).alloc (rO cu wi A2 B2 n c2 m d2) = S0 := hS0
  rw [hS0'] at HI0
  rw [hS0]
  clear hS0 hS0'
  obtain ⟨⟨q0, q1, q2, q3⟩, -⟩ := four (show S0.heap[w.heap.size]? = some (.cells #[.int .u32 cu, .int .u32 wi, .slice A1 n c1, .slice B1 m d1] 44 (0, 0)) from HI0.out.b1)
  obtain ⟨⟨z0, z1, z2, z3⟩, -⟩ := four (show S0.heap[w.heap.size + 1]? = some (.cells #[.int .u32 cu, .int .u32 wi, .slice A2 n c2, .slice B2 m d2] 44 (0, 0)) from HI0.out.b2)
  go_wp2_with fail
  clear q0 q1 q2 q3 z0 z1 z2 z3
  go_loopw [5] (fun iv W => ∃ i : Nat, iv = .int .i64 i ∧ i ≤ n ∧ Hid (RsI w cu wi A1 A2 B1 B2 n m c1 c2 d1 d2 W)) (fun iv _ => n - (intOf iv).toNat)
  case atStart => exact ⟨0, rfl, by omega, HI0⟩
  case round =>
    obtain ⟨i, rfl, hi, hI⟩ := hrel
    clear HI0
    obtain ⟨⟨q0, q1, q2, q3⟩, -⟩ := four (show wr.heap[w.heap.size]? = some (.cells #[.int .u32 cu, .int .u32 wi, .slice A1 n c1, .slice B1 m d1] 44 (0, 0)) from hI.out.b1)
    obtain ⟨⟨z0, z1, z2, z3⟩, -⟩ := four (show wr.heap[w.heap.size + 1]? = some (.cells #[.int .u32 cu, .int .u32 wi, .slice A2 n c2, .slice B2 m d2] 44 (0, 0)) from hI.out.b2)
    by_cases hlt : i < n
    · rcases HG1.out.below hI.out.bel with h | ⟨b1, o1, rfl, hc1⟩
      · have := HN.out; rw [h] at this; exact absurd hlt (by simp at this; omega)
      · rcases HG2.out.below hI.out.bel with h | ⟨b2, o2, rfl, hc2⟩
        · have := HN.out; rw [h] at this; exact absurd hlt (by simp at this; omega)
        · obtain ⟨k0, k1⟩ := hc1 i (by have := HN.out; omega)
          obtain ⟨j0, j1⟩ := hc2 i (by have := HN.out; omega)
          obtain ⟨g, hg⟩ : ∃ g, l.getD i gpZ = g := ⟨_, rfl⟩
          rw [hg] at k0 k1 j0 j1
          have hS0 : Below wr.heap.size wr wr.drew ∧ wr.drew.cell? ⟨w.heap.size, 2, none⟩ = some (.slice (some ⟨b1, o1, none⟩) n c1) ∧ wr.drew.cell? ⟨w.heap.size + 1, 2, none⟩ = some (.slice (some ⟨b2, o2, none⟩) n c2) ∧ wr.drew.cell? ⟨b1, o1 + i * 2, none⟩ = some (.int .u16 g.f0) ∧ wr.drew.cell? ⟨b1, o1 + i * 2 + 1, none⟩ = some (.int .u16 g.f1) ∧ wr.drew.cell? ⟨b2, o2 + i * 2, none⟩ = some (.int .u16 g.f0) ∧ wr.drew.cell? ⟨b2, o2 + i * 2 + 1, none⟩ = some (.int .u16 g.f1) := ⟨below_drew (Below.refl _ _) 1, q2, z2, k0, k1, j0, j1⟩
          have hii : (0 : Int) ≤ (i : Int) := by omega
          have hin : (i : Int) < (n : Int) := by omega
          have HWI := hid (show wrap64 ((i : Int) + 1) = ((i + 1 : Nat) : Int) by have := HL.out; unfold wrap64; omega)
          have hms : n - (intOf (.int .i64 (wrap64 ((i : Int) + 1)))).toNat < n - i := by
            rw [HWI.out]
            simp only [intOf, Int.toNat_natCast]
            omega
          have HMS := hid hms
          clear hc1 hc2 hg k0 k1 j0 j1 hms
          go_wp2_with fail
          clear q0 q1 q2 q3 z0 z1 z2 z3
          refine start_ (n := 11) (S := fun w' => Below wr.heap.size wr w' ∧ w'.cell? ⟨w.heap.size, 2, none⟩ = some (.slice (some ⟨b1, o1, none⟩) n c1) ∧ w'.cell? ⟨w.heap.size + 1, 2, none⟩ = some (.slice (some ⟨b2, o2, none⟩) n c2) ∧ w'.cell? ⟨b1, o1 + i * 2, none⟩ = some (.int .u16 g.f0) ∧ w'.cell? ⟨b1, o1 + i * 2 + 1, none⟩ = some (.int .u16 g.f1) ∧ w'.cell? ⟨b2, o2 + i * 2, none⟩ = some (.int .u16 g.f0) ∧ w'.cell? ⟨b2, o2 + i * 2 + 1, none⟩ = some (.int .u16 g.f1)) (ds := []) #[false, false, false, false, false, false, false, false, false, false, false] (by kernel_rfl) rfl rfl hS0 (fun hHeld => ?_)
          generalize wr.drew = w44 at hS0 hHeld ⊢
          refine pure_ (i := 0) (N := some 44) (v := ?_) (a' := ?_) #[true, false, false, false, false, false, false, false, false, false, false] rfl rfl (by kernel_rfl) (fun _ _ _ h => h) (Or.inl ⟨by rfl, ?_⟩) ?_ ?_
          rotate_left
          · intro w'
            go_simp
            with_reducible rfl
          rotate_left
          · simp only [Act.put, List.setIfInBounds_toArray, List.set_cons_zero, List.set_cons_succ, i64_w, i32_w]
            rfl
          refine pure_ (i := 2) (N := some 46) (v := ?_) (a' := ?_) #[true, false, true, false, false, false, false, false, false, false, false] rfl rfl (by kernel_rfl) (fun _ _ _ h => h) (Or.inl ⟨by rfl, ?_⟩) ?_ ?_
          rotate_left
          · intro w'
            go_simp
            with_reducible rfl
          rotate_left
          · simp only [Act.put, List.setIfInBounds_toArray, List.set_cons_zero, List.set_cons_succ, i64_w, i32_w]
            rfl
          refine pure_ (i := 5) (N := some 49) (v := ?_) (a' := ?_) #[true, false, true, false, false, true, false, false, false, false, false] rfl rfl (by kernel_rfl) (fun _ _ _ h => h) (Or.inl ⟨by rfl, ?_⟩) ?_ ?_
          rotate_left
          · intro w'
            go_simp
            with_reducible rfl
          rotate_left
          · simp only [Act.put, List.setIfInBounds_toArray, List.set_cons_zero, List.set_cons_succ, i64_w, i32_w]
            rfl
          refine pure_ (i := 7) (N := some 51) (v := ?_) (a' := ?_) #[true, false, true, false, false, true, false, true, false, false, false] rfl rfl (by kernel_rfl) (fun _ _ _ h => h) (Or.inl ⟨by rfl, ?_⟩) ?_ ?_
          rotate_left
          · intro w'
            go_simp
            with_reducible rfl
          rotate_left
          · simp only [Act.put, List.setIfInBounds_toArray, List.set_cons_zero, List.set_cons_succ, i64_w, i32_w]
            rfl
          refine take_ (i := 1) (N := some 45) (v := ?_) (a' := ?_) #[true, true, true, false, false, true, false, true, false, false, false] rfl rfl (by kernel_rfl) (fun _ _ _ h => h) (Or.inl ⟨by rfl, ?_⟩) hHeld ?_ ?_
          rotate_left
          · rintro w' ⟨q0, q1, q2, q3, q4, q5, q6⟩
            go_simp
            with_reducible rfl
          rotate_left
          · simp only [Act.put, List.setIfInBounds_toArray, List.set_cons_zero, List.set_cons_succ, i64_w, i32_w]
            rfl
          refine pure_ (i := 3) (N := some 47) (v := ?_) (a' := ?_) #[true, true, true, true, false, true, false, true, false, false, false] rfl rfl (by kernel_rfl) (fun _ _ _ h => h) (Or.inl ⟨by rfl, ?_⟩) ?_ ?_
          rotate_left
          · intro w'
            go_simp
            with_reducible rfl
          rotate_left
          · simp only [Act.put, List.setIfInBounds_toArray, List.set_cons_zero, List.set_cons_succ, i64_w, i32_w]
            rfl
          refine take_ (i := 4) (N := some 48) (v := ?_) (a' := ?_) #[true, true, true, true, true, true, false, true, false, false, false] rfl rfl (by kernel_rfl) (fun _ _ _ h => h) (Or.inl ⟨by rfl, ?_⟩) hHeld ?_ ?_
          rotate_left
          · rintro w' ⟨q0, q1, q2, q3, q4, q5, q6⟩
            go_simp
            with_reducible rfl
          rotate_left
          · simp only [Act.put, List.setIfInBounds_toArray, List.set_cons_zero, List.set_cons_succ, i64_w, i32_w]
            rfl
          refine take_ (i := 6) (N := some 50) (v := ?_) (a' := ?_) #[true, true, true, true, true, true, true, true, false, false, false] rfl rfl (by kernel_rfl) (fun _ _ _ h => h) (Or.inl ⟨by rfl, ?_⟩) hHeld ?_ ?_
          rotate_left
          · rintro w' ⟨q0, q1, q2, q3, q4, q5, q6⟩
            go_simp
            with_reducible rfl
          rotate_left
          · simp only [Act.put, List.setIfInBounds_toArray, List.set_cons_zero, List.set_cons_succ, i64_w, i32_w]
            rfl
          refine pure_ (i := 8) (N := some 52) (v := ?_) (a' := ?_) #[true, true, true, true, true, true, true, true, true, false, false] rfl rfl (by kernel_rfl) (fun _ _ _ h => h) (Or.inl ⟨by rfl, ?_⟩) ?_ ?_
          rotate_left
          · intro w'
            go_simp
            with_reducible rfl
          rotate_left
          · simp only [Act.put, List.setIfInBounds_toArray, List.set_cons_zero, List.set_cons_succ, i64_w, i32_w]
            rfl
          refine take_ (i := 9) (N := some 53) (v := ?_) (a' := ?_) #[true, true, true, true, true, true, true, true, true, true, false] rfl rfl (by kernel_rfl) (fun _ _ _ h => h) (Or.inl ⟨by rfl, ?_⟩) hHeld ?_ ?_
          rotate_left
          · rintro w' ⟨q0, q1, q2, q3, q4, q5, q6⟩
            go_simp
            with_reducible rfl
          rotate_left
          · simp only [Act.put, List.setIfInBounds_toArray, List.set_cons_zero, List.set_cons_succ, i64_w, i32_w]
            rfl
          refine pure_ (i := 10) (N := some 54) (v := ?_) (a' := ?_) #[true, true, true, true, true, true, true, true, true, true, true] rfl rfl (by kernel_rfl) (fun _ _ _ h => h) (Or.inl ⟨by rfl, ?_⟩) ?_ ?_
          rotate_left
          · intro w'
            go_simp
            with_reducible rfl
          rotate_left
          · simp only [Act.put, List.setIfInBounds_toArray, List.set_cons_zero, List.set_cons_succ, i64_w, i32_w]
            rfl
          refine done_ (by kernel_rfl) ?_
          have HI2 := hid (hI.out.below hHeld.1)
          clear hHeld hS0
          go_wp2_with fail
          refine ⟨⟨i + 1, by first | rw [HWI.out] | go_num, hlt, HI2⟩, by first | exact HMS.out | (simp [intOf]; omega)⟩
    · obtain rfl : i = n := by omega
      have HJ0 := hid hI.out
      go_wp2_with fail
      clear q0 q1 q2 q3 z0 z1 z2 z3
      go_loopw [6] (fun iv W => ∃ k : Nat, iv = .int .i64 k ∧ k ≤ m ∧ Hid (RsI w cu wi A1 A2 B1 B2 i m c1 c2 d1 d2 W)) (fun iv _ => m - (intOf iv).toNat)
      case atStart => exact ⟨0, rfl, by omega, HJ0⟩
      case round =>
        obtain ⟨k, rfl, hk, hJ⟩ := hrel
        clear HJ0
        obtain ⟨⟨q0, q1, q2, q3⟩, -⟩ := four (show wr.heap[w.heap.size]? = some (.cells #[.int .u32 cu, .int .u32 wi, .slice A1 i c1, .slice B1 m d1] 44 (0, 0)) from hJ.out.b1)
        obtain ⟨⟨z0, z1, z2, z3⟩, -⟩ := four (show wr.heap[w.heap.size + 1]? = some (.cells #[.int .u32 cu, .int .u32 wi, .slice A2 i c2, .slice B2 m d2] 44 (0, 0)) from hJ.out.b2)
        by_cases hlt2 : k < m
        · rcases ints_cells (HU1.out.below hJ.out.bel) with h | ⟨b1, o1, rfl, -, hc1⟩
          · have := HM.out; rw [h] at this; exact absurd hlt2 (by simp at this; omega)
          · rcases ints_cells (HU2.out.below hJ.out.bel) with h | ⟨b2, o2, rfl, -, hc2⟩
            · have := HM.out; rw [h] at this; exact absurd hlt2 (by simp at this; omega)
            · have k0 := hc1 k (by have := HM.out; omega)
              have j0 := hc2 k (by have := HM.out; omega)
              obtain ⟨x, hx⟩ : ∃ x, D.getD k 0 = x := ⟨_, rfl⟩
              rw [hx] at k0 j0
              have hS0 : Below wr.heap.size wr wr.drew ∧ wr.drew.cell? ⟨w.heap.size, 3, none⟩ = some (.slice (some ⟨b1, o1, none⟩) m d1) ∧ wr.drew.cell? ⟨w.heap.size + 1, 3, none⟩ = some (.slice (some ⟨b2, o2, none⟩) m d2) ∧ wr.drew.cell? ⟨b1, o1 + k, none⟩ = some (.int .u32 x) ∧ wr.drew.cell? ⟨b2, o2 + k, none⟩ = some (.int .u32 x) := ⟨below_drew (Below.refl _ _) 1, q3, z3, k0, j0⟩
              have hii : (0 : Int) ≤ (k : Int) := by omega
              have hin : (k : Int) < (m : Int) := by omega
              have HWI := hid (show wrap64 ((k : Int) + 1) = ((k + 1 : Nat) : Int) by have := HD.out; unfold wrap64; omega)
              have hms : m - (intOf (.int .i64 (wrap64 ((k : Int) + 1)))).toNat < m - k := by
                rw [HWI.out]
                simp only [intOf, Int.toNat_natCast]
                omega
              have HMS := hid hms
              clear hc1 hc2 hx k0 j0 hms
              go_wp2_with fail
              clear q0 q1 q2 q3 z0 z1 z2 z3
              refine start_ (n := 11) (S := fun w' => Below wr.heap.size wr w' ∧ w'.cell? ⟨w.heap.size, 3, none⟩ = some (.slice (some ⟨b1, o1, none⟩) m d1) ∧ w'.cell? ⟨w.heap.size + 1, 3, none⟩ = some (.slice (some ⟨b2, o2, none⟩) m d2) ∧ w'.cell? ⟨b1, o1 + k, none⟩ = some (.int .u32 x) ∧ w'.cell? ⟨b2, o2 + k, none⟩ = some (.int .u32 x)) (ds := []) #[false, false, false, false, false, false, false, false, false, false, false] (by kernel_rfl) rfl rfl hS0 (fun hHeld => ?_)
              generalize wr.drew = w44 at hS0 hHeld ⊢
              refine pure_ (i := 0) (N := some 62) (v := ?_) (a' := ?_) #[true, false, false, false, false, false, false, false, false, false, false] rfl rfl (by kernel_rfl) (fun _ _ _ h => h) (Or.inl ⟨by rfl, ?_⟩) ?_ ?_
              rotate_left
              · intro w'
                go_simp
                with_reducible rfl
              rotate_left
              · simp only [Act.put, List.setIfInBounds_toArray, List.set_cons_zero, List.set_cons_succ, i64_w, i32_w]
                rfl
              refine pure_ (i := 2) (N := some 64) (v := ?_) (a' := ?_) #[true, false, true, false, false, false, false, false, false, false, false] rfl rfl (by kernel_rfl) (fun _ _ _ h => h) (Or.inl ⟨by rfl, ?_⟩) ?_ ?_
              rotate_left
              · intro w'
                go_simp
                with_reducible rfl
              rotate_left
              · simp only [Act.put, List.setIfInBounds_toArray, List.set_cons_zero, List.set_cons_succ, i64_w, i32_w]
                rfl
              refine pure_ (i := 5) (N := some 67) (v := ?_) (a' := ?_) #[true, false, true, false, false, true, false, false, false, false, false] rfl rfl (by kernel_rfl) (fun _ _ _ h => h) (Or.inl ⟨by rfl, ?_⟩) ?_ ?_
              rotate_left
              · intro w'
                go_simp
                with_reducible rfl
              rotate_left
              · simp only [Act.put, List.setIfInBounds_toArray, List.set_cons_zero, List.set_cons_succ, i64_w, i32_w]
                rfl
              refine pure_ (i := 7) (N := some 69) (v := ?_) (a' := ?_) #[true, false, true, false, false, true, false, true, false, false, false] rfl rfl (by kernel_rfl) (fun _ _ _ h => h) (Or.inl ⟨by rfl, ?_⟩) ?_ ?_
              rotate_left
              · intro w'
                go_simp
                with_reducible rfl
              rotate_left
              · simp only [Act.put, List.setIfInBounds_toArray, List.set_cons_zero, List.set_cons_succ, i64_w, i32_w]
                rfl
              refine take_ (i := 1) (N := some 63) (v := ?_) (a' := ?_) #[true, true, true, false, false, true, false, true, false, false, false] rfl rfl (by kernel_rfl) (fun _ _ _ h => h) (Or.inl ⟨by rfl, ?_⟩) hHeld ?_ ?_
              rotate_left
              · rintro w' ⟨q0, q1, q2, q3, q4⟩
                go_simp
                with_reducible rfl
              rotate_left
              · simp only [Act.put, List.setIfInBounds_toArray, List.set_cons_zero, List.set_cons_succ, i64_w, i32_w]
                rfl
              refine pure_ (i := 3) (N := some 65) (v := ?_) (a' := ?_) #[true, true, true, true, false, true, false, true, false, false, false] rfl rfl (by kernel_rfl) (fun _ _ _ h => h) (Or.inl ⟨by rfl, ?_⟩) ?_ ?_
              rotate_left
              · intro w'
                go_simp
                with_reducible rfl
              rotate_left
              · simp only [Act.put, List.setIfInBounds_toArray, List.set_cons_zero, List.set_cons_succ, i64_w, i32_w]
                rfl
              refine take_ (i := 4) (N := some 66) (v := ?_) (a' := ?_) #[true, true, true, true, true, true, false, true, false, false, false] rfl rfl (by kernel_rfl) (fun _ _ _ h => h) (Or.inl ⟨by rfl, ?_⟩) hHeld ?_ ?_
              rotate_left
              · rintro w' ⟨q0, q1, q2, q3, q4⟩
                go_simp
                with_reducible rfl
              rotate_left
              · simp only [Act.put, List.setIfInBounds_toArray, List.set_cons_zero, List.set_cons_succ, i64_w, i32_w]
                rfl
              refine take_ (i := 6) (N := some 68) (v := ?_) (a' := ?_) #[true, true, true, true, true, true, true, true, false, false, false] rfl rfl (by kernel_rfl) (fun _ _ _ h => h) (Or.inl ⟨by rfl, ?_⟩) hHeld ?_ ?_
              rotate_left
              · rintro w' ⟨q0, q1, q2, q3, q4⟩
                go_simp
                with_reducible rfl
              rotate_left
              · simp only [Act.put, List.setIfInBounds_toArray, List.set_cons_zero, List.set_cons_succ, i64_w, i32_w]
                rfl
              refine pure_ (i := 8) (N := some 70) (v := ?_) (a' := ?_) #[true, true, true, true, true, true, true, true, true, false, false] rfl rfl (by kernel_rfl) (fun _ _ _ h => h) (Or.inl ⟨by rfl, ?_⟩) ?_ ?_
              rotate_left
              · intro w'
                go_simp
                with_reducible rfl
              rotate_left
              · simp only [Act.put, List.setIfInBounds_toArray, List.set_cons_zero, List.set_cons_succ, i64_w, i32_w]
                rfl
              refine take_ (i := 9) (N := some 71) (v := ?_) (a' := ?_) #[true, true, true, true, true, true, true, true, true, true, false] rfl rfl (by kernel_rfl) (fun _ _ _ h => h) (Or.inl ⟨by rfl, ?_⟩) hHeld ?_ ?_
              rotate_left
              · rintro w' ⟨q0, q1, q2, q3, q4⟩
                go_simp
                with_reducible rfl
              rotate_left
              · simp only [Act.put, List.setIfInBounds_toArray, List.set_cons_zero, List.set_cons_succ, i64_w, i32_w]
                rfl
              refine pure_ (i := 10) (N := some 72) (v := ?_) (a' := ?_) #[true, true, true, true, true, true, true, true, true, true, true] rfl rfl (by kernel_rfl) (fun _ _ _ h => h) (Or.inl ⟨by rfl, ?_⟩) ?_ ?_
              rotate_left
              · intro w'
                go_simp
                with_reducible rfl
              rotate_left
              · simp only [Act.put, List.setIfInBounds_toArray, List.set_cons_zero, List.set_cons_succ, i64_w, i32_w]
                rfl
              refine done_ (by kernel_rfl) ?_
              have HI2 := hid (hJ.out.below hHeld.1)
              clear hHeld hS0
              go_wp2_with fail
              refine ⟨⟨k + 1, by first | rw [HWI.out] | go_num, hlt2, HI2⟩, by first | exact HMS.out | (simp [intOf]; omega)⟩
        · obtain rfl : k = m := by omega
          go_wp2_with fail
          go_ret
          exact ⟨rfl, hJ.out.bel⟩
end Sk14
end Go.Proofs.YtcjcgehhmjnlcaaGreatDoor
