/- Joined: Smk, Sck. -/
import Derived.Test.YtcjcgehhmjnlcaaGreatDoorSga
import Derived.Lib.SliceRun
/- 'sack.Make'. -/
set_option linter.unusedVariables false
set_option linter.unusedSimpArgs false
namespace Go.Proofs.YtcjcgehhmjnlcaaGreatDoor
open Go.RowKit Go.Shelf Go.Proofs.YtcjcgehhmjnlcaaGreatDoor.It Go.Proofs.YtcjcgehhmjnlcaaGreatDoorW.PrintWords Go.Proofs.YtcjcgehhmjnlcaaGreatDoorW.PrintLast Go.Proofs.YtcjcgehhmjnlcaaGreatDoorW.PrintMore
namespace Sk14
def catM (l1 l2 : List Int) : Nat → List Int
  | 0 => []
  | 1 => l1
  | _ => l1 ++ l2
/-- Where the second loop of 'Concat' stands. -/
structure CatJ (w : World) (b : Nat) (A1 A2 : Option Addr) (c1 c2 : Nat) (l1 l2 l : List Int) (v : Value) (W : World) : Prop where
  bel : Below w.heap.size w W
  own : OwnB W w.heap.size v l
  k0 : W.cell? ⟨b, 0, none⟩ = some (.slice A1 8 c1)
  k1 : W.cell? ⟨b, 1, none⟩ = some (.slice A2 4 c2)
  r1 : BC W A1 l1
  r2 : BC W A2 l2
theorem CatJ.of {w w1 : World} {b : Nat} {A1 A2 : Option Addr} {c1 c2 : Nat} {l1 l2 l : List Int} {v : Value} (k0 : w.cell? ⟨b, 0, none⟩ = some (.slice A1 8 c1)) (k1 : w.cell? ⟨b, 1, none⟩ = some (.slice A2 4 c2)) (r1 : BC w A1 l1) (r2 : BC w A2 l2) (hb : Below w.heap.size w w1) (ho : OwnB w1 w.heap.size v l) : CatJ w b A1 A2 c1 c2 l1 l2 l v w1 :=
  ⟨hb, ho, (hb.cell (p := ⟨b, 0, none⟩) (World.block_lt_of_cell? w _ k0)).trans k0, (hb.cell (p := ⟨b, 1, none⟩) (World.block_lt_of_cell? w _ k1)).trans k1, r1.below hb, r2.below hb⟩
theorem some_of8 {w : World} {A : Option Addr} {l : List Int} (h : BC w A l) (hl : l.length = 8) : ∃ ad, A = some ad ∧ ∀ j u, (l.map (Value.int .u8))[j]? = some u → w.cell? (ad.add j) = some u := by
  obtain ⟨ad, rfl, _⟩ := h.2.2 (by omega)
  exact ⟨ad, rfl, news_of h⟩
set_option maxRecDepth 100000 in
set_option maxHeartbeats 4000000 in
theorem concat_84 (b : Nat) (A1 A2 : Option Addr) (c1 c2 : Nat) (l1 l2 : List Int) (w : World) (k0 : w.cell? ⟨b, 0, none⟩ = some (.slice A1 8 c1)) (k1 : w.cell? ⟨b, 1, none⟩ = some (.slice A2 4 c2)) (h1 : l1.length = 8) (h2 : l2.length = 4) (r1 : BC w A1 l1) (r2 : BC w A2 l2) :
    Calls Tryz.prog 94 #[.slice (some ⟨b, 0, none⟩) 2 2] w (BytesPost (l1 ++ l2) w) := by
  obtain ⟨i0, hi, hz0, hz1, hz2⟩ := info_parts infoB
  have H1 := hid h1
  have H2 := hid h2
  have R1 := hid r1
  have R2 := hid r2
  clear h1 h2 r1 r2
  go_enter Tryz.func94, Tryz.ntmps94
  go_wp2_with fail
  go_loopw [3, 11] (fun sv iv W => ∃ i : Nat, iv = .int .i64 i ∧ i ≤ 2 ∧ sv = .int .i64 ((8 * i - 4 * (i / 2) : Nat) : Int) ∧ w = W) (fun _ iv _ => 5 - (intOf iv).toNat)
  case atStart => exact ⟨0, rfl, by omega, rfl, rfl⟩
  case round =>
    obtain ⟨i, rfl, hi2, rfl, rfl⟩ := hrel
    have h3 : i = 0 ∨ i = 1 ∨ i = 2 := by omega
    rcases h3 with rfl | rfl | rfl
    · go_wp2_with fail
      exact ⟨⟨1, by simp⟩, by simp [intOf]⟩
    · go_wp2_with fail
      exact ⟨⟨2, by simp⟩, by simp [intOf]⟩
    · go_wp2_with fail
      refine (grow_new 12 _ (by omega) (by omega)).mono ?_
      rintro e w1 ⟨v, rfl, hO, hb⟩
      have hk0 := hid k0
      have hk1 := hid k1
      have HI := hid (CatJ.of k0 k1 R1.out R2.out hb hO)
      clear hO hb k0 k1
      go_wp2_with fail
      go_loopw [6, 27] (fun vv iv W => ∃ i : Nat, iv = .int .i64 i ∧ i ≤ 2 ∧ Hid (CatJ w b A1 A2 c1 c2 l1 l2 (catM l1 l2 i) vv W)) (fun _ iv _ => 5 - (intOf iv).toNat)
      case atStart => exact ⟨0, rfl, by omega, HI⟩
      case round =>
        obtain ⟨i, rfl, hi2, hI⟩ := hrel
        have h3 : i = 0 ∨ i = 1 ∨ i = 2 := by omega
        have hown := hid hI.out.own
        rcases h3 with rfl | rfl | rfl
        · obtain ⟨ad, rfl, hn⟩ := some_of8 hI.out.r1 H1.out
          have HN := hid hn
          clear hn
          have hown2 : wr.ownsRow w.heap.size 5 1 _ 0 [] := hown.out
          have hown3 := hid hown2
          clear hown2
          obtain ⟨nn, hnn⟩ : ∃ nn : Nat, nn = 8 := ⟨8, rfl⟩
          have k0 := hI.out.k0
          rw [← hnn] at k0
          have NN := hid hnn
          clear hnn
          go_wp2_with (at_builtin; refine wpList_append_own _ rfl _ _ 32 rfl w.heap.size 5 i0 (.int .u8 0) 1 1 Tryz.underlying32 hi hz0 hz1 hz2 rfl (by decide) _ _ _ rfl hown3.out ad nn c1 (l1.map (Value.int .u8)) rfl (by simp [H1.out, NN.out]) HN.out (by simp [Value.oneCell']) (by rw [NN.out]; decide) (by rw [NN.out]; decide) hI.out.bel.size ?_; intro v' w1 hown' hgrow _)
          have B := hI.out.bel.grown hgrow hI.out.bel.size (fun j hj => (World.ownsRow.lt hown3.out _ hj).1)
          refine ⟨⟨1, rfl, by omega, hid (CatJ.of hk0.out hk1.out R1.out R2.out B (by unfold OwnB catM; simpa [H1.out, NN.out] using hown'))⟩, by simp [intOf]⟩
        · obtain ⟨ad, rfl, hn⟩ := hI.out.r2.some_of H2.out
          have HN := hid hn
          clear hn
          obtain ⟨nn, hnn⟩ : ∃ nn : Nat, nn = 4 := ⟨4, rfl⟩
          have k1 := hI.out.k1
          rw [← hnn] at k1
          have NN := hid hnn
          clear hnn
          have hown2 : wr.ownsRow w.heap.size 5 1 _ l1.length (l1.map (Value.int .u8)) := hown.out
          rw [H1.out] at hown2
          have hown3 := hid hown2
          clear hown2
          go_wp2_with (at_builtin; refine wpList_append_own _ rfl _ _ 32 rfl w.heap.size 5 i0 (.int .u8 0) 1 1 Tryz.underlying32 hi hz0 hz1 hz2 rfl (by decide) _ _ _ rfl hown3.out ad nn c2 (l2.map (Value.int .u8)) rfl (by simp [H2.out, NN.out]) HN.out (by simp [Value.oneCell']) (by rw [NN.out]; decide) (by rw [NN.out]; decide) hI.out.bel.size ?_; intro v' w1 hown' hgrow _)
          have B := hI.out.bel.grown hgrow hI.out.bel.size (fun j hj => (World.ownsRow.lt hown3.out _ hj).1)
          refine ⟨⟨2, rfl, by omega, hid (CatJ.of hk0.out hk1.out R1.out R2.out B (by unfold OwnB catM; simpa [H1.out, H2.out, NN.out] using hown'))⟩, by simp [intOf]⟩
        · go_wp2_with fail
          go_ret
          exact ⟨_, rfl, hown.out, hI.out.bel⟩
set_option maxHeartbeats 1000000 in
theorem join_84 (b : Nat) (A1 A2 : Option Addr) (c1 c2 : Nat) (l1 l2 : List Int) (w : World) (k0 : w.cell? ⟨b, 0, none⟩ = some (.slice A1 8 c1)) (k1 : w.cell? ⟨b, 1, none⟩ = some (.slice A2 4 c2)) (h1 : l1.length = 8) (h2 : l2.length = 4) (r1 : BC w A1 l1) (r2 : BC w A2 l2) :
    Calls Tryz.prog 51 #[.slice (some ⟨b, 0, none⟩) 2 2] w (BytesPost (l1 ++ l2) w) := by
  have H := hid (concat_84 b A1 A2 c1 c2 l1 l2 w k0 k1 h1 h2 r1 r2)
  clear k0 k1 h1 h2 r1 r2
  go_enter Tryz.func51, Tryz.ntmps51
  go_wp2_with fail
  refine H.out.mono ?_
  rintro e w1 ⟨v, rfl, hO, hb⟩
  have HO := hid hO
  have HB := hid hb
  clear hO hb
  go_wp2_with fail
  go_ret
  exact ⟨v, rfl, HO.out, HB.out⟩
theorem put_44 (x y : Int) : PForwardMatchesReference.wire_Put.f 20 4 [x, y] = some (b4 x ++ b4 y) := by simp [PForwardMatchesReference.wire_Put.f, PForwardMatchesReference.wire_right.f, PForwardMatchesReference.wire_Put.l0, PForwardMatchesReference.wire_Put.l1, wrap64, rd, shr, b4, IntKind.bits]
theorem put44_lit (b : Nat) (x y : Int) (w : World) (h : w.heap[b]? = some (.cells #[.int .u32 x, .int .u32 y] 23 (0, 0))) :
    Calls Tryz.prog 50 #[.int .i64 4, .slice (some ⟨b, 0, none⟩) 2 2] w (fun e w' => ∃ A c, e = .returned (.slice A 8 c) ∧ BC w' A (b4 x ++ b4 y) ∧ Blw w w') :=
  (PForwardMatchesReference.wire_Put.calls 20 4 (some ⟨b, 0, none⟩) 2 [x, y] (b4 x ++ b4 y) w (row_put w b [x, y] (by simp) h) (by simp) (put_44 x y)).mono (by
    rintro e w' ⟨v, rfl, hR, hb⟩
    obtain ⟨A, c, rfl, -, hr, -⟩ := own_slice (own_of_R hR)
    exact ⟨A, c, rfl, hr, hb⟩)
theorem join84_lit (A1 A2 : Option Addr) (c1 c2 : Nat) (l1 l2 : List Int) (w : World) (h1 : l1.length = 8) (h2 : l2.length = 4) (r1 : BC w A1 l1) (r2 : BC w A2 l2) (e : Nat) :
    Calls Tryz.prog 51 #[.slice (some ⟨w.heap.size, 0, none⟩) 2 2] (w.alloc (.cells #[.slice A1 8 c1, .slice A2 4 c2] e)) (fun e' w' => ∃ A c, e' = .returned (.slice A 12 c) ∧ OwnB w' (w.heap.size + 1) (.slice A 12 c) (l1 ++ l2) ∧ Blw (w.alloc (.cells #[.slice A1 8 c1, .slice A2 4 c2] e)) w') :=
  (join_84 _ A1 A2 c1 c2 l1 l2 _ (cell_new w _ _ e).1 (cell_new w _ _ e).2 h1 h2 (r1.below (below_alloc (Below.refl _ _) _)) (r2.below (below_alloc (Below.refl _ _) _))).mono (by
    rintro e' w' ⟨v, rfl, ho, hb⟩
    obtain ⟨A, c, rfl⟩ := own_form ho
    have hn : (l1 ++ l2).length = 12 := by rw [List.length_append, h1, h2]
    rw [World.size_alloc] at ho
    rw [hn] at ho ⊢
    exact ⟨A, c, rfl, ho, hb⟩)
theorem blk_oldd (w : World) (o x : Obj) : ((w.alloc o).alloc x).drew.heap[w.heap.size]? = some o := blk_alloc (blk_new w o)
theorem blk_new1d (w : World) (a o : Obj) : ((w.alloc a).alloc o).drew.heap[w.heap.size + 1]? = some o := blk_new1 w a o
def gB (g : Gp) : List Int := b2 (g.f0 % 4294967296) ++ b2 (g.f1 % 4294967296)
def sHd (cum win : Int) (n m : Nat) : List Int := b4 cum ++ b4 win ++ (b2 (IntKind.u32.wrap (n : Int)) ++ b2 (IntKind.u32.wrap (m : Int)))
def sMd (cum win : Int) (l : List Gp) (D : List Int) : List Int := sHd cum win l.length D.length ++ l.flatMap gB ++ D.flatMap b4
/-- What 'sack.Make' gives of a description that is not too long. -/
def SmkPost (cum win : Int) (l : List Gp) (D : List Int) (w : World) (e : Ending) (w' : World) : Prop :=
  ∃ v, e = .returned (.tuple #[.agg #[.int .u8 3, .int .u8 0, v, .slice none 0 0], .bool true]) ∧ OwnB w' w.heap.size v (sMd cum win l D) ∧ Below w.heap.size w w'
/-- What holds in the loop over the gaps. -/
def SmI (w : World) (box : Obj) (v : Value) (M : List Int) (W : World) : Prop := Below w.heap.size w W ∧ W.heap[w.heap.size]? = some box ∧ W.heap[w.heap.size + 1]? = some chZ ∧ OwnB W w.heap.size v M
theorem SmI.step {w W W' : World} {box : Obj} {v : Value} {M : List Int} (h : SmI w box v M W) (hb : Below W.heap.size W W') : SmI w box v M W' := ⟨cthen h.1 hb, blk_below h.2.1 hb, blk_below h.2.2.1 hb, own_kept h.2.2.2 hb⟩
theorem gB_len (g : Gp) : (gB g).length = 4 := by simp [gB, b2]
theorem flat_gB (l : List Gp) : (l.flatMap gB).length = 4 * l.length := by
  induction l with
  | nil => rfl
  | cons g l ih => rw [List.flatMap_cons, List.length_append, ih, gB_len, List.length_cons]; omega
theorem smd_len (cum win : Int) (n m : Nat) (l : List Gp) (i : Nat) (hi : i ≤ l.length) : (sHd cum win n m ++ (l.take i).flatMap gB).length = 12 + 4 * i := by
  rw [List.length_append, flat_gB, List.length_take, Nat.min_eq_left hi]
  simp [sHd, b4, b2]
theorem gB_step (l : List Gp) (i : Nat) (s : Gp) (hi : i < l.length) (hs : l.getD i gpZ = s) : (l.take (i + 1)).flatMap gB = (l.take i).flatMap gB ++ (b2 (s.f0 % 4294967296) ++ b2 (s.f1 % 4294967296)) := by
  rw [List.take_succ_eq_append_getElem hi, List.flatMap_append]
  rw [List.getD_eq_getElem?_getD, List.getElem?_eq_getElem hi] at hs
  simp at hs
  simp [hs, gB]
theorem flat_b4 (D : List Int) : (D.flatMap b4).length = 4 * D.length := by
  induction D with
  | nil => rfl
  | cons x l ih => rw [List.flatMap_cons, List.length_append, ih, List.length_cons]; simp [b4]; omega
section
open PForwardMatchesReference
theorem put4_step (k : Nat) (acc D : List Int) (x n j : Int) (h : acc.length + 4 ≤ 1000000) : wire_Put.l1 (k + 5) 4 acc x 3 D n j = wire_Put.l0 k 4 (acc ++ b4 x) D n (wrap64 (j + 1)) := by
  have e3 : wrap64 (8 * 3) = 24 := by simp [wrap64]
  have e2 : wrap64 (8 * 2) = 16 := by simp [wrap64]
  have e1 : wrap64 (8 * 1) = 8 := by simp [wrap64]
  have e0 : wrap64 (8 * 0) = 0 := by simp [wrap64]
  have d3 : wrap64 ((3 : Int) - 1) = 2 := by simp [wrap64]
  have d2 : wrap64 ((2 : Int) - 1) = 1 := by simp [wrap64]
  have d1 : wrap64 ((1 : Int) - 1) = 0 := by simp [wrap64]
  have d0 : wrap64 ((0 : Int) - 1) = -1 := by simp [wrap64]
  have s3 : shr .u32 x 24 % 256 = x / 16777216 % 256 := by simp [shr, IntKind.bits]
  have s2 : shr .u32 x 16 % 256 = x / 65536 % 256 := by simp [shr, IntKind.bits]
  have s1 : shr .u32 x 8 % 256 = x / 256 % 256 := by simp [shr, IntKind.bits]
  have s0 : shr .u32 x 0 % 256 = x % 256 := by simp [shr, IntKind.bits]
  rw [wire_Put.l1, if_pos (by decide), e3, if_pos (by decide), if_pos (by omega), d3, s3]
  rw [wire_Put.l1, if_pos (by decide), e2, if_pos (by decide), if_pos (by simp; omega), d2, s2]
  rw [wire_Put.l1, if_pos (by decide), e1, if_pos (by decide), if_pos (by simp; omega), d1, s1]
  rw [wire_Put.l1, if_pos (by decide), e0, if_pos (by decide), if_pos (by simp; omega), d0, s0]
  rw [wire_Put.l1, if_neg (by decide)]
  simp [b4]
theorem put4s_f (D : List Int) (hD : D.length ≤ 1000000) : ∀ (d j : Nat) (acc : List Int), D.length - j = d → j ≤ D.length → acc.length + 4 * d ≤ 1000000 → wire_Put.l0 (6 * d + 1) 4 acc D (D.length : Int) (j : Int) = some (acc ++ (D.drop j).flatMap b4) := by
  intro d
  induction d with
  | zero =>
    intro j acc hd hj _
    obtain rfl : j = D.length := by omega
    rw [wire_Put.l0, if_neg (by omega)]
    simp
  | succ d ih =>
    intro j acc hd hj hl
    have hlt : j < D.length := by omega
    have h1 := ih (j + 1) (acc ++ b4 (D.getD j 0)) (by omega) (by omega) (by rw [List.length_append]; simp [b4]; omega)
    have hw : wrap64 ((j : Int) + 1) = ((j + 1 : Nat) : Int) := by unfold wrap64; omega
    have hr : rd D (j : Int) = D.getD j 0 := by simp [rd]
    have h3 : wrap64 ((4 : Int) - 1) = 3 := by simp [wrap64]
    have hdr : D.drop j = D.getD j 0 :: D.drop (j + 1) := by
      rw [List.drop_eq_getElem_cons hlt, List.getD_eq_getElem?_getD, List.getElem?_eq_getElem hlt]
      rfl
    rw [show 6 * (d + 1) + 1 = ((6 * d + 1) + 5) + 1 by omega, wire_Put.l0, if_pos (by omega), if_pos (by omega), if_pos (by omega), h3, hr, put4_step _ _ _ _ _ _ (by omega), hw, h1, hdr, List.flatMap_cons, List.append_assoc]
theorem put4s_any (A : Option Addr) (c : Nat) (D : List Int) (w : World) (h : UC w A D) (hc : D.length ≤ c) (hl : D.length ≤ 100000) :
    Calls Tryz.prog 50 #[.int .i64 4, .slice A D.length c] w (fun e w' => ∃ A n c, e = .returned (.slice A n c) ∧ n = 4 * D.length ∧ n ≤ c ∧ BC w' A (D.flatMap b4) ∧ Blw w w') := by
  refine (wire_Put.calls (6 * D.length + 1) 4 A c D (D.flatMap b4) w h hc ?_).mono ?_
  · have := put4s_f D (by omega) D.length 0 [] (by omega) (by omega) (by simp; omega)
    rw [wire_Put.f]
    have hr : wire_right.f 4 = some true := by decide
    rw [hr, Option.bind_some, if_pos rfl]
    simpa using this
  · rintro e w' ⟨v, rfl, hR, hb⟩
    obtain ⟨A', c', rfl, hcc, hr, -⟩ := own_slice (own_of_R hR)
    exact ⟨A', _, c', rfl, flat_b4 D, hcc, hr, hb⟩
end
theorem own_apart_t {w : World} {base : Nat} {v : Value} {l : List Int} {b t : Nat} {cs : Array Value} (h : OwnB w base v l) (ht : t ≠ 5) (hb : w.heap[b]? = some (.cells cs t (0, 0))) : some b ≠ v.ownBlock := by
  rcases h with ⟨-, ⟨rfl, -⟩ | ⟨g, cap, cur, rfl, -, hg, -⟩⟩
  · simp [Value.ownBlock]
  · intro e
    simp [Value.ownBlock] at e
    subst e
    rw [hb] at hg
    injection hg with hg
    injection hg with _ hg
    exact ht hg
theorem smi_app {w W W' : World} {cs : Array Value} {n : Nat} {v v' : Value} {M x : List Int} (h : SmI w (.cells cs 49 (0, 0)) v M W) (hn : M.length = n) (hg : W.grownBy W' v.ownBlock) (ho : W'.ownsRow w.heap.size 5 1 v' (n + x.length) (M.map (Value.int .u8) ++ x.map (Value.int .u8))) : SmI w (.cells cs 49 (0, 0)) v' (M ++ x) W' := by
  obtain ⟨hb, h0, h1, hw⟩ := h
  have hl : ∀ j, v.ownBlock = some j → w.heap.size ≤ j := fun j hj => by
    rcases hw with ⟨-, ⟨rfl, -⟩ | ⟨g, cap, cur, rfl, hgb, -⟩⟩
    · simp [Value.ownBlock] at hj
    · simp [Value.ownBlock] at hj; omega
  have n0 := own_apart_t hw (by decide) h0
  have n1 := own_apart_t hw (by decide) h1
  refine ⟨hb.grown hg hb.size hl, ?_, ?_, ?_⟩
  · rw [hg.block _ (Array.getElem?_eq_some_iff.1 h0).1 n0]; exact h0
  · rw [hg.block _ (Array.getElem?_eq_some_iff.1 h1).1 n1]; exact h1
  · unfold OwnB
    rw [List.length_append, List.map_append, hn]
    exact ho
/-- What holds throughout the region of the front bytes. -/
structure Mk3 (w0 : World) (b : Nat) (v0 v1 v2 v3 : Value) (W : World) : Prop where
  bel : Below w0.heap.size w0 W
  k0 : W.cell? ⟨b, 0, none⟩ = some v0
  k1 : W.cell? ⟨b, 1, none⟩ = some v1
  k2 : W.cell? ⟨b, 2, none⟩ = some v2
  k3 : W.cell? ⟨b, 3, none⟩ = some v3
def Reg3 (w0 : World) (M : List Int) (v : Value) (W : World) : Prop := (∃ A c, v = .slice A 12 c) ∧ OwnB W w0.heap.size v M ∧ Below w0.heap.size w0 W
abbrev M3 (w0 : World) (b : Nat) (v0 v1 v2 v3 : Value) (W : World) : Prop := Below w0.heap.size w0 W ∧ W.cell? ⟨b, 0, none⟩ = some v0 ∧ W.cell? ⟨b, 1, none⟩ = some v1 ∧ W.cell? ⟨b, 2, none⟩ = some v2 ∧ W.cell? ⟨b, 3, none⟩ = some v3
theorem _root_.Go.Proofs.YtcjcgehhmjnlcaaGreatDoor.Sk14.M3.blw {w0 W W' : World} {b : Nat} {v0 v1 v2 v3 : Value} (h : M3 w0 b v0 v1 v2 v3 W) (hb : Blw W W') : M3 w0 b v0 v1 v2 v3 W' :=
  have c := fun {j : Nat} {v : Value} (g : W.cell? ⟨b, j, none⟩ = some v) => ((show Below W.heap.size W W' from hb).cell (p := ⟨b, j, none⟩) (World.block_lt_of_cell? W _ g)).trans g
  ⟨cthen h.1 hb, c h.2.1, c h.2.2.1, c h.2.2.2.1, c h.2.2.2.2⟩
theorem below_undrew' {w W : World} (h : Below w.heap.size w W.drew) : Below w.heap.size w W := ⟨h.1, h.2, h.3, h.4, h.5⟩
theorem M3.alloc {w0 W : World} {b : Nat} {v0 v1 v2 v3 : Value} {o' : Obj} (h : M3 w0 b v0 v1 v2 v3 W) : M3 w0 b v0 v1 v2 v3 (W.alloc o') := M3.blw h (below_alloc (Below.refl _ _) o')
theorem M3.allocd {w0 W : World} {b : Nat} {v0 v1 v2 v3 : Value} {o' : Obj} (h : M3 w0 b v0 v1 v2 v3 W.drew) : M3 w0 b v0 v1 v2 v3 (W.alloc o').drew := by
  have h' : M3 w0 b v0 v1 v2 v3 W := ⟨below_undrew' h.1, h.2⟩
  have h2 := M3.alloc (o' := o') h'
  exact ⟨below_drew h2.1 1, h2.2⟩
theorem m3_size {w0 W W' : World} {b : Nat} {v0 v1 v2 v3 : Value} (h : M3 w0 b v0 v1 v2 v3 W) (hb : Blw W W') : w0.heap.size ≤ W.heap.size := h.1.size
theorem reg3_end {w0 W : World} {b z c : Nat} {A : Option Addr} {v0 v1 v2 v3 : Value} {M : List Int} (ho : OwnB W z (.slice A 12 c) M) (h0 : w0.heap.size ≤ z) (h1 : M3 w0 b v0 v1 v2 v3 W) : Hid (Reg3 w0 M (.slice A 12 c) W) := hid ⟨⟨A, c, rfl⟩, OwnB.lower ho h0, h1.1⟩
def sackO (cum win : Int) (A : Option Addr) (n c : Nat) (B : Option Addr) (m d : Nat) : Obj := .cells #[.int .u32 cum, .int .u32 win, .slice A n c, .slice B m d] 49 (0, 0)
set_option maxRecDepth 100000 in
set_option maxHeartbeats 16000000 in
theorem smake_yes (cum win : Int) (A B : Option Addr) (c d : Nat) (l : List Gp) (D : List Int) (w : World) (hS : GpC w A l) (hc : l.length ≤ c) (hU : UC w B D) (hd : D.length ≤ d) (hs : l.length + D.length ≤ 16379) :
    Calls Tryz.prog 21 #[.agg #[.int .u32 cum, .int .u32 win, .slice A l.length c, .slice B D.length d]] w (SmkPost cum win l D w) := by
  have HS := hid hS
  have HU := hid hU
  have hnot : ¬ (wrap64 ((l.length : Int) + (D.length : Int)) > 16379) := by unfold wrap64; omega
  have hH := hid hs
  have HCC := hid hc
  have HDD := hid hd
  clear hS hU hc hd hs
  have h4 := (four (blk_alloc (x := chZ) (blk_new w (sackO cum win A l.length c B D.length d)))).1
  have h5 := hid (blk_alloc (x := chZ) (blk_new w (sackO cum win A l.length c B D.length d)))
  have h6 := hid (blk_new1 w (sackO cum win A l.length c B D.length d) chZ)
  have HB0 := hid (below_alloc (below_alloc (Below.refl w.heap.size w) (sackO cum win A l.length c B D.length d)) chZ)
  go_enter Tryz.func21, Tryz.ntmps21
  go_upto_region 3 with fail
  generalize hw0 : (w.alloc (.cells #[.int .u32 cum, .int .u32 win, .slice A l.length c, .slice B D.length d] 49)).alloc (.cells #[.int .u8 0, .int .u8 0, .slice none 0 0, .slice none 0 0] 35) = w0
  have hw0' : (w.alloc (sackO cum win A l.length c B D.length d)).alloc chZ = w0 := hw0
  rw [hw0'] at h4 h5 h6 HB0
  clear hnot hw0 hw0'
  have hS0 : M3 w0 w.heap.size (.int .u32 cum) (.int .u32 win) (.slice A l.length c) (.slice B D.length d) w0.drew := ⟨below_drew (Below.refl _ _) 1, h4⟩
  clear h4
  unfold M3 at hS0
  go_cut [4] from 7 (fun v4 wx => Hid (Reg3 w0 (sHd cum win l.length D.length) v4 wx))
  case first =>
    go_region_held3 (fun W => Below w0.heap.size w0 W ∧ W.cell? ⟨w.heap.size, 0, none⟩ = some (.int .u32 cum) ∧ W.cell? ⟨w.heap.size, 1, none⟩ = some (.int .u32 win) ∧ W.cell? ⟨w.heap.size, 2, none⟩ = some (.slice A l.length c) ∧ W.cell? ⟨w.heap.size, 3, none⟩ = some (.slice B D.length d))
      (first | with_reducible assumption | (refine M3.alloc ?_; with_reducible assumption) | (refine M3.allocd ?_; with_reducible assumption) | (refine M3.blw ?_ (by with_reducible assumption); with_reducible assumption))
      (first
        | (go_at_call 50; (with_reducible show Calls _ _ #[Value.int IntKind.i64 4, _] _ _); refine Calls.mono (put44_lit _ _ _ _ (by with_reducible (repeat (first | exact blk_new _ _ | exact blk_new1 _ _ _ | exact blk_newd _ _ | exact blk_oldd _ _ _ | exact blk_new1d _ _ _ | refine blk_blw (by assumption) ?_ | refine blk_alloc ?_)))) ?_; rintro e W ⟨A9, c9, rfl, hr, hb⟩)
        | (go_at_call 50; (with_reducible show Calls _ _ #[Value.int IntKind.i64 2, _] _ _); refine Calls.mono (put2_lit _ _ _ _ (by with_reducible (repeat (first | exact blk_new _ _ | exact blk_new1 _ _ _ | exact blk_newd _ _ | exact blk_oldd _ _ _ | exact blk_new1d _ _ _ | refine blk_blw (by assumption) ?_ | refine blk_alloc ?_)))) ?_; rintro e W ⟨A8, c8, rfl, hr, hb⟩)
        | (go_at_call 51; refine Calls.mono (join84_lit _ _ _ _ (b4 cum ++ b4 win) (b2 (IntKind.u32.wrap (l.length : Int)) ++ b2 (IntKind.u32.wrap (D.length : Int))) _ rfl rfl (by with_reducible (first | (refine BC.blw (by assumption) ?_; first | assumption | (refine BC.alloc ?_; assumption)))) (by with_reducible assumption) _) ?_; rintro e W ⟨A7, c7, rfl, ho, hb⟩; have hzz := m3_size (by with_reducible assumption) hb))
    all_goals
      go_wp2_with fail
      go_meet
      exact reg3_end ho (by simpa using hzz) (by with_reducible assumption)
  case rest =>
  obtain ⟨⟨A3, c3, rfl⟩, hO3, hB3⟩ := hcut.out
  have HB3 := hid (cthen HB0.out hB3)
  have h5' := hid (blk_below h5.out hB3)
  have h6' := hid (blk_below h6.out hB3)
  have HI := hid (show SmI w (sackO cum win A l.length c B D.length d) (.slice A3 12 c3) (sHd cum win l.length D.length ++ (l.take 0).flatMap gB) wc from ⟨HB3.out, h5'.out, h6'.out, by
    rw [List.take_zero, List.flatMap_nil, List.append_nil]
    exact OwnB.lower hO3 HB0.out.size⟩)
  clear hS0 hO3 hB3 HB3 h5' h6' h5 h6 HB0 hcut
  obtain ⟨⟨x0, x1, x2, x3⟩, -⟩ := four HI.out.2.1
  go_wp2_with fail
  go_loopw [4, 37] (fun bv iv W => ∃ i : Nat, iv = .int .i64 i ∧ i ≤ l.length ∧ (∃ A' c', bv = .slice A' (12 + 4 * i) c') ∧ Hid (SmI w (sackO cum win A l.length c B D.length d) bv (sHd cum win l.length D.length ++ (l.take i).flatMap gB) W)) (fun _ iv _ => l.length - (intOf iv).toNat)
  case atStart => exact ⟨0, rfl, by omega, ⟨A3, c3, rfl⟩, HI⟩
  case round =>
    obtain ⟨i, rfl, hi, ⟨A4, c4, rfl⟩, hI⟩ := hrel
    clear HI x0 x1 x2 x3
    by_cases hlt : i < l.length
    · rcases HS.out.below hI.out.1 with h | ⟨b, off, rfl, hcl⟩
      · rw [h] at hlt; exact absurd hlt (by simp)
      · obtain ⟨k0, k1⟩ := hcl i hlt
        clear hcl
        obtain ⟨s, hsd⟩ : ∃ s, l.getD i gpZ = s := ⟨_, rfl⟩
        rw [hsd] at k0 k1
        have HSD := hid hsd
        clear hsd
        have hP := put2_lit (wr.heap.size + 1) (s.f0 % 4294967296) (s.f1 % 4294967296) ((wr.alloc (.cells (gcells s).toArray 93)).alloc (.cells #[.int .u32 (s.f0 % 4294967296), .int .u32 (s.f1 % 4294967296)] 23)) (blk_new1 wr _ _)
        go_wp2_with fail
        refine hP.mono ?_
        rintro e w2 ⟨A9, c9, he, hr, hb⟩
        obtain ⟨nn, hnn⟩ : ∃ nn : Nat, nn = 4 := ⟨4, rfl⟩
        rw [← hnn] at he
        subst he
        have NN := hid hnn
        clear hnn
        have HBW := hid (cthen (below_alloc (below_alloc (Below.refl wr.heap.size wr) (.cells (gcells s).toArray 93)) (.cells #[.int .u32 (s.f0 % 4294967296), .int .u32 (s.f1 % 4294967296)] 23)) hb)
        have HI2 := hid (hI.out.step HBW.out)
        obtain ⟨a9, rfl, hn9⟩ := hr.some_of (by simp [b2])
        have HN9 := hid hn9
        have hlen : (sHd cum win l.length D.length ++ (l.take i).flatMap gB).length = 12 + 4 * i := smd_len cum win l.length D.length l i hi
        have hown := HI2.out.2.2.2
        unfold OwnB at hown
        rw [hlen] at hown
        have HOW := hid hown
        have HLEN := hid hlen
        have hi9 := hid (show i ≤ 20000 by have := hH.out; omega)
        obtain ⟨i0, hi0, hz0, hz1, hz2⟩ := info_parts infoB
        clear hP hr hb hn9 hown hlen k0 k1
        go_wp2_with (at_builtin; refine wpList_append_own _ rfl _ _ 32 rfl w.heap.size 5 i0 (.int .u8 0) 1 1 Tryz.underlying32 hi0 hz0 hz1 hz2 rfl (by decide) _ _ _ rfl HOW.out a9 nn c9 ((b2 (s.f0 % 4294967296) ++ b2 (s.f1 % 4294967296)).map (Value.int .u8)) rfl (by rw [NN.out]; simp [b2]) HN9.out (by intro u hu; obtain ⟨_, _, rfl⟩ := List.mem_map.1 hu; rfl) (by have := hi9.out; have := NN.out; unfold maxLen; omega) (by have := hi9.out; have := NN.out; omega) HI2.out.1.size ?_; intro v' w9 hown' hgrow _)
        have hown2 : w9.ownsRow w.heap.size 5 1 v' (12 + 4 * i + (b2 (s.f0 % 4294967296) ++ b2 (s.f1 % 4294967296)).length) ((sHd cum win l.length D.length ++ (l.take i).flatMap gB).map (Value.int .u8) ++ (b2 (s.f0 % 4294967296) ++ b2 (s.f1 % 4294967296)).map (Value.int .u8)) := by
          rw [NN.out] at hown'
          exact hown'
        have HI9 := hid (smi_app HI2.out HLEN.out hgrow hown2)
        clear hown' hgrow hown2
        obtain ⟨A5, c5, hA5⟩ := own_form HI9.out.2.2.2
        have hM := gB_step l i s hlt HSD.out
        have hl' : l.length ≤ 16379 := by have := hH.out; omega
        have hw : wrap64 ((i : Int) + 1) = ((i + 1 : Nat) : Int) := by unfold wrap64; omega
        have hi' : i + 1 ≤ l.length := hlt
        have hms : l.length - (intOf (.int .i64 (wrap64 ((i : Int) + 1)))).toNat < l.length - i := by
          rw [hw]
          simp only [intOf, Int.toNat_natCast]
          clear hw
          omega
        refine ⟨⟨i + 1, by rw [hw], hi', ⟨A5, c5, ?_⟩, hid ?_⟩, by simpa [intOf] using hms⟩
        · rw [hA5, List.length_append, HLEN.out]
          rfl
        · rw [hM, ← List.append_assoc]
          exact HI9.out
    · obtain rfl : i = l.length := by omega
      have HI2 := hid hI.out
      obtain ⟨⟨x0, x1, x2, x3⟩, -⟩ := four hI.out.2.1
      have hP := put4s_any B d D wr (HU.out.below hI.out.1) HDD.out (by have := hH.out; omega)
      go_wp2_with fail
      refine hP.mono ?_
      rintro e w2 ⟨A9, nn, c9, rfl, hnn, hcc9, hr, hb⟩
      have HI3 := hid (HI2.out.step hb)
      have HNN := hid hnn
      have HHH := hid hH.out
      have hlen : (sHd cum win l.length D.length ++ (l.take l.length).flatMap gB).length = 12 + 4 * l.length := smd_len cum win l.length D.length l l.length (Nat.le_refl _)
      have hown := HI3.out.2.2.2
      unfold OwnB at hown
      rw [hlen] at hown
      have HOW := hid hown
      have HLEN := hid hlen
      have hfl := hid (flat_b4 D)
      clear hP hlen hown
      by_cases hD0 : D.length = 0
      · obtain rfl : D = [] := List.eq_nil_of_length_eq_zero hD0
        obtain rfl : nn = 0 := by simpa using hnn
        obtain ⟨A4', c4', e4, hc4, hr4, -⟩ := own_slice HI3.out.2.2.2
        obtain ⟨a4, rfl, -⟩ := some_of' hr4 (by rw [HLEN.out]; omega)
        rw [HLEN.out] at e4 hc4
        cases e4
        obtain ⟨⟨z0, z1, z2, z3⟩, ⟨y0, y1, y2, y3⟩⟩ := four HI3.out.2.2.1
        have HC4 := hid hc4
        have hgt : ¬ (12 + 4 * l.length + 0 > c4) := by omega
        clear hr hb hnn x0 x1 x2 x3 hc4 hr4
        rcases A9 with _ | a9
        · go_wp2_with fail
          refine bodyPost_ret (v := .tuple #[.agg #[.int .u8 3, .int .u8 0, .slice (some a4) (12 + 4 * l.length) c4, .slice none 0 0], .bool true]) (by simp [results, Tryz.results21, go_sem, z0, z1, z2, z3]) rfl ?_
          have hown := HI3.out.2.2.2
          have hne := own_apart_t hown (by decide) HI3.out.2.2.1
          refine ⟨_, rfl, ?_, below_set (below_set (below_set (below_set HI3.out.1 (Nat.le_succ _) _) (Nat.le_succ _) _) (Nat.le_succ _) _) (Nat.le_succ _) _⟩
          have ho := fun u0 u1 u2 u3 => ownsRow_setCell_other (a := ⟨w.heap.size + 1, 3, none⟩) (ownsRow_setCell_other (a := ⟨w.heap.size + 1, 2, none⟩) (ownsRow_setCell_other (a := ⟨w.heap.size + 1, 1, none⟩) (ownsRow_setCell_other (a := ⟨w.heap.size + 1, 0, none⟩) hown (Ne.symm hne) u0) (Ne.symm hne) u1) (Ne.symm hne) u2) (Ne.symm hne) u3
          have hM : sMd cum win l [] = sHd cum win l.length ([] : List Int).length ++ (l.take l.length).flatMap gB := by
            unfold sMd
            rw [List.take_length, List.flatMap_nil, List.append_nil]
          rw [hM]
          exact ho _ _ _ _
        · go_wp2_with fail
          refine bodyPost_ret (v := .tuple #[.agg #[.int .u8 3, .int .u8 0, .slice (some a4) (12 + 4 * l.length) c4, .slice none 0 0], .bool true]) (by simp [results, Tryz.results21, go_sem, z0, z1, z2, z3]) rfl ?_
          have hown := HI3.out.2.2.2
          have hne := own_apart_t hown (by decide) HI3.out.2.2.1
          refine ⟨_, rfl, ?_, below_set (below_set (below_set (below_set HI3.out.1 (Nat.le_succ _) _) (Nat.le_succ _) _) (Nat.le_succ _) _) (Nat.le_succ _) _⟩
          have ho := fun u0 u1 u2 u3 => ownsRow_setCell_other (a := ⟨w.heap.size + 1, 3, none⟩) (ownsRow_setCell_other (a := ⟨w.heap.size + 1, 2, none⟩) (ownsRow_setCell_other (a := ⟨w.heap.size + 1, 1, none⟩) (ownsRow_setCell_other (a := ⟨w.heap.size + 1, 0, none⟩) hown (Ne.symm hne) u0) (Ne.symm hne) u1) (Ne.symm hne) u2) (Ne.symm hne) u3
          have hM : sMd cum win l [] = sHd cum win l.length ([] : List Int).length ++ (l.take l.length).flatMap gB := by
            unfold sMd
            rw [List.take_length, List.flatMap_nil, List.append_nil]
          rw [hM]
          exact ho _ _ _ _
      · obtain ⟨a9, rfl, hn9⟩ := some_of' hr (by rw [hfl.out]; omega)
        have HN9 := hid hn9
        obtain ⟨i0, hi0, hz0, hz1, hz2⟩ := info_parts infoB
        clear hr hb hnn hn9 x0 x1 x2 x3
        go_wp2_with (at_builtin; refine wpList_append_own _ rfl _ _ 32 rfl w.heap.size 5 i0 (.int .u8 0) 1 1 Tryz.underlying32 hi0 hz0 hz1 hz2 rfl (by decide) _ _ _ rfl HOW.out a9 nn c9 ((D.flatMap b4).map (Value.int .u8)) rfl (by rw [List.length_map, hfl.out, HNN.out]; omega) HN9.out (by intro u hu; obtain ⟨_, _, rfl⟩ := List.mem_map.1 hu; rfl) (by have := HHH.out; have := HNN.out; unfold maxLen; omega) (by have := HHH.out; have := HNN.out; omega) HI3.out.1.size ?_; intro v' w9 hown' hgrow _; have hown2 : w9.ownsRow w.heap.size 5 1 v' (12 + 4 * l.length + (D.flatMap b4).length) ((sHd cum win l.length D.length ++ (l.take l.length).flatMap gB).map (Value.int .u8) ++ (D.flatMap b4).map (Value.int .u8)) := (by rw [hfl.out, ← HNN.out]; exact hown'); have hI9 := smi_app HI3.out HLEN.out hgrow hown2; clear hown' hown2 hgrow; obtain ⟨MM, hMM⟩ : ∃ MM, MM = sHd cum win l.length D.length ++ (l.take l.length).flatMap gB ++ D.flatMap b4 := ⟨_, rfl⟩; rw [← hMM] at hI9; have HMM := hid hMM; clear hMM; have HI9 := hid hI9; clear hI9; obtain ⟨A5, c5, rfl⟩ := own_form HI9.out.2.2.2; obtain ⟨⟨z0, z1, z2, z3⟩, ⟨y0, y1, y2, y3⟩⟩ := four HI9.out.2.2.1)
        refine bodyPost_ret (v := .tuple #[.agg #[.int .u8 3, .int .u8 0, .slice A5 _ c5, .slice none 0 0], .bool true]) (by simp [results, Tryz.results21, go_sem, z0, z1, z2, z3]; rfl) rfl ?_
        have hne := own_apart_t HI9.out.2.2.2 (by decide) HI9.out.2.2.1
        refine ⟨_, rfl, ?_, below_set (below_set (below_set (below_set HI9.out.1 (Nat.le_succ _) _) (Nat.le_succ _) _) (Nat.le_succ _) _) (Nat.le_succ _) _⟩
        have ho := fun u0 u1 u2 u3 => ownsRow_setCell_other (a := ⟨w.heap.size + 1, 3, none⟩) (ownsRow_setCell_other (a := ⟨w.heap.size + 1, 2, none⟩) (ownsRow_setCell_other (a := ⟨w.heap.size + 1, 1, none⟩) (ownsRow_setCell_other (a := ⟨w.heap.size + 1, 0, none⟩) HI9.out.2.2.2 (Ne.symm hne) u0) (Ne.symm hne) u1) (Ne.symm hne) u2) (Ne.symm hne) u3
        have hM := HMM.out
        rw [List.take_length] at hM
        show OwnB _ _ _ (sMd cum win l D)
        unfold sMd
        rw [← hM]
        exact ho _ _ _ _
end Sk14
end Go.Proofs.YtcjcgehhmjnlcaaGreatDoor
/- 'chunk.Check' of a sack. -/
set_option linter.unusedVariables false
set_option linter.unusedSimpArgs false
namespace Go.Proofs.YtcjcgehhmjnlcaaGreatDoor
open Go.RowKit Go.Shelf Go.Proofs.YtcjcgehhmjnlcaaGreatDoor.It Go.Proofs.YtcjcgehhmjnlcaaGreatDoorW.PrintWords Go.Proofs.YtcjcgehhmjnlcaaGreatDoorW.PrintLast Go.Proofs.YtcjcgehhmjnlcaaGreatDoorW.PrintMore
namespace Sk14
def E3 (f : Int) (l : List Int) (m : Nat) : Option (Int × Option Int) := orE (flagsE f 0) (dataE (kR 3) l.length) (kids0E m) (countE 3 l) none
theorem fits_3 {n : Nat} (h : dataE (kR 3) n = none) : ∃ q, n = 12 + 4 * q ∧ n ≤ 65531 := by
  unfold dataE at h
  by_cases hf : fits (kR 3).least (kR 3).most (kR 3).unit n = true
  · have : (decide ((n : Int) ≥ 12) && decide ((n : Int) ≤ 65531) && (((n : Int) - 12) % 4 == 0)) = true := hf
    simp at this
    exact ⟨(n - 12) / 4, by omega, by omega⟩
  · rw [if_neg hf] at h; cases h
theorem check_3 (f : Int) (A K : Option Addr) (c m d : Nat) (l : List Int) (w : World) (hg : GTab w) (hm : m ≤ 1099511627776) (hC : BC w A l) (hB : Byt l) (hc : l.length ≤ c) (hl : l.length ≤ 1099511627776) :
    Calls Tryz.prog 29 #[ckV 3 f A l.length c K m d] w (ErrPost (codeOnly (E3 f l m)) w) :=
  check_plain 3 (by omega) 3 f (by decide) (by decide) A K l.length c m d w hg hl hm (nthE (flagsE f 0) (dataE (kR 3) l.length) (kids0E m) (countE 3 l) none) _ (first_or _ _ _ _ _) rfl rfl rfl
    (fun h W hW => by
      obtain ⟨q, hq, h31⟩ := fits_3 h
      exact count_sack f A K c m d l (kR 3) W (hC.below hW) hB hc hl (by omega))
    (fun _ W hW => value_not 3 f A K l.length c m d (kR 3) W (by omega) (by omega))
end Sk14
end Go.Proofs.YtcjcgehhmjnlcaaGreatDoor
