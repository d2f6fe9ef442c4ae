/- Joined: Spn, Srm, Spm. -/
import Derived.Test.YtcjcgehhmjnlcaaGreatDoorSmc
import Derived.Test.YtcjcgehhmjnlcaaGreatDoorQsa
import Derived.Test.YtcjcgehhmjnlcaaGreatDoorQsc
import Derived.Test.YtcjcgehhmjnlcaaGreatDoorSof
/- 'wharfref14.Make' and 'sack.Same', printed, in plain words. -/
set_option linter.unusedVariables false
set_option linter.unusedSimpArgs false
namespace Go.Proofs.YtcjcgehhmjnlcaaGreatDoor
open Go.RowKit Go.Shelf Go.Proofs.YtcjcgehhmjnlcaaGreatDoor.It Go.Proofs.YtcjcgehhmjnlcaaGreatDoorW.PrintWords Go.Proofs.YtcjcgehhmjnlcaaGreatDoorW.PrintLast Go.Proofs.YtcjcgehhmjnlcaaGreatDoorW.PrintMore
namespace Sk14
open PSackMatchesReference
theorem wrap_nx {j n : Nat} (h : j < n) (hn : n ≤ 1000000) : wrap64 ((j : Int) + 1) = ((j + 1 : Nat) : Int) := by unfold wrap64; omega
theorem rd_u (l : List Int) (j : Nat) (h : j < l.length) : rd l (j : Int) = l[j] := by simp [rd, h]
theorem rd_p (l : List Gp) (j : Nat) (h : j < l.length) : rd_T93 l (j : Int) = l[j] := by simp [rd_T93, h]
theorem rd_r (l : List Gr) (j : Nat) (h : j < l.length) : rd_T94 l (j : Int) = l[j] := by simp [rd_T94, h]
theorem rput_l0 (D : List Int) (hD : D.length ≤ 100000) (q : Nat) : ∀ (d j : Nat) (acc : List Int), D.length - j = d → j ≤ D.length → acc.length + 4 * d ≤ 1000000 → wharfref01_Put.l0 (d + 1 + q) 4 D acc (j : Int) = some (acc ++ (D.drop j).flatMap b4) := by
  intro d
  induction d with
  | zero =>
    intro j acc hd hj _
    obtain rfl : j = D.length := by omega
    rw [show 0 + 1 + q = q + 1 by omega, wharfref01_Put.l0, if_neg (by omega)]
    simp
  | succ d ih =>
    intro j acc hd hj ha
    have hlt : j < D.length := by omega
    have e0 : wrap64 ((4 : Int) - 4) = 0 := by simp [wrap64]
    rw [show d + 1 + 1 + q = (d + 1 + q) + 1 by omega, wharfref01_Put.l0, if_pos (by omega), if_pos (by omega), Option.bind_some, e0, if_pos (by omega), if_pos (by simp), Option.bind_some, if_pos (by simp; omega), wrap_nx hlt (by omega), rd_u D j hlt, ih (j + 1) _ (by omega) (by omega) (by simp; omega), List.drop_eq_getElem_cons hlt, List.flatMap_cons, List.append_assoc]
    rfl
theorem rput4_f (D : List Int) (hD : D.length ≤ 100000) (q : Nat) : wharfref01_Put.f (D.length + 1 + q) 4 D = some (D.flatMap b4) := by
  unfold wharfref01_Put.f
  have hr : wharfref01_Right.f 4 = some true := by decide
  rw [hr, Option.bind_some, if_pos rfl]
  have := rput_l0 D hD q D.length 0 [] (by omega) (by omega) (by simp; omega)
  simpa using this
theorem rput2_f (a b : Int) (q : Nat) : wharfref01_Put.f (q + 3) 2 [a, b] = some (b2 a ++ b2 b) := by
  simp [wharfref01_Put.f, wharfref01_Right.f, wharfref01_Put.l0, wrap64, rd, b2]
theorem rmake_hd (cu wi : Int) {n m : Nat} (hn : n ≤ 65535) (hm : m ≤ 65535) : b4 (((n : Int) % 4294967296 * 65536 + (m : Int)) % 4294967296) = b2 (IntKind.u32.wrap (n : Int)) ++ b2 (IntKind.u32.wrap (m : Int)) := by
  have e : ∀ x : Int, IntKind.u32.wrap x = x % 4294967296 := fun x => rfl
  rw [e, e]
  unfold b4 b2
  simp
  refine ⟨?_, ?_, ?_, ?_⟩ <;> omega
/-! ### 'sack.Same' on the same -/
theorem sgap_l0 (l : List Gp) (hl : l.length ≤ 1000000) (q : Nat) : ∀ (d j : Nat), l.length - j = d → j ≤ l.length → sack_Gap_57.l0 (d + 1 + q) l l (l.length : Int) (j : Int) = some true := by
  intro d
  induction d with
  | zero =>
    intro j hd hj
    obtain rfl : j = l.length := by omega
    rw [show 0 + 1 + q = q + 1 by omega, sack_Gap_57.l0, if_neg (by omega)]
  | succ d ih =>
    intro j hd hj
    have hlt : j < l.length := by omega
    rw [show d + 1 + 1 + q = (d + 1 + q) + 1 by omega, sack_Gap_57.l0, if_pos (by omega), if_pos (by omega), if_pos (by omega), if_pos (by omega), if_neg (by simp), wrap_nx hlt hl, ih (j + 1) (by omega) (by omega)]
theorem sdup_l0 (l : List Int) (hl : l.length ≤ 1000000) (q : Nat) : ∀ (d j : Nat), l.length - j = d → j ≤ l.length → slices_Equal_uint32_uint32.l0 (d + 1 + q) l l (l.length : Int) (j : Int) = some true := by
  intro d
  induction d with
  | zero =>
    intro j hd hj
    obtain rfl : j = l.length := by omega
    rw [show 0 + 1 + q = q + 1 by omega, slices_Equal_uint32_uint32.l0, if_neg (by omega)]
  | succ d ih =>
    intro j hd hj
    have hlt : j < l.length := by omega
    rw [show d + 1 + 1 + q = (d + 1 + q) + 1 by omega, slices_Equal_uint32_uint32.l0, if_pos (by omega), if_pos (by omega), if_pos (by omega), if_pos (by omega), if_pos rfl, wrap_nx hlt hl, ih (j + 1) (by omega) (by omega)]
theorem ssame_f (cu wi : Int) (l : List Gp) (D : List Int) (hl : l.length ≤ 1000000) (hD : D.length ≤ 1000000) : sack_Same.f (l.length + D.length + 1) cu wi l D cu wi l D = some true := by
  unfold sack_Same.f
  rw [if_pos rfl, if_pos rfl]
  have h1 := sgap_l0 l hl D.length l.length 0 (by omega) (by omega)
  have h2 := sdup_l0 D hD l.length D.length 0 (by omega) (by omega)
  unfold sack_Gap_57.f slices_Equal_uint32_uint32.f
  rw [if_pos rfl, if_pos rfl, show l.length + D.length + 1 = l.length + 1 + D.length by omega]
  have h1' : sack_Gap_57.l0 (l.length + 1 + D.length) l l (l.length : Int) 0 = some true := h1
  rw [h1', Option.bind_some, if_pos rfl, show l.length + 1 + D.length = D.length + 1 + l.length by omega]
  have h2' : slices_Equal_uint32_uint32.l0 (D.length + 1 + l.length) D D (D.length : Int) 0 = some true := h2
  rw [h2']
  rfl
end Sk14
end Go.Proofs.YtcjcgehhmjnlcaaGreatDoor
/- 'wharfref14.Make', by hand. -/
set_option linter.unusedVariables false
set_option linter.unusedSimpArgs false
namespace Go.Proofs.YtcjcgehhmjnlcaaGreatDoor
open Go.RowKit Go.Shelf Go.Proofs.YtcjcgehhmjnlcaaGreatDoor.It Go.Proofs.YtcjcgehhmjnlcaaGreatDoorW.PrintWords Go.Proofs.YtcjcgehhmjnlcaaGreatDoorW.PrintLast Go.Proofs.YtcjcgehhmjnlcaaGreatDoorW.PrintMore
namespace Sk14
open PSackMatchesReference
def rsO (cu wi : Int) (A B : Option Addr) (n c m d : Nat) : Obj := .cells #[.int .u32 cu, .int .u32 wi, .slice A n c, .slice B m d] 44 (0, 0)
theorem rmi_app {w W W' : World} {n : Nat} {cs : Array Value} {v v' : Value} {M x : List Int} (h : SmI w (.cells cs 44 (0, 0)) v M W) (hn : M.length = n) (hg : W.grownBy W' v.ownBlock) (ho : W'.ownsRow w.heap.size 5 1 v' (n + x.length) (M.map (Value.int .u8) ++ x.map (Value.int .u8))) : SmI w (.cells cs 44 (0, 0)) v' (M ++ x) W' := by
  obtain ⟨hb, h1, h2, hw⟩ := h
  have n1 := own_apart_t hw (by decide) h1
  have n2 := own_apart_t hw (by decide) (show W.heap[w.heap.size + 1]? = some (.cells _ 35 (0, 0)) from h2)
  refine ⟨hb.grown hg hb.size (fun j hj => (own_base hw j hj).1), ?_, ?_, ?_⟩
  · rw [hg.block _ (Array.getElem?_eq_some_iff.1 h1).1 n1]; exact h1
  · rw [hg.block _ (Array.getElem?_eq_some_iff.1 h2).1 n2]; exact h2
  · unfold OwnB
    rw [List.length_append, List.map_append, hn]
    exact ho
theorem rmS_blw {wr W W' : World} {p0 o0 p1 o1 p2 o2 : Nat} {v0 v1 v2 : Value} (h : Below wr.heap.size wr W ∧ W.cell? ⟨p0, o0, none⟩ = some v0 ∧ W.cell? ⟨p1, o1, none⟩ = some v1 ∧ W.cell? ⟨p2, o2, none⟩ = some v2) (hb : Below W.heap.size W W') : Below wr.heap.size wr W' ∧ W'.cell? ⟨p0, o0, none⟩ = some v0 ∧ W'.cell? ⟨p1, o1, none⟩ = some v1 ∧ W'.cell? ⟨p2, o2, none⟩ = some v2 :=
  have k : ∀ {p : Addr} {v : Value}, W.cell? p = some v → W'.cell? p = some v := fun h => (hb.cell (World.block_lt_of_cell? W _ h)).trans h
  ⟨cthen h.1 hb, k h.2.1, k h.2.2.1, k h.2.2.2⟩
theorem rp2_lit (b : Nat) (x y : Int) (w : World) (h : w.heap[b]? = some (.cells #[.int .u32 x, .int .u32 y] 23 (0, 0))) :
    Calls Tryz.prog 56 #[.int .i64 2, .slice (some ⟨b, 0, none⟩) 2 2] w (fun e w' => ∃ A c, e = .returned (.slice A 4 c) ∧ BC w' A (b2 x ++ b2 y) ∧ Below w.heap.size w w') :=
  (wharfref01_Put.calls (0 + 3) 2 (some ⟨b, 0, none⟩) 2 [x, y] (b2 x ++ b2 y) w (row_put w b [x, y] (by simp) h) (by simp) (rput2_f x y 0)).mono (by
    rintro e w' ⟨v, rfl, hR, hb⟩
    obtain ⟨A, c, rfl, -, hr⟩ := Kd.R_reads hR
    exact ⟨A, c, rfl, hr, hb⟩)
theorem rp3_lit (b : Nat) (x y z : Int) (w : World) (h : w.heap[b]? = some (.cells #[.int .u32 x, .int .u32 y, .int .u32 z] 23 (0, 0))) :
    Calls Tryz.prog 56 #[.int .i64 4, .slice (some ⟨b, 0, none⟩) 3 3] w (fun e w' => ∃ v, e = .returned v ∧ OwnB w' w.heap.size v (b4 x ++ b4 y ++ b4 z) ∧ Below w.heap.size w w') :=
  (wharfref01_Put.calls (3 + 1 + 0) 4 (some ⟨b, 0, none⟩) 3 [x, y, z] ([x, y, z].flatMap b4) w (row_put w b [x, y, z] (by simp) h) (by simp) (rput4_f [x, y, z] (by simp) 0)).mono (by
    rintro e w' ⟨v, rfl, hR, hb⟩
    refine ⟨v, rfl, ?_, hb⟩
    have := own_of_R hR
    simpa [List.flatMap_cons] using this)
theorem rpD_any (A : Option Addr) (c m : Nat) (D : List Int) (w : World) (hm : D.length = m) (h : UC w A D) (hc : m ≤ c) (hl : m ≤ 100000) :
    Calls Tryz.prog 56 #[.int .i64 4, .slice A m c] w (fun e w' => ∃ A n c, e = .returned (.slice A n c) ∧ n = 4 * m ∧ n ≤ c ∧ BC w' A (D.flatMap b4) ∧ Below w.heap.size w w') := by
  subst hm
  refine (wharfref01_Put.calls (D.length + 1 + 0) 4 A c D (D.flatMap b4) w h hc (rput4_f D hl 0)).mono ?_
  rintro e w' ⟨v, rfl, hR, hb⟩
  obtain ⟨A', c', rfl, hcc, hr⟩ := Kd.R_reads hR
  exact ⟨A', _, c', rfl, flat_b4 D, hcc, hr, hb⟩
set_option maxRecDepth 100000 in
set_option maxHeartbeats 8000000 in
theorem rmk_hand (cu wi : Int) (A B : Option Addr) (c d n m : Nat) (G : List Gp) (D : List Int) (w : World) (hn : G.length = n) (hm : D.length = m) (hG : GpC w A G) (hU : UC w B D) (hd : m ≤ d) (h1 : n ≤ 16379) (h2 : m ≤ 16379) :
    Calls Tryz.prog 25 #[.agg #[.int .u32 cu, .int .u32 wi, .slice A n c, .slice B m d]] w (fun e w' => ∃ v, e = .returned (.agg #[.int .u8 3, .int .u8 0, v, .slice none 0 0]) ∧ OwnB w' w.heap.size v (sMd cu wi G D) ∧ Below w.heap.size w w') := by
  have HG := hid hG
  have HU := hid hU
  have HN := hid hn
  have HM := hid hm
  have HD := hid hd
  have HL := hid (show n ≤ 16379 ∧ m ≤ 16379 from ⟨h1, h2⟩)
  obtain ⟨S0, hS0⟩ : ∃ S0, (w.alloc (rsO cu wi A B n c m d)).alloc chZ = S0 := ⟨_, rfl⟩
  have HX0 := hid (show S0.heap[w.heap.size]? = some (rsO cu wi A B n c m d) by rw [← hS0]; exact blk_alloc (blk_new w _))
  have HZ0 := hid (show S0.heap[w.heap.size + 1]? = some chZ by rw [← hS0]; exact blk_new1 w _ _)
  have HB0 := hid (show Below w.heap.size w S0 by rw [← hS0]; exact below_alloc (below_alloc (Below.refl _ _) _) _)
  obtain ⟨i0, hi0, hz0, hz1, hz2⟩ := info_parts infoB
  clear hG hU hn hm hd h1 h2
  go_enter Tryz.func25, Tryz.ntmps25
  go_upto_region 1 with fail
  have hS0' : (w.alloc (.cells #[.int .u32 cu, .int .u32 wi, .slice A n c, .slice B m d] 44)).alloc (.cells #[.int .u8 0, .int .u8 0, .slice none 0 0, .slice none 0 0] 35) = S0 := hS0
  rw [hS0']
  clear hS0 hS0'
  obtain ⟨⟨q0, q1, q2, q3⟩, -⟩ := four (show S0.heap[w.heap.size]? = some (.cells #[.int .u32 cu, .int .u32 wi, .slice A n c, .slice B m d] 44 (0, 0)) from HX0.out)
  go_wp2_with fail
  clear q0 q1 q2 q3
  have HBX1 := hid (below_alloc (Below.refl S0.heap.size S0) (.cells #[.int .u32 cu, .int .u32 wi, .int .u32 (((n : Int) % 4294967296 * 65536 + (m : Int)) % 4294967296)] 23))
  refine (rp3_lit S0.heap.size cu wi (((n : Int) % 4294967296 * 65536 + (m : Int)) % 4294967296) _ (blk_new _ _)).mono ?_
  rintro e w1 ⟨v1, rfl, hO, hb⟩
  rw [rmake_hd cu wi (n := n) (m := m) (by have := HL.out; omega) (by have := HL.out; omega)] at hO
  have HBW := hid (cthen HBX1.out hb)
  have hM0 : b4 cu ++ b4 wi ++ (b2 (IntKind.u32.wrap (n : Int)) ++ b2 (IntKind.u32.wrap (m : Int))) = sHd cu wi n m := rfl
  rw [hM0] at hO
  obtain ⟨A1, c1, e1⟩ := own_form hO
  rw [show (sHd cu wi n m).length = 12 by simp [sHd, b4, b2]] at e1
  subst e1
  have HI0 := hid (show SmI w (rsO cu wi A B n c m d) (.slice A1 12 c1) (sHd cu wi n m ++ (G.take 0).flatMap gB) w1 from ⟨cthen HB0.out HBW.out, blk_below HX0.out HBW.out, blk_below HZ0.out HBW.out, by
    rw [List.take_zero, List.flatMap_nil, List.append_nil]
    exact OwnB.lower hO (by rw [World.size_alloc]; have := HB0.out.size; omega)⟩)
  clear hO hb hM0
  go_wp2_with fail
  go_loopw [3, 4] (fun bv iv W => ∃ i : Nat, iv = .int .i64 i ∧ i ≤ n ∧ (∃ A' c', bv = .slice A' (12 + 4 * i) c') ∧ Hid (SmI w (rsO cu wi A B n c m d) bv (sHd cu wi n m ++ (G.take i).flatMap gB) W)) (fun _ iv _ => n - (intOf iv).toNat)
  case atStart => exact ⟨0, rfl, by omega, ⟨A1, c1, rfl⟩, HI0⟩
  case round =>
    obtain ⟨i, rfl, hi, ⟨A2, c2, rfl⟩, hI⟩ := hrel
    clear HI0
    obtain ⟨⟨q0, q1, q2, q3⟩, -⟩ := four (show wr.heap[w.heap.size]? = some (.cells #[.int .u32 cu, .int .u32 wi, .slice A n c, .slice B m d] 44 (0, 0)) from hI.out.2.1)
    by_cases hlt : i < n
    · rcases HG.out.below hI.out.1 with h | ⟨b, off, rfl, hcl⟩
      · have := HN.out; rw [h] at this; exact absurd hlt (by simp at this; omega)
      · obtain ⟨k0, k1⟩ := hcl i (by have := HN.out; omega)
        obtain ⟨g, hg⟩ : ∃ g, G.getD i gpZ = g := ⟨_, rfl⟩
        rw [hg] at k0 k1
        have HGS := hid (gB_step G i g (by have := HN.out; omega) hg)
        have HLEN := hid (show (sHd cu wi n m ++ (G.take i).flatMap gB).length = 12 + 4 * i from smd_len cu wi n m G i (by have := HN.out; omega))
        have HIL := hid (show i ≤ 16379 by have := HL.out; omega)
        have hS0 : Below wr.heap.size wr wr.drew ∧ wr.drew.cell? ⟨w.heap.size, 2, none⟩ = some (.slice (some ⟨b, off, none⟩) n c) ∧ wr.drew.cell? ⟨b, off + i * 2, none⟩ = some (.int .u16 g.f0) ∧ wr.drew.cell? ⟨b, off + i * 2 + 1, none⟩ = some (.int .u16 g.f1) := ⟨below_drew (Below.refl _ _) 1, q2, k0, k1⟩
        have hii : (0 : Int) ≤ (i : Int) := by omega
        have hin : (i : Int) < (n : Int) := by omega
        have HWI := hid (show wrap64 ((i : Int) + 1) = ((i + 1 : Nat) : Int) by have := HIL.out; unfold wrap64; omega)
        have hms : n - (intOf (.int .i64 (wrap64 ((i : Int) + 1)))).toNat < n - i := by
          rw [HWI.out]
          simp only [intOf, Int.toNat_natCast]
          omega
        have HMS := hid hms
        clear hcl hg hms k0 k1
        go_wp2_with fail
        clear q0 q1 q2 q3
        refine start_ (n := 19) (S := fun w' => Below wr.heap.size wr w' ∧ w'.cell? ⟨w.heap.size, 2, none⟩ = some (.slice (some ⟨b, off, none⟩) n c) ∧ w'.cell? ⟨b, off + i * 2, none⟩ = some (.int .u16 g.f0) ∧ w'.cell? ⟨b, off + i * 2 + 1, none⟩ = some (.int .u16 g.f1)) (ds := [17]) #[false, false, false, false, false, false, false, false, false, false, false, false, false, false, false, false, false, false, false] (by kernel_rfl) rfl rfl hS0 (fun hHeld => ?_)
        generalize wr.drew = w44 at hS0 hHeld ⊢
        refine pure_ (i := 0) (N := some 28) (v := ?_) (a' := ?_) #[true, false, false, false, false, false, false, false, false, false, false, false, false, false, false, false, false, false, false] rfl rfl (by kernel_rfl) (fun _ _ _ h => h) (Or.inl ⟨by rfl, ?_⟩) ?_ ?_
        rotate_left
        · intro w'
          go_simp
          with_reducible rfl
        rotate_left
        · simp only [Act.put, List.setIfInBounds_toArray, List.set_cons_zero, List.set_cons_succ, i64_w, i32_w]
          rfl
        refine pure_ (i := 1) (N := some 29) (v := ?_) (a' := ?_) #[true, true, false, false, false, false, false, false, false, false, false, false, false, false, false, false, false, false, false] rfl rfl (by kernel_rfl) (fun _ _ _ h => h) (Or.inl ⟨by rfl, ?_⟩) ?_ ?_
        rotate_left
        · intro w'
          go_simp
          with_reducible rfl
        rotate_left
        · simp only [Act.put, List.setIfInBounds_toArray, List.set_cons_zero, List.set_cons_succ, i64_w, i32_w]
          rfl
        refine pure_ (i := 3) (N := some 31) (v := ?_) (a' := ?_) #[true, true, false, true, false, false, false, false, false, false, false, false, false, false, false, false, false, false, false] rfl rfl (by kernel_rfl) (fun _ _ _ h => h) (Or.inl ⟨by rfl, ?_⟩) ?_ ?_
        rotate_left
        · intro w'
          go_simp
          with_reducible rfl
        rotate_left
        · simp only [Act.put, List.setIfInBounds_toArray, List.set_cons_zero, List.set_cons_succ, i64_w, i32_w]
          rfl
        refine pure_ (i := 8) (N := some 36) (v := ?_) (a' := ?_) #[true, true, false, true, false, false, false, false, true, false, false, false, false, false, false, false, false, false, false] rfl rfl (by kernel_rfl) (fun _ _ _ h => h) (Or.inl ⟨by rfl, ?_⟩) ?_ ?_
        rotate_left
        · intro w'
          go_simp
          with_reducible rfl
        rotate_left
        · simp only [Act.put, List.setIfInBounds_toArray, List.set_cons_zero, List.set_cons_succ, i64_w, i32_w]
          rfl
        refine pure_ (i := 10) (N := some 38) (v := ?_) (a' := ?_) #[true, true, false, true, false, false, false, false, true, false, true, false, false, false, false, false, false, false, false] rfl rfl (by kernel_rfl) (fun _ _ _ h => h) (Or.inl ⟨by rfl, ?_⟩) ?_ ?_
        rotate_left
        · intro w'
          go_simp
          with_reducible rfl
        rotate_left
        · simp only [Act.put, List.setIfInBounds_toArray, List.set_cons_zero, List.set_cons_succ, i64_w, i32_w]
          rfl
        refine take_ (i := 2) (N := some 30) (v := ?_) (a' := ?_) #[true, true, true, true, false, false, false, false, true, false, true, false, false, false, false, false, false, false, false] rfl rfl (by kernel_rfl) (fun _ _ _ h => h) (Or.inl ⟨by rfl, ?_⟩) hHeld ?_ ?_
        rotate_left
        · rintro w' ⟨q0, q1, q2, q3⟩
          go_simp
          with_reducible rfl
        rotate_left
        · simp only [Act.put, List.setIfInBounds_toArray, List.set_cons_zero, List.set_cons_succ, i64_w, i32_w]
          rfl
        refine pure_ (i := 4) (N := some 32) (v := ?_) (a' := ?_) #[true, true, true, true, true, false, false, false, true, false, true, false, false, false, false, false, false, false, false] rfl rfl (by kernel_rfl) (fun _ _ _ h => h) (Or.inl ⟨by rfl, ?_⟩) ?_ ?_
        rotate_left
        · intro w'
          go_simp
          with_reducible rfl
        rotate_left
        · simp only [Act.put, List.setIfInBounds_toArray, List.set_cons_zero, List.set_cons_succ, i64_w, i32_w]
          rfl
        refine pure_ (i := 5) (N := some 33) (v := ?_) (a' := ?_) #[true, true, true, true, true, true, false, false, true, false, true, false, false, false, false, false, false, false, false] rfl rfl (by kernel_rfl) (fun _ _ _ h => h) (Or.inl ⟨by rfl, ?_⟩) ?_ ?_
        rotate_left
        · intro w'
          go_simp
          with_reducible rfl
        rotate_left
        · simp only [Act.put, List.setIfInBounds_toArray, List.set_cons_zero, List.set_cons_succ, i64_w, i32_w]
          rfl
        refine take_ (i := 6) (N := some 34) (v := ?_) (a' := ?_) #[true, true, true, true, true, true, true, false, true, false, true, false, false, false, false, false, false, false, false] rfl rfl (by kernel_rfl) (fun _ _ _ h => h) (Or.inl ⟨by rfl, ?_⟩) hHeld ?_ ?_
        rotate_left
        · rintro w' ⟨q0, q1, q2, q3⟩
          go_simp
          with_reducible rfl
        rotate_left
        · simp only [Act.put, List.setIfInBounds_toArray, List.set_cons_zero, List.set_cons_succ, i64_w, i32_w]
          rfl
        refine pure_ (i := 7) (N := some 35) (v := ?_) (a' := ?_) #[true, true, true, true, true, true, true, true, true, false, true, false, false, false, false, false, false, false, false] rfl rfl (by kernel_rfl) (fun _ _ _ h => h) (Or.inl ⟨by rfl, ?_⟩) ?_ ?_
        rotate_left
        · intro w'
          go_simp
          with_reducible rfl
        rotate_left
        · simp only [Act.put, List.setIfInBounds_toArray, List.set_cons_zero, List.set_cons_succ, i64_w, i32_w]
          rfl
        refine take_ (i := 9) (N := some 37) (v := ?_) (a' := ?_) #[true, true, true, true, true, true, true, true, true, true, true, false, false, false, false, false, false, false, false] rfl rfl (by kernel_rfl) (fun _ _ _ h => h) (Or.inl ⟨by rfl, ?_⟩) hHeld ?_ ?_
        rotate_left
        · rintro w' ⟨q0, q1, q2, q3⟩
          go_simp
          with_reducible rfl
        rotate_left
        · simp only [Act.put, List.setIfInBounds_toArray, List.set_cons_zero, List.set_cons_succ, i64_w, i32_w]
          rfl
        refine pure_ (i := 11) (N := some 39) (v := ?_) (a' := ?_) #[true, true, true, true, true, true, true, true, true, true, true, true, false, false, false, false, false, false, false] rfl rfl (by kernel_rfl) (fun _ _ _ h => h) (Or.inl ⟨by rfl, ?_⟩) ?_ ?_
        rotate_left
        · intro w'
          go_simp
          with_reducible rfl
        rotate_left
        · simp only [Act.put, List.setIfInBounds_toArray, List.set_cons_zero, List.set_cons_succ, i64_w, i32_w]
          rfl
        refine pure_ (i := 12) (N := some 40) (v := ?_) (a' := ?_) #[true, true, true, true, true, true, true, true, true, true, true, true, true, false, false, false, false, false, false] rfl rfl (by kernel_rfl) (fun _ _ _ h => h) (Or.inl ⟨by rfl, ?_⟩) ?_ ?_
        rotate_left
        · intro w'
          go_simp
          with_reducible rfl
        rotate_left
        · simp only [Act.put, List.setIfInBounds_toArray, List.set_cons_zero, List.set_cons_succ, i64_w, i32_w]
          rfl
        refine take_ (i := 13) (N := some 41) (v := ?_) (a' := ?_) #[true, true, true, true, true, true, true, true, true, true, true, true, true, true, false, false, false, false, false] rfl rfl (by kernel_rfl) (fun _ _ _ h => h) (Or.inl ⟨by rfl, ?_⟩) hHeld ?_ ?_
        rotate_left
        · rintro w' ⟨q0, q1, q2, q3⟩
          go_simp
          with_reducible rfl
        rotate_left
        · simp only [Act.put, List.setIfInBounds_toArray, List.set_cons_zero, List.set_cons_succ, i64_w, i32_w]
          rfl
        refine pure_ (i := 14) (N := some 42) (v := ?_) (a' := ?_) #[true, true, true, true, true, true, true, true, true, true, true, true, true, true, true, false, false, false, false] rfl rfl (by kernel_rfl) (fun _ _ _ h => h) (Or.inl ⟨by rfl, ?_⟩) ?_ ?_
        rotate_left
        · intro w'
          go_simp
          with_reducible rfl
        rotate_left
        · simp only [Act.put, List.setIfInBounds_toArray, List.set_cons_zero, List.set_cons_succ, i64_w, i32_w]
          rfl
        refine one_ (i := 15) (N := some 43) #[true, true, true, true, true, true, true, true, true, true, true, true, true, true, true, true, false, false, false] rfl rfl (by kernel_rfl) (by decide) (fun K hK => ?_)
        have hS1 := rmS_blw hHeld (below_alloc (Below.refl _ _) (.cells #[.int .u32 (g.f0 % 4294967296), .int .u32 (g.f1 % 4294967296)] 23))
        refine value_ (w1 := w44.alloc (.cells #[.int .u32 (g.f0 % 4294967296), .int .u32 (g.f1 % 4294967296)] 23)) (v := .slice (some ⟨w44.heap.size, 0, none⟩) 2 2) (by rfl) rfl (by go_simp; rfl) ?_
        refine hK.out _ _ hS1 (fun hHeld => ?_)
        clear hK K
        refine norm_ (a' := ?_) ?_ ?_
        rotate_left
        · show Act.put _ (some 43) _ = _
          simp only [Act.put, List.setIfInBounds_toArray, List.set_cons_zero, List.set_cons_succ, i64_w, i32_w]
          rfl
        refine one_ (i := 16) (N := some 44) #[true, true, true, true, true, true, true, true, true, true, true, true, true, true, true, true, true, false, false] rfl rfl (by kernel_rfl) (by decide) (fun K hK => ?_)
        refine goes_ Tryz.func56 (by kernel_rfl) rfl #[.int .i64 2, .slice (some ⟨w44.heap.size, 0, none⟩) 2 2] (by rfl) rfl rfl (by simp only [List.map_toArray, List.map_cons, List.map_nil]; rfl) ?_
        refine Calls.mono (rp2_lit _ _ _ _ (blk_new _ _)) ?_
        rintro e W ⟨A9, c9, rfl, hr, hb⟩
        refine ⟨_, rfl, ?_⟩
        obtain ⟨a9, rfl, hn9'⟩ := some_of' hr (by simp [b2])
        have hn9 := hid hn9'
        have hS2 := rmS_blw hHeld hb
        have HIW := hid (hI.out.step hS2.1)
        have HSZ := hid HIW.out.1.size
        have hown := HIW.out.2.2.2
        unfold OwnB at hown
        rw [HLEN.out] at hown
        have HOW := hid hown
        clear hr hb hn9' hown
        refine hK.out _ _ hS2 (fun hHeld => ?_)
        clear hK K
        refine norm_ (a' := ?_) ?_ ?_
        rotate_left
        · show Act.put _ (some 44) _ = _
          simp only [Act.put, List.setIfInBounds_toArray, List.set_cons_zero, List.set_cons_succ, i64_w, i32_w]
          rfl
        refine last_ (i := 17) (N := some 45) #[true, true, true, true, true, true, true, true, true, true, true, true, true, true, true, true, true, true, false] rfl rfl (by kernel_rfl) (by decide) (fun K hK => ?_)
        clear hHeld hS0 hS1 hS2
        refine step_append_lies _ (by rfl) _ _ _ (by rfl) w.heap.size 5 i0 _ 1 1 Tryz.underlying32 hi0 hz0 hz1 hz2 rfl (by omega) _ _ _ (by rfl) HOW.out a9 4 c9 ((b2 (g.f0 % 4294967296) ++ b2 (g.f1 % 4294967296)).map (Value.int .u8)) (by rfl) (by simp [b2]) (hn9.out) (by intro u hu; obtain ⟨_, _, rfl⟩ := List.mem_map.1 hu; rfl) (by omega) (by have := HIL.out; unfold maxLen; omega) (by have := HIL.out; omega) HSZ.out _ rfl ?_
        intro gg cap w9 hown1 hgrow hat hlt'
        have HI9 := hid (rmi_app (x := b2 (g.f0 % 4294967296) ++ b2 (g.f1 % 4294967296)) HIW.out HLEN.out hgrow (by simpa [b2] using hown1))
        clear hown1 hgrow hat hlt'
        refine hK.out _ _ ?_
        clear hK K
        refine norm_ (a' := ?_) ?_ ?_
        rotate_left
        · show Act.put _ (some 45) _ = _
          simp only [Act.put, List.setIfInBounds_toArray, List.set_cons_zero, List.set_cons_succ, i64_w, i32_w]
          rfl
        refine pure_ (i := 18) (N := some 3) (v := ?_) (a' := ?_) #[true, true, true, true, true, true, true, true, true, true, true, true, true, true, true, true, true, true, true] rfl rfl (by kernel_rfl) (fun _ _ _ h => h) (Or.inl ⟨by rfl, ?_⟩) ?_ ?_
        rotate_left
        · intro w'
          go_simp
          with_reducible rfl
        rotate_left
        · simp only [Act.put, List.setIfInBounds_toArray, List.set_cons_zero, List.set_cons_succ, i64_w, i32_w]
          rfl
        refine done_ (by kernel_rfl) ?_
        obtain ⟨A9, c9', hA9⟩ := own_form HI9.out.2.2.2
        go_wp2_with fail
        refine ⟨⟨i + 1, by first | rw [HWI.out] | go_num, hlt, ⟨some ⟨gg, 0, none⟩, cap, rfl⟩, hid ?_⟩, by first | exact HMS.out | (simp [intOf]; omega)⟩
        rw [HGS.out, ← List.append_assoc]
        exact HI9.out
    · obtain rfl : i = n := by omega
      have hDp := rpD_any B d m D wr HM.out (HU.out.below hI.out.1) HD.out (by have := HL.out; omega)
      go_wp2_with fail
      refine hDp.mono ?_
      rintro e w2 ⟨A9, nn, c9, rfl, hnn, hcc9, hr, hb⟩
      have HI3 := hid (hI.out.step hb)
      have HNN := hid hnn
      have hlen : (sHd cu wi i m ++ (G.take i).flatMap gB).length = 12 + 4 * i := smd_len cu wi i m G i (by have := HN.out; omega)
      have hown := HI3.out.2.2.2
      unfold OwnB at hown
      rw [hlen] at hown
      have HOW := hid hown
      have HLEN := hid hlen
      have hfl := hid (show (D.flatMap b4).length = 4 * m by rw [flat_b4 D, HM.out])
      clear hDp hlen hown
      by_cases hD0 : m = 0
      · obtain rfl : m = 0 := hD0
        obtain rfl : nn = 0 := by have := HNN.out; omega
        obtain ⟨A4', c4', e4, hc4, hr4, -⟩ := own_slice HI3.out.2.2.2
        obtain ⟨a4, rfl, -⟩ := some_of' hr4 (by rw [HLEN.out]; omega)
        rw [HLEN.out] at e4 hc4
        cases e4
        obtain ⟨⟨z0, z1, z2, z3⟩, ⟨y0, y1, y2, y3⟩⟩ := four HI3.out.2.2.1
        have HC4 := hid hc4
        have hgt : ¬ (12 + 4 * i + 0 > c2) := by omega
        clear hr hb hnn hc4 hr4 q0 q1 q2 q3
        rcases A9 with _ | a9
        · go_wp2_with fail
          refine bodyPost_ret (v := .agg #[.int .u8 3, .int .u8 0, .slice (some a4) (12 + 4 * i) c2, .slice none 0 0]) (by simp [results, Tryz.results25, go_sem, z0, z1, z2, z3]) rfl ?_
          have hown := HI3.out.2.2.2
          have hne := own_apart_t hown (by decide) HI3.out.2.2.1
          refine ⟨_, rfl, ?_, below_set (below_set (below_set (below_set HI3.out.1 (Nat.le_succ _) _) (Nat.le_succ _) _) (Nat.le_succ _) _) (Nat.le_succ _) _⟩
          have ho := fun u0 u1 u2 u3 => ownsRow_setCell_other (a := ⟨w.heap.size + 1, 3, none⟩) (ownsRow_setCell_other (a := ⟨w.heap.size + 1, 2, none⟩) (ownsRow_setCell_other (a := ⟨w.heap.size + 1, 1, none⟩) (ownsRow_setCell_other (a := ⟨w.heap.size + 1, 0, none⟩) hown (Ne.symm hne) u0) (Ne.symm hne) u1) (Ne.symm hne) u2) (Ne.symm hne) u3
          have hM : sMd cu wi G D = sHd cu wi i 0 ++ (G.take i).flatMap gB := by
            obtain rfl : D = [] := List.eq_nil_of_length_eq_zero HM.out
            rw [show i = G.length from HN.out.symm]
            unfold sMd
            rw [List.take_length, List.flatMap_nil, List.append_nil]
            rfl
          rw [hM]
          exact ho _ _ _ _
        · go_wp2_with fail
          refine bodyPost_ret (v := .agg #[.int .u8 3, .int .u8 0, .slice (some a4) (12 + 4 * i) c2, .slice none 0 0]) (by simp [results, Tryz.results25, go_sem, z0, z1, z2, z3]) rfl ?_
          have hown := HI3.out.2.2.2
          have hne := own_apart_t hown (by decide) HI3.out.2.2.1
          refine ⟨_, rfl, ?_, below_set (below_set (below_set (below_set HI3.out.1 (Nat.le_succ _) _) (Nat.le_succ _) _) (Nat.le_succ _) _) (Nat.le_succ _) _⟩
          have ho := fun u0 u1 u2 u3 => ownsRow_setCell_other (a := ⟨w.heap.size + 1, 3, none⟩) (ownsRow_setCell_other (a := ⟨w.heap.size + 1, 2, none⟩) (ownsRow_setCell_other (a := ⟨w.heap.size + 1, 1, none⟩) (ownsRow_setCell_other (a := ⟨w.heap.size + 1, 0, none⟩) hown (Ne.symm hne) u0) (Ne.symm hne) u1) (Ne.symm hne) u2) (Ne.symm hne) u3
          have hM : sMd cu wi G D = sHd cu wi i 0 ++ (G.take i).flatMap gB := by
            obtain rfl : D = [] := List.eq_nil_of_length_eq_zero HM.out
            rw [show i = G.length from HN.out.symm]
            unfold sMd
            rw [List.take_length, List.flatMap_nil, List.append_nil]
            rfl
          rw [hM]
          exact ho _ _ _ _
      · obtain ⟨a9, rfl, hn9⟩ := some_of' hr (by rw [hfl.out]; omega)
        have HN9 := hid hn9
        clear hr hb hnn hn9
        go_wp2_with (at_builtin; refine wpList_append_own _ rfl _ _ 32 rfl w.heap.size 5 i0 (.int .u8 0) 1 1 Tryz.underlying32 hi0 hz0 hz1 hz2 rfl (by decide) _ _ _ rfl HOW.out a9 nn c9 ((D.flatMap b4).map (Value.int .u8)) rfl (by rw [List.length_map, hfl.out, HNN.out, Nat.mul_one]) HN9.out (by intro u hu; obtain ⟨_, _, rfl⟩ := List.mem_map.1 hu; rfl) (by have := HL.out; have := HNN.out; unfold maxLen; omega) (by have := HL.out; have := HNN.out; omega) HI3.out.1.size ?_; intro v' w9 hown' hgrow _; have hown2 : w9.ownsRow w.heap.size 5 1 v' (12 + 4 * i + (D.flatMap b4).length) ((sHd cu wi i m ++ (G.take i).flatMap gB).map (Value.int .u8) ++ (D.flatMap b4).map (Value.int .u8)) := (by rw [hfl.out, ← HNN.out]; exact hown'); have hI9 := rmi_app HI3.out HLEN.out hgrow hown2; clear hown' hown2 hgrow; obtain ⟨MM, hMM⟩ : ∃ MM, MM = sHd cu wi i m ++ (G.take i).flatMap gB ++ D.flatMap b4 := ⟨_, rfl⟩; rw [← hMM] at hI9; have HMM := hid hMM; clear hMM; have HI9 := hid hI9; clear hI9; obtain ⟨A5, c5, rfl⟩ := own_form HI9.out.2.2.2; obtain ⟨⟨z0, z1, z2, z3⟩, ⟨y0, y1, y2, y3⟩⟩ := four HI9.out.2.2.1)
        refine bodyPost_ret (v := .agg #[.int .u8 3, .int .u8 0, .slice A5 _ c5, .slice none 0 0]) (by simp [results, Tryz.results25, go_sem, z0, z1, z2, z3]; rfl) rfl ?_
        have hown := HI9.out.2.2.2
        have hne := own_apart_t hown (by decide) HI9.out.2.2.1
        refine ⟨_, rfl, ?_, below_set (below_set (below_set (below_set HI9.out.1 (Nat.le_succ _) _) (Nat.le_succ _) _) (Nat.le_succ _) _) (Nat.le_succ _) _⟩
        have ho := fun u0 u1 u2 u3 => ownsRow_setCell_other (a := ⟨w.heap.size + 1, 3, none⟩) (ownsRow_setCell_other (a := ⟨w.heap.size + 1, 2, none⟩) (ownsRow_setCell_other (a := ⟨w.heap.size + 1, 1, none⟩) (ownsRow_setCell_other (a := ⟨w.heap.size + 1, 0, none⟩) hown (Ne.symm hne) u0) (Ne.symm hne) u1) (Ne.symm hne) u2) (Ne.symm hne) u3
        have hM := HMM.out
        have hM2 : sMd cu wi G D = MM := by
          rw [hM, show i = G.length from HN.out.symm, show m = D.length from HM.out.symm]
          unfold sMd
          rw [List.take_length]
        rw [hM2]
        exact ho _ _ _ _
end Sk14
end Go.Proofs.YtcjcgehhmjnlcaaGreatDoor
/- The bytes of a sack are those of a row of 32-bit numbers; the description that they have; their check. -/
set_option linter.unusedVariables false
set_option linter.unusedSimpArgs false
namespace Go.Proofs.YtcjcgehhmjnlcaaGreatDoor
open Go.RowKit Go.Shelf Go.Proofs.YtcjcgehhmjnlcaaGreatDoor.It Go.Proofs.YtcjcgehhmjnlcaaGreatDoorW.PrintWords Go.Proofs.YtcjcgehhmjnlcaaGreatDoorW.PrintLast Go.Proofs.YtcjcgehhmjnlcaaGreatDoorW.PrintMore
namespace Sk14
def U32 (x : Int) : Prop := 0 ≤ x ∧ x < 4294967296
theorem b4_at : ∀ (xs : List Int) (i j : Nat), i < xs.length → j < 4 → (xs.flatMap b4).getD (i * 4 + j) 0 = (b4 (xs.getD i 0)).getD j 0 := by
  intro xs
  induction xs with
  | nil => intro i j h; simp at h
  | cons x xs ih =>
    intro i j hi hj
    rw [List.flatMap_cons]
    rcases i with _ | i
    · rw [List.getD_eq_getElem?_getD, List.getElem?_append_left (by simp [b4]; omega)]
      simp
    · rw [List.getD_eq_getElem?_getD, List.getElem?_append_right (by simp [b4]; omega), ← List.getD_eq_getElem?_getD]
      rw [show (i + 1) * 4 + j - (b4 x).length = i * 4 + j by simp [b4]; omega, ih i j (by simpa using hi) hj]
      simp
theorem numAt4 (bs : Nat → Int) (i : Nat) : numAt bs i 4 = ((bs i * 256 + bs (i + 1)) * 256 + bs (i + 2)) * 256 + bs (i + 3) := by
  simp [numAt]
theorem b4_num {x : Int} (h : U32 x) : (((x / 16777216 % 256) * 256 + x / 65536 % 256) * 256 + x / 256 % 256) * 256 + x % 256 = x := by
  obtain ⟨h0, h1⟩ := h
  omega
theorem nums_flat (xs : List Int) (h : ∀ x ∈ xs, U32 x) : numsOf 4 (xs.flatMap b4) = xs := by
  have hl : (xs.flatMap b4).length / 4 = xs.length := by rw [flat_b4]; omega
  apply List.ext_getElem?
  intro i
  by_cases hi : i < xs.length
  · have e := numsOf_getD 4 (xs.flatMap b4) i (by rw [hl]; exact hi)
    rw [numAt4] at e
    have g := fun j hj => b4_at xs i j hi hj
    have g0 := g 0 (by omega)
    have g1 := g 1 (by omega)
    have g2 := g 2 (by omega)
    have g3 := g 3 (by omega)
    rw [Nat.add_zero] at g0
    simp only [g0, g1, g2, g3] at e
    have hx : U32 (xs.getD i 0) := h _ (by rw [List.getD_eq_getElem?_getD, List.getElem?_eq_getElem hi]; exact List.getElem_mem _)
    have hb := b4_num hx
    have e2 : (numsOf 4 (xs.flatMap b4)).getD i 0 = xs.getD i 0 := by
      rw [e]
      exact hb
    have l1 : i < (numsOf 4 (xs.flatMap b4)).length := by rw [numsOf_len, hl]; exact hi
    rw [List.getElem?_eq_getElem l1, List.getElem?_eq_getElem hi]
    rw [List.getD_eq_getElem?_getD, List.getD_eq_getElem?_getD, List.getElem?_eq_getElem l1, List.getElem?_eq_getElem hi] at e2
    simpa using e2
  · rw [List.getElem?_eq_none (by rw [numsOf_len, hl]; omega), List.getElem?_eq_none (by omega)]
/-- A gap as one number. -/
def pk (g : Gp) : Int := g.f0 * 65536 + g.f1
def wds (cu wi : Int) (G : List Gp) (D : List Int) : List Int := [cu, wi, (G.length : Int) * 65536 + (D.length : Int)] ++ G.map pk ++ D
theorem pk_b4 {g : Gp} (h : g.ok) : gB g = b4 (pk g) := by
  obtain ⟨h0, h1, h2, h3⟩ := h
  unfold gB pk b4 b2
  simp
  refine ⟨?_, ?_, ?_, ?_⟩ <;> omega
theorem map_b4 : ∀ (G : List Gp), (∀ g ∈ G, g.ok) → G.flatMap gB = (G.map pk).flatMap b4 := by
  intro G
  induction G with
  | nil => intro _; rfl
  | cons g G ih =>
    intro h
    rw [List.flatMap_cons, List.map_cons, List.flatMap_cons, pk_b4 (h g (by simp)), ih (fun x hx => h x (by simp [hx]))]
theorem hd_b4 {n m : Nat} (hn : n ≤ 65535) (hm : m ≤ 65535) : b2 (IntKind.u32.wrap (n : Int)) ++ b2 (IntKind.u32.wrap (m : Int)) = b4 ((n : Int) * 65536 + (m : Int)) := by
  have e : ∀ x : Int, IntKind.u32.wrap x = x % 4294967296 := fun x => rfl
  rw [e, e]
  unfold b4 b2
  simp
  refine ⟨?_, ?_, ?_, ?_⟩ <;> omega
theorem smd_words (cu wi : Int) (G : List Gp) (D : List Int) (hG : ∀ g ∈ G, g.ok) (hn : G.length ≤ 65535) (hm : D.length ≤ 65535) : sMd cu wi G D = (wds cu wi G D).flatMap b4 := by
  unfold sMd sHd wds
  rw [hd_b4 hn hm, map_b4 G hG, List.flatMap_append, List.flatMap_append]
  simp [List.flatMap_cons]
theorem wds_u32 {cu wi : Int} {G : List Gp} {D : List Int} (hcu : U32 cu) (hwi : U32 wi) (hG : ∀ g ∈ G, g.ok) (hD : ∀ x ∈ D, U32 x) (hn : G.length ≤ 65535) (hm : D.length ≤ 65535) : ∀ x ∈ wds cu wi G D, U32 x := by
  intro x hx
  unfold wds at hx
  simp only [List.mem_append, List.mem_cons, List.not_mem_nil, or_false, List.mem_map] at hx
  rcases hx with ((rfl | rfl | rfl) | ⟨g, hg, rfl⟩) | hx
  · exact hcu
  · exact hwi
  · unfold U32; omega
  · obtain ⟨h0, h1, h2, h3⟩ := hG g hg
    unfold U32 pk; omega
  · exact hD x hx
theorem nm_parts {n m : Int} (hn : 0 ≤ n ∧ n ≤ 65535) (hm : 0 ≤ m ∧ m ≤ 65535) : (n * 65536 + m) / 16777216 % 256 = n / 256 ∧ (n * 65536 + m) / 65536 % 256 = n % 256 ∧ (n * 65536 + m) / 256 % 256 = m / 256 ∧ (n * 65536 + m) % 256 = m % 256 := by
  obtain ⟨k, r, h1, h2, h3⟩ : ∃ k r : Int, n = 256 * k + r ∧ 0 ≤ r ∧ r < 256 := ⟨n / 256, n % 256, by omega, by omega, by omega⟩
  obtain ⟨p, q, h4, h5, h6⟩ : ∃ p q : Int, m = 256 * p + q ∧ 0 ≤ q ∧ q < 256 := ⟨m / 256, m % 256, by omega, by omega, by omega⟩
  subst h1
  subst h4
  have a1 : ((256 * k + r) * 65536 + (256 * p + q)) / 16777216 = k := by omega
  have a2 : ((256 * k + r) * 65536 + (256 * p + q)) / 65536 = 256 * k + r := by omega
  have a3 : ((256 * k + r) * 65536 + (256 * p + q)) / 256 = (256 * k + r) * 256 + p := by omega
  rw [a1, a2, a3]
  refine ⟨?_, ?_, ?_, ?_⟩ <;> omega
section of_make
variable {cu wi : Int} {G : List Gp} {D : List Int} (hcu : U32 cu) (hwi : U32 wi) (hG : ∀ g ∈ G, g.ok) (hD : ∀ x ∈ D, U32 x) (hn : G.length ≤ 65535) (hm : D.length ≤ 65535)
include hcu hwi hG hD hn hm
theorem of_words : sW (sMd cu wi G D) = wds cu wi G D := by
  unfold sW
  rw [smd_words cu wi G D hG hn hm, nums_flat _ (wds_u32 hcu hwi hG hD hn hm)]
theorem of_0 : (sW (sMd cu wi G D)).getD 0 0 = cu := by rw [of_words hcu hwi hG hD hn hm]; rfl
theorem of_1 : (sW (sMd cu wi G D)).getD 1 0 = wi := by rw [of_words hcu hwi hG hD hn hm]; rfl
theorem of_n : sN (sMd cu wi G D) = G.length := by
  unfold sN
  rw [of_words hcu hwi hG hD hn hm]
  have : (wds cu wi G D).getD 2 0 = (G.length : Int) * 65536 + (D.length : Int) := rfl
  rw [this]
  omega
theorem of_gs : sGs (sMd cu wi G D) (sN (sMd cu wi G D)) = G := by
  rw [of_n hcu hwi hG hD hn hm]
  unfold sGs
  rw [of_words hcu hwi hG hD hn hm]
  have : (wds cu wi G D).drop 3 = G.map pk ++ D := rfl
  rw [this, List.take_append_of_le_length (by simp), List.take_of_length_le (by simp), List.map_map]
  conv => rhs; rw [← List.map_id G]
  apply List.map_congr_left
  intro g hg
  obtain ⟨h0, h1, h2, h3⟩ := hG g hg
  have e : ∀ x : Int, IntKind.u16.wrap x = x % 65536 := fun x => rfl
  show sG (pk g) = g
  unfold sG pk
  rw [e, e]
  have a : (g.f0 * 65536 + g.f1) / 65536 % 65536 = g.f0 := by omega
  have b : (g.f0 * 65536 + g.f1) % 65536 = g.f1 := by omega
  rw [a, b]
theorem of_ds : (sW (sMd cu wi G D)).drop (3 + sN (sMd cu wi G D)) = D := by
  rw [of_n hcu hwi hG hD hn hm, of_words hcu hwi hG hD hn hm]
  unfold wds
  rw [List.drop_append_of_le_length (by simp; omega)]
  have : ([cu, wi, (G.length : Int) * 65536 + (D.length : Int)] ++ G.map pk).drop (3 + G.length) = [] := by
    apply List.drop_eq_nil_of_le
    simp
    omega
  rw [this, List.nil_append]
theorem of_le : 3 + sN (sMd cu wi G D) ≤ (sW (sMd cu wi G D)).length := by
  rw [of_n hcu hwi hG hD hn hm, of_words hcu hwi hG hD hn hm]
  unfold wds
  simp
  omega
omit hcu hwi hD in
theorem md_len : (sMd cu wi G D).length = 12 + 4 * (G.length + D.length) := by
  rw [smd_words cu wi G D hG hn hm, flat_b4]
  unfold wds
  simp
  omega
omit hcu hwi hD in
theorem md_byt : Byt (sMd cu wi G D) := by
  rw [smd_words cu wi G D hG hn hm]
  intro y hy
  obtain ⟨x, -, hx⟩ := List.mem_flatMap.1 hy
  unfold b4 at hx
  simp at hx
  rcases hx with rfl | rfl | rfl | rfl <;> omega
omit hcu hwi hD in
theorem md_e3 (h : G.length + D.length ≤ 16379) : E3 0 (sMd cu wi G D) 0 = none := by
  have hl := md_len (cu := cu) (wi := wi) hG hn hm
  have h1 : flagsE 0 0 = none := by kernel_rfl
  have h2 : dataE (kR 3) (sMd cu wi G D).length = none := by
    unfold dataE
    have : fits (kR 3).least (kR 3).most (kR 3).unit ((sMd cu wi G D).length : Int) = true := by
      show (decide (((sMd cu wi G D).length : Int) ≥ 12) && decide (((sMd cu wi G D).length : Int) ≤ 65531) && ((((sMd cu wi G D).length : Int) - 12) % 4 == 0)) = true
      rw [hl]
      simp
      omega
    rw [if_pos this]
  have h3 : kids0E 0 = none := rfl
  have h4 : countE 3 (sMd cu wi G D) = none := by
    unfold countE
    rw [if_pos rfl]
    have : countB (sMd cu wi G D) = false := by
      unfold countB
      have hw := smd_words cu wi G D hG hn hm
      have g := fun j hj => b4_at (wds cu wi G D) 2 j (by unfold wds; simp) hj
      have g0 := g 0 (by omega)
      have g1 := g 1 (by omega)
      have g2 := g 2 (by omega)
      have g3 := g 3 (by omega)
      rw [← hw] at g0 g1 g2 g3
      have e : (wds cu wi G D).getD 2 0 = (G.length : Int) * 65536 + (D.length : Int) := rfl
      rw [e] at g0 g1 g2 g3
      have n8 : numAt (fun t => (sMd cu wi G D).getD t 0) 8 2 = (sMd cu wi G D).getD 8 0 * 256 + (sMd cu wi G D).getD 9 0 := by simp [numAt]
      have n10 : numAt (fun t => (sMd cu wi G D).getD t 0) 10 2 = (sMd cu wi G D).getD 10 0 * 256 + (sMd cu wi G D).getD 11 0 := by simp [numAt]
      rw [n8, n10]
      have f0 : (sMd cu wi G D).getD 8 0 = ((G.length : Int) * 65536 + (D.length : Int)) / 16777216 % 256 := g0
      have f1 : (sMd cu wi G D).getD 9 0 = ((G.length : Int) * 65536 + (D.length : Int)) / 65536 % 256 := g1
      have f2 : (sMd cu wi G D).getD 10 0 = ((G.length : Int) * 65536 + (D.length : Int)) / 256 % 256 := g2
      have f3 : (sMd cu wi G D).getD 11 0 = ((G.length : Int) * 65536 + (D.length : Int)) % 256 := g3
      obtain ⟨e0, e1, e2, e3⟩ := nm_parts (n := (G.length : Int)) (m := (D.length : Int)) (by omega) (by omega)
      rw [f0, f1, f2, f3, hl, e0, e1, e2, e3]
      simp
      omega
    rw [this]
    rfl
  unfold E3 orE
  rw [h1, h2, h3, h4]
  rfl
end of_make
end Sk14
end Go.Proofs.YtcjcgehhmjnlcaaGreatDoor
