/- The walk of SackTells. -/
import Derived.Test.YtcjcgehhmjnlcaaGreatDoorSlb
set_option linter.unusedVariables false
set_option linter.unusedSimpArgs false
namespace Go.Proofs.YtcjcgehhmjnlcaaGreatDoor
open Go.RowKit Go.Shelf Go.Proofs.YtcjcgehhmjnlcaaGreatDoor.It Go.Proofs.YtcjcgehhmjnlcaaGreatDoorW.PrintWords Go.Proofs.YtcjcgehhmjnlcaaGreatDoorW.PrintLast Go.Proofs.YtcjcgehhmjnlcaaGreatDoorW.PrintMore
namespace Sk14
open PSackMatchesReference
theorem tl_step {cum c : Int} {cs : List Int} {i : Nat} (h : i < cs.length) (hc : cs.getD i 0 = c) : tl cum (cs.take (i + 1)) = tl cum (cs.take i) ++ [(cum + 1 + c) % 4294967296] := by
  unfold tl
  rw [List.take_succ_eq_append_getElem h, List.map_append]
  rw [List.getD_eq_getElem?_getD, List.getElem?_eq_getElem h] at hc
  simp at hc
  simp [hc]
theorem mem_step {c x : Int} {cs : List Int} {i : Nat} (h : i < cs.length) (hc : cs.getD i 0 = c) : decide (x ∈ cs.take (i + 1)) = (decide (x ∈ cs.take i) || (c == x)) := by
  rw [List.take_succ_eq_append_getElem h]
  rw [List.getD_eq_getElem?_getD, List.getElem?_eq_getElem h] at hc
  simp at hc
  rw [hc]
  by_cases h1 : x ∈ cs.take i
  · simp [h1]
  · by_cases h2 : c = x
    · simp [h2]
    · have : x ≠ c := fun e => h2 e.symm
      simp [h1, h2, this]
theorem tl_len (cum : Int) (cs : List Int) : (tl cum cs).length = cs.length := by simp [tl]
theorem tl_at {cum : Int} {cs : List Int} {i : Nat} (h : i < cs.length) : (tl cum cs).getD i 0 = (cum + 1 + cs.getD i 0) % 4294967296 := by
  unfold tl
  rw [List.getD_eq_getElem?_getD, List.getElem?_map, List.getD_eq_getElem?_getD, List.getElem?_eq_getElem h]
  rfl
theorem S6.blw {w0 W W' : World} {p0 o0 p : Nat} {v0 v1 v2 v3 v4 : Value} (h : Below w0.heap.size w0 W ∧ W.cell? ⟨p0, o0, none⟩ = some v0 ∧ W.cell? ⟨p, 0, none⟩ = some v1 ∧ W.cell? ⟨p, 1, none⟩ = some v2 ∧ W.cell? ⟨p, 2, none⟩ = some v3 ∧ W.cell? ⟨p, 3, none⟩ = some v4) (hb : Below W.heap.size W W') : Below w0.heap.size w0 W' ∧ W'.cell? ⟨p0, o0, none⟩ = some v0 ∧ W'.cell? ⟨p, 0, none⟩ = some v1 ∧ W'.cell? ⟨p, 1, none⟩ = some v2 ∧ W'.cell? ⟨p, 2, none⟩ = some v3 ∧ W'.cell? ⟨p, 3, none⟩ = some v4 :=
  have k : ∀ {p : Addr} {v : Value}, W.cell? p = some v → W'.cell? p = some v := fun h => (hb.cell (World.block_lt_of_cell? W _ h)).trans h
  ⟨cthen h.1 hb, k h.2.1, k h.2.2.1, k h.2.2.2.1, k h.2.2.2.2.1, k h.2.2.2.2.2⟩
abbrev S8 (w0 : World) (p p' : Nat) (v0 v1 v2 v3 u0 u1 u2 u3 : Value) (W : World) : Prop := Below w0.heap.size w0 W ∧ W.cell? ⟨p, 0, none⟩ = some v0 ∧ W.cell? ⟨p, 1, none⟩ = some v1 ∧ W.cell? ⟨p, 2, none⟩ = some v2 ∧ W.cell? ⟨p, 3, none⟩ = some v3 ∧ W.cell? ⟨p', 0, none⟩ = some u0 ∧ W.cell? ⟨p', 1, none⟩ = some u1 ∧ W.cell? ⟨p', 2, none⟩ = some u2 ∧ W.cell? ⟨p', 3, none⟩ = some u3
theorem S8.blw {w0 W W' : World} {p p' : Nat} {v0 v1 v2 v3 u0 u1 u2 u3 : Value} (h : S8 w0 p p' v0 v1 v2 v3 u0 u1 u2 u3 W) (hb : Below W.heap.size W W') : S8 w0 p p' v0 v1 v2 v3 u0 u1 u2 u3 W' :=
  have k : ∀ {p : Addr} {v : Value}, W.cell? p = some v → W'.cell? p = some v := fun h => (hb.cell (World.block_lt_of_cell? W _ h)).trans h
  ⟨cthen h.1 hb, k h.2.1, k h.2.2.1, k h.2.2.2.1, k h.2.2.2.2.1, k h.2.2.2.2.2.1, k h.2.2.2.2.2.2.1, k h.2.2.2.2.2.2.2.1, k h.2.2.2.2.2.2.2.2⟩
/-- What 'back' gives, for a reader. -/
def Bk3Post (cu wi : Int) (g : Nat) (l : List Gp) (u : Value) (w : World) (e : Ending) (w' : World) : Prop :=
  ∃ A c, e = .returned (.agg #[.int .u32 cu, .int .u32 wi, .slice A g c, u]) ∧ g ≤ c ∧ GpC w' A l ∧ Below w.heap.size w w'
theorem bk3_of {cu wi : Int} {g : Nat} {l : List Gp} {u : Value} {w w' : World} {e : Ending} (hg : l.length = g) (h : Bk2Post cu wi l u w e w') : Bk3Post cu wi g l u w e w' := by
  obtain ⟨A, c, rfl, hG, hb⟩ := h
  obtain ⟨A', c', e', hc, hr, -⟩ := ownG_read hG
  injection e' with e1 e2 e3
  subst e1
  subst e3
  rw [hg] at hc ⊢
  exact ⟨A, c, rfl, hc, hr, hb⟩
theorem field_gaps (a b : Int) (A B : Option Addr) (n m c d : Nat) (w : World) : (Instr.field 44 (.agg #[.int .u32 a, .int .u32 b, .slice A n c, .slice B m d]) 2).run Tryz.prog w = .ok (.slice A n c) w := by kernel_rfl
def T1 (w1 : World) (cum : Int) (cs : List Int) (i : Nat) (v : Value) (W : World) : Prop := Below w1.heap.size w1 W ∧ OwnU W w1.heap.size v (tl cum (cs.take i))
set_option maxRecDepth 100000 in
set_option maxHeartbeats 8000000 in
theorem law9_any (cum x : Int) (A : Option Addr) (c : Nat) (cs : List Int) (w : World) (hcu : 0 ≤ cum ∧ cum < 4294967296) (hx : 0 ≤ x ∧ x ≤ 65535) (hU : Kd.C (Kd.int .u16) w A cs.length cs) (hc : cs.length ≤ c) (hcs : ∀ y ∈ cs, 0 ≤ y ∧ y ≤ 65535) (hl : (cs.length : Int) ≤ 9223372036854775807) (hg : GTab w) :
    Calls Tryz.prog 9 #[.int .u32 cum, .slice A cs.length c, .int .u16 x] w (IsPost (.bool true) w) := by
  have HU := hid hU
  have HG := hid hg
  have HC := hid hc
  have HX := hid hx
  have HCU := hid hcu
  have HCS := hid hcs
  have hA := sawake_any w hg
  obtain ⟨i0, hi0, hz0, hz1, hz2⟩ := info_parts infoU
  clear hU hg hc hx hcu hcs
  go_enter Tryz.func9, Tryz.ntmps9
  go_wp2_with fail
  refine hA.mono ?_
  rintro e w1 ⟨rfl, hb⟩
  have HB1 := hid hb
  clear hA hb
  by_cases hlong : (cs.length : Int) > 100
  · have hA := sawake_any _ (HG.out.below HB1.out)
    go_wp2_with fail
    refine hA.mono ?_
    rintro e w3 ⟨rfl, hb⟩
    have HB3 := hid (cthen HB1.out hb)
    clear hb hA
    go_wp2_with fail
    go_ret
    exact ⟨rfl, HB3.out⟩
  · have HLL := hid (show cs.length ≤ 100 by omega)
    obtain ⟨n, hn⟩ : ∃ n, cs.length = n := ⟨_, rfl⟩
    have HN := hid hn
    rw [hn] at hl hlong ⊢
    have HI0 := hid (show T1 w1 cum cs 0 (.slice none 0 0) w1 from ⟨Below.refl _ _, World.ownsRow_nil _ _ _ _⟩)
    clear hn hl
    go_wp2_with fail
    clear hlong
    go_loopw [7, 8, 9] (fun lv bv iv W => ∃ (i : Nat) (A2 : Option Addr) (c2 : Nat) (bH : Bool), iv = .int .i64 i ∧ i ≤ n ∧ lv = .slice A2 i c2 ∧ bv = .bool bH ∧ Hid (decide (x ∈ cs.take i) = bH) ∧ Hid (T1 w1 cum cs i (.slice A2 i c2) W)) (fun _ _ iv _ => n - (intOf iv).toNat)
    case atStart => exact ⟨0, none, 0, false, rfl, by omega, rfl, rfl, hid (by simp), HI0⟩
    case round =>
      obtain ⟨i, A2, c2, bH, rfl, hi, rfl, rfl, hbH, hI⟩ := hrel
      clear HI0
      by_cases hlt : i < n
      · rcases ints_cells HU.out with h | ⟨b, off, rfl, hblt, hcell⟩
        · have := HN.out; rw [h] at this; exact absurd hlt (by simp at this; omega)
        · have hk := hcell i (by have := HN.out; omega)
          obtain ⟨y, hy⟩ : ∃ y, cs.getD i 0 = y := ⟨_, rfl⟩
          rw [hy] at hk
          have hcellW := hid (fun (W : World) (hW : Below w.heap.size w W) => ((hW.cell (p := ⟨b, off + i, none⟩) hblt).trans hk : W.cell? ⟨b, off + i, none⟩ = some (.int .u16 y)))
          have k0 := hcellW.out wr (cthen HB1.out hI.out.1)
          have HTS := hid (tl_step (cum := cum) (by have := HN.out; omega) hy)
          have HMS := hid (mem_step (x := x) (by have := HN.out; omega) hy)
          have hyb : 0 ≤ y ∧ y ≤ 65535 := HCS.out y (by rw [← hy, List.getD_eq_getElem?_getD, List.getElem?_eq_getElem (by have := HN.out; omega)]; exact List.getElem_mem _)
          obtain ⟨z, hz⟩ : ∃ z, (cum + 1 + y) % 4294967296 = z := ⟨_, rfl⟩
          have hz5 : IntKind.u32.wrap (IntKind.u32.wrap (cum + 1) + y % 4294967296) = z := by show ((cum + 1) % 4294967296 + y % 4294967296) % 4294967296 = z; omega
          have hz6 : ((cum + 1) % 4294967296 + y % 4294967296) % 4294967296 = z := hz5
          have HZ := hid hz
          have HWI := hid (show wrap64 ((i : Int) + 1) = ((i + 1 : Nat) : Int) by have := HLL.out; have := HN.out; unfold wrap64; omega)
          have hms : n - (intOf (.int .i64 (wrap64 ((i : Int) + 1)))).toNat < n - i := by
            rw [HWI.out]
            simp only [intOf, Int.toNat_natCast]
            omega
          have HME := hid hms
          have hlen : (tl cum (cs.take i)).length = i := by rw [tl_len]; have := HN.out; simp; omega
          have HOW : Hid ((wr.alloc (.cells #[.int .u32 z] 23)).ownsRow w1.heap.size 23 1 (.slice A2 i c2) i ((tl cum (cs.take i)).map (Value.int .u32))) := hid (by
            have h9 := hI.out.2
            unfold OwnU at h9
            rw [hlen] at h9
            exact World.ownsRow.alloc h9 _)
          have HSZ := hid (show w1.heap.size ≤ (wr.alloc (.cells #[.int .u32 z] 23)).heap.size by rw [World.size_alloc]; have := hI.out.1.size; omega)
          have HBA := hid (show Below w1.heap.size w1 (wr.alloc (.cells #[.int .u32 z] 23)) from below_alloc hI.out.1 _)
          have HIL := hid (show i ≤ 100 by have := HLL.out; have := HN.out; omega)
          clear hcell hy hz hms hlen hyb hk hblt
          go_upto_region 9 with (at_builtin; go_loud (refine wpList_append_own _ rfl _ _ 42 rfl w1.heap.size 23 i0 _ 1 4 Tryz.underlying42 hi0 hz0 hz1 hz2 rfl (by decide) _ _ _ rfl HOW.out ⟨wr.heap.size, 0, none⟩ 1 1 [.int .u32 z] rfl rfl (cell_one_new _ _ _) (by simp [Value.oneCell']) (by have := HIL.out; unfold maxLen; omega) (by have := HIL.out; omega) HSZ.out ?_; intro v' w9 hown' hgrow _; have HB9 := hid (HBA.out.grown hgrow HSZ.out (fun j hj => (own_base HOW.out j hj).1)); have HR9 := hid hown'; obtain ⟨A9, c9, rfl⟩ := ownsRow_form hown'; clear hown' hgrow))
          have HT9 := hid (show T1 w1 cum cs (i + 1) (.slice A9 (i + 1) c9) w9 from ⟨HB9.out, by
            rw [HTS.out, HZ.out]
            unfold OwnU
            have := HR9.out
            rw [List.length_append, tl_len, List.map_append]
            have hlen : (cs.take i).length = i := by have := HN.out; simp; omega
            rw [hlen]
            exact this⟩)
          have k1 := hcellW.out w9 (cthen HB1.out HB9.out)
          clear k0 hz5 hz6
          cases bH with
          | true =>
            go_wp2_with fail
            refine ⟨⟨i + 1, A9, c9, true, by go_num, hlt, rfl, rfl, hid ?_, HT9⟩, by first | exact HME.out | (simp [intOf]; omega)⟩
            rw [HMS.out, hbH.out, Bool.true_or]
          | false =>
            go_wp2_with fail
            refine ⟨⟨i + 1, A9, c9, (y == x), by go_num, hlt, rfl, rfl, hid ?_, HT9⟩, by first | exact HME.out | (simp [intOf]; omega)⟩
            rw [HMS.out, hbH.out, Bool.false_or]
      · obtain rfl : i = n := by omega
        have hts : tl cum (cs.take i) = tl cum cs := by rw [← HN.out, List.take_length]
        obtain ⟨hIb, hIo⟩ := hI.out
        rw [hts] at hIo
        have HBH : Hid (decide (x ∈ cs) = bH) := hid (by have := hbH.out; rwa [← HN.out, List.take_length] at this)
        clear hbH
        obtain ⟨A2', c2', e2, hc2, hu2⟩ := ownU_read hIo
        injection e2 with e21 e22 e23
        subst e21
        subst e23
        obtain ⟨L, hL⟩ : ∃ L, tl cum cs = L := ⟨_, rfl⟩
        rw [hL] at hc2 hu2
        have HLL2 := hid hL
        have hLn : L.length = i := by rw [← hL, tl_len, HN.out]
        have HLN := hid hLn
        have hBd := build_any cum 7 A2 c2 L wr HCU.out hu2 hc2 (by have := HLL.out; have := HN.out; omega)
        rw [hLn] at hBd
        have HBW := hid (cthen HB1.out hIb)
        have HUL := hid hu2
        have HCL := hid hc2
        clear hts hIb hIo e22 hc2 hu2 hL hLn
        go_wp2_with fail
        refine hBd.mono ?_
        rintro e w2 ⟨m, B, v, u, rfl, hmv, hnr, hG, hUU, hb2⟩
        obtain ⟨Ag, cg, rfl, hcg, hGp, -⟩ := ownG_read hG
        obtain ⟨Au, du, rfl, hdu, huu⟩ := ownU_read hUU
        have HMV := hid hmv
        have HNR := hid hnr
        have HGL := hid (near_len hnr)
        obtain ⟨Gs, hGs⟩ : ∃ G, gOf B = G := ⟨_, rfl⟩
        rw [hGs] at hGp hcg ⊢
        have HGS := hid hGs
        obtain ⟨g, hgn⟩ : ∃ g, Gs.length = g := ⟨_, rfl⟩
        rw [hgn] at hcg ⊢
        have HGN := hid hgn
        obtain ⟨D, hD⟩ : ∃ D, (bFold cum L).2 = D := ⟨_, rfl⟩
        rw [hD] at huu hdu ⊢
        have HDL := hid (show D.length ≤ 100 by have := bFold_len cum L; rw [hD] at this; have := HLN.out; have := HLL.out; have := HN.out; omega)
        obtain ⟨dn, hdn⟩ : ∃ dn, D.length = dn := ⟨_, rfl⟩
        rw [hdn] at hdu ⊢
        obtain ⟨q, hq⟩ : ∃ q, (cum + m) % 4294967296 = q := ⟨_, rfl⟩
        rw [hq]
        have HQ := hid hq
        have HGP := hid hGp
        have HCG := hid hcg
        have HB2 := hid (cthen HBW.out hb2)
        have HUL2 := hid (HUL.out.below hb2)
        clear hBd hmv hnr hG hUU hb2 hq hD hGp hcg huu hdu hGs hgn hdn
        go_upto_region 11 with fail
        obtain ⟨S3, hS3⟩ : ∃ S3, w2.alloc (.cells #[.int .u32 q, .int .u32 7, .slice Ag g cg, .slice Au dn du] 49) = S3 := ⟨_, rfl⟩
        have hbS : Below w2.heap.size w2 S3 := by rw [← hS3]; exact below_alloc (Below.refl _ _) _
        have HBX := hid (show S3.heap[w2.heap.size]? = some (.cells #[.int .u32 q, .int .u32 7, .slice Ag g cg, .slice Au dn du] 49 (0, 0)) by rw [← hS3]; exact blk_new w2 _)
        have HB3 := hid (cthen HB2.out hbS)
        have HGP3 := hid (HGP.out.below hbS)
        have HUL3 := hid (HUL2.out.below hbS)
        rw [hS3]
        clear hS3 hbS
        have HCOV := hid (show ∀ cc ∈ cs, dst ((cum + 1 + cc) % 4294967296) q ≤ 65535 → covV q Gs ((cum + 1 + cc) % 4294967296) = true by
          intro cc hcc hd
          rw [← HQ.out, ← HGS.out]
          exact tells_cover HCS.out (by rw [HLL2.out]; exact HMV.out) (by rw [HLL2.out]; exact HNR.out) hcc (by rw [HQ.out]; exact hd))
        have HCV := hid (fun (W : World) (y : Int) (hW : Below S3.heap.size S3 W) => show Calls Tryz.prog 33 #[.agg #[.int .u32 q, .int .u32 7, .slice Ag g cg, .slice Au dn du], .int .u32 y] W (IsPost (.bool (covV q Gs y)) W) by
          have := covers_any q 7 y Ag Au cg dn du Gs W (HGP3.out.below hW) (by rw [HGN.out]; exact HCG.out) (by have := HGL.out; rw [HGS.out] at this; omega)
          rw [HGN.out] at this
          exact this)
        have HJ0 := hid (Below.refl S3.heap.size S3)
        go_wp2_with fail
        go_loopw [11] (fun iv W => ∃ j : Nat, iv = .int .i64 j ∧ j ≤ i ∧ Hid (Below S3.heap.size S3 W)) (fun iv _ => i - (intOf iv).toNat)
        case atStart => exact ⟨0, rfl, by omega, HJ0⟩
        case round =>
          obtain ⟨j, rfl, hj, hJ⟩ := hrel
          clear HJ0
          obtain ⟨⟨q0, q1, q2, q3⟩, -⟩ := four (blk_below HBX.out hJ.out)
          by_cases hjl : j < i
          · rcases ints_cells HUL3.out with h | ⟨bl, ol, rfl, hblt, hcell⟩
            · have := HLN.out; rw [h] at this; exact absurd hjl (by simp at this; omega)
            · have hk := hcell j (by have := HLN.out; omega)
              obtain ⟨y, hy⟩ : ∃ y, L.getD j 0 = y := ⟨_, rfl⟩
              rw [hy] at hk
              obtain ⟨cc, hcc⟩ : ∃ cc, cs.getD j 0 = cc := ⟨_, rfl⟩
              have hyc : y = (cum + 1 + cc) % 4294967296 := by rw [← hy, ← HLL2.out, tl_at (by have := HN.out; omega), hcc]
              have hccm : cc ∈ cs := by rw [← hcc, List.getD_eq_getElem?_getD, List.getElem?_eq_getElem (by have := HN.out; omega)]; exact List.getElem_mem _
              have k0 := (hJ.out.cell (p := ⟨bl, ol + j, none⟩) hblt).trans hk
              obtain ⟨d, hd⟩ : ∃ d, dst y q = d := ⟨_, rfl⟩
              have hd2 : IntKind.u32.wrap (y - q) = d := hd
              have hd3 : (y - q) % 4294967296 = d := hd
              have hjj : (0 : Int) ≤ (j : Int) := by omega
              have hji : (j : Int) < (i : Int) := by omega
              have HWI := hid (show wrap64 ((j : Int) + 1) = ((j + 1 : Nat) : Int) by have := HLL.out; have := HN.out; unfold wrap64; omega)
              have hms : i - (intOf (.int .i64 (wrap64 ((j : Int) + 1)))).toNat < i - j := by
                rw [HWI.out]
                simp only [intOf, Int.toNat_natCast]
                omega
              have HME := hid hms
              have HYC := hid hyc
              have HCCM := hid hccm
              have HD5 := hid hd
              have hS0 : Below wr.heap.size wr wr.drew ∧ wr.drew.cell? ⟨bl, ol + j, none⟩ = some (.int .u32 y) ∧ wr.drew.cell? ⟨w2.heap.size, 0, none⟩ = some (.int .u32 q) ∧ wr.drew.cell? ⟨w2.heap.size, 1, none⟩ = some (.int .u32 7) ∧ wr.drew.cell? ⟨w2.heap.size, 2, none⟩ = some (.slice Ag g cg) ∧ wr.drew.cell? ⟨w2.heap.size, 3, none⟩ = some (.slice Au dn du) := ⟨below_drew (Below.refl _ _) 1, k0, q0, q1, q2, q3⟩
              clear hcell hk hy hcc hyc hccm hd hms
              by_cases hle : d ≤ 65535
              · have hcv : covV q Gs y = true := by rw [HYC.out]; exact HCOV.out cc HCCM.out (by rw [← HYC.out, HD5.out]; exact hle)
                have HCY := hid (fun (W : World) (hW : Below wr.heap.size wr W) => by have := HCV.out W y (cthen hJ.out hW); rw [hcv] at this; exact this)
                clear hcv k0 q0 q1 q2 q3
                go_wp2_with fail
                go_region_held3 (fun W => Below wr.heap.size wr W ∧ W.cell? ⟨bl, ol + j, none⟩ = some (.int .u32 y) ∧ W.cell? ⟨w2.heap.size, 0, none⟩ = some (.int .u32 q) ∧ W.cell? ⟨w2.heap.size, 1, none⟩ = some (.int .u32 7) ∧ W.cell? ⟨w2.heap.size, 2, none⟩ = some (.slice Ag g cg) ∧ W.cell? ⟨w2.heap.size, 3, none⟩ = some (.slice Au dn du))
                  (first | with_reducible assumption | (refine S6.blw ?_ (by with_reducible assumption); with_reducible assumption))
                  (first
                    | (go_at_call 33; refine Calls.mono (HCY.out _ (And.left (by with_reducible assumption))) ?_; rintro e W ⟨rfl, hb⟩))
                all_goals
                  have HBZ := hid (cthen hJ.out (show Below wr.heap.size wr W from And.left (by with_reducible assumption)))
                  go_wp2_with fail
                  refine ⟨⟨j + 1, by go_num, hjl, HBZ⟩, by first | exact HME.out | (simp [intOf]; omega)⟩
              · clear k0 q0 q1 q2 q3
                have hdf : (d ≤ 65535) = False := by simpa using hle
                clear hle
                go_wp2_with fail
                -- region 14, not wanted --
                refine start_ (n := 17) (S := fun w' => Below wr.heap.size wr w' ∧ w'.cell? ⟨bl, ol + j, none⟩ = some (.int .u32 y) ∧ w'.cell? ⟨w2.heap.size, 0, none⟩ = some (.int .u32 q) ∧ w'.cell? ⟨w2.heap.size, 1, none⟩ = some (.int .u32 7) ∧ w'.cell? ⟨w2.heap.size, 2, none⟩ = some (.slice Ag g cg) ∧ w'.cell? ⟨w2.heap.size, 3, none⟩ = some (.slice Au dn du)) (ds := []) #[false, false, false, false, false, false, false, false, false, false, false, false, false, false, false, false, false] (by kernel_rfl) rfl rfl hS0 (fun hHeld => ?_)
                generalize wr.drew = w44 at hS0 hHeld ⊢
                refine pure_ (i := 0) (N := some 58) (v := ?_) (a' := ?_) #[true, false, false, false, false, false, false, false, false, false, false, false, false, false, false, false, false] rfl rfl (by kernel_rfl) (fun _ _ _ h => h) (Or.inl ⟨by rfl, ?_⟩) ?_ ?_
                rotate_left
                · intro w'
                  go_simp
                  with_reducible rfl
                rotate_left
                · simp only [Act.put, List.setIfInBounds_toArray, List.set_cons_zero, List.set_cons_succ, i64_w, i32_w]
                  rfl
                refine pure_ (i := 1) (N := some 59) (v := ?_) (a' := ?_) #[true, true, false, false, false, false, false, false, false, false, false, false, false, false, false, false, false] rfl rfl (by kernel_rfl) (fun _ _ _ h => h) (Or.inl ⟨by rfl, ?_⟩) ?_ ?_
                rotate_left
                · intro w'
                  go_simp
                  with_reducible rfl
                rotate_left
                · simp only [Act.put, List.setIfInBounds_toArray, List.set_cons_zero, List.set_cons_succ, i64_w, i32_w]
                  rfl
                refine pure_ (i := 2) (N := some 60) (v := ?_) (a' := ?_) #[true, true, true, false, false, false, false, false, false, false, false, false, false, false, false, false, false] rfl rfl (by kernel_rfl) (fun _ _ _ h => h) (Or.inl ⟨by rfl, ?_⟩) ?_ ?_
                rotate_left
                · intro w'
                  go_simp
                  with_reducible rfl
                rotate_left
                · simp only [Act.put, List.setIfInBounds_toArray, List.set_cons_zero, List.set_cons_succ, i64_w, i32_w]
                  rfl
                refine pure_ (i := 4) (N := some 62) (v := ?_) (a' := ?_) #[true, true, true, false, true, false, false, false, false, false, false, false, false, false, false, false, false] rfl rfl (by kernel_rfl) (fun _ _ _ h => h) (Or.inl ⟨by rfl, ?_⟩) ?_ ?_
                rotate_left
                · intro w'
                  go_simp
                  with_reducible rfl
                rotate_left
                · simp only [Act.put, List.setIfInBounds_toArray, List.set_cons_zero, List.set_cons_succ, i64_w, i32_w]
                  rfl
                refine take_ (i := 3) (N := some 61) (v := ?_) (a' := ?_) #[true, true, true, true, true, false, false, false, false, false, false, false, false, false, false, false, false] rfl rfl (by kernel_rfl) (fun _ _ _ h => h) (Or.inl ⟨by rfl, ?_⟩) hHeld ?_ ?_
                rotate_left
                · rintro w' ⟨q0, q1, q2, q3, q4, q5⟩
                  go_simp
                  with_reducible rfl
                rotate_left
                · simp only [Act.put, List.setIfInBounds_toArray, List.set_cons_zero, List.set_cons_succ, i64_w, i32_w]
                  rfl
                refine take_ (i := 5) (N := some 63) (v := ?_) (a' := ?_) #[true, true, true, true, true, true, false, false, false, false, false, false, false, false, false, false, false] rfl rfl (by kernel_rfl) (fun _ _ _ h => h) (Or.inl ⟨by rfl, ?_⟩) hHeld ?_ ?_
                rotate_left
                · rintro w' ⟨q0, q1, q2, q3, q4, q5⟩
                  go_simp
                  with_reducible rfl
                rotate_left
                · simp only [Act.put, List.setIfInBounds_toArray, List.set_cons_zero, List.set_cons_succ, i64_w, i32_w]
                  rfl
                refine pure_ (i := 6) (N := some 64) (v := ?_) (a' := ?_) #[true, true, true, true, true, true, true, false, false, false, false, false, false, false, false, false, false] rfl rfl (by kernel_rfl) (fun _ _ _ h => h) (Or.inl ⟨by rfl, ?_⟩) ?_ ?_
                rotate_left
                · intro w'
                  go_simp
                  with_reducible rfl
                rotate_left
                · simp only [Act.put, List.setIfInBounds_toArray, List.set_cons_zero, List.set_cons_succ, i64_w, i32_w]
                  rfl
                refine pure_ (i := 7) (N := some 65) (v := ?_) (a' := ?_) #[true, true, true, true, true, true, true, true, false, false, false, false, false, false, false, false, false] rfl rfl (by kernel_rfl) (fun _ _ _ h => h) (Or.inl ⟨by rfl, ?_⟩) ?_ ?_
                rotate_left
                · intro w'
                  go_simp
                  with_reducible rfl
                rotate_left
                · simp only [Act.put, List.setIfInBounds_toArray, List.set_cons_zero, List.set_cons_succ, i64_w, i32_w]
                  rfl
                refine pure_ (i := 8) (N := some 66) (v := ?_) (a' := ?_) #[true, true, true, true, true, true, true, true, true, false, false, false, false, false, false, false, false] rfl rfl (by kernel_rfl) (fun _ _ _ h => h) (Or.inl ⟨by rfl, ?_⟩) ?_ ?_
                rotate_left
                · intro w'
                  go_simp
                  with_reducible rfl
                rotate_left
                · simp only [Act.put, List.setIfInBounds_toArray, List.set_cons_zero, List.set_cons_succ, i64_w, i32_w]
                  rfl
                refine pure_ (i := 10) (N := some 68) (v := undef) (a' := ?_) #[true, true, true, true, true, true, true, true, true, false, true, false, false, false, false, false, false] rfl rfl (by kernel_rfl) (fun _ _ _ h => h) (Or.inr ⟨by rfl, rfl⟩) ?_ ?_
                rotate_left
                · simp only [Act.put, List.setIfInBounds_toArray, List.set_cons_zero, List.set_cons_succ, i64_w, i32_w]
                  rfl
                refine pure_ (i := 11) (N := some 69) (v := undef) (a' := ?_) #[true, true, true, true, true, true, true, true, true, false, true, true, false, false, false, false, false] rfl rfl (by kernel_rfl) (fun _ _ _ h => h) (Or.inr ⟨by rfl, rfl⟩) ?_ ?_
                rotate_left
                · simp only [Act.put, List.setIfInBounds_toArray, List.set_cons_zero, List.set_cons_succ, i64_w, i32_w]
                  rfl
                refine pure_ (i := 12) (N := some 70) (v := undef) (a' := ?_) #[true, true, true, true, true, true, true, true, true, false, true, true, true, false, false, false, false] rfl rfl (by kernel_rfl) (fun _ _ _ h => h) (Or.inr ⟨by rfl, rfl⟩) ?_ ?_
                rotate_left
                · simp only [Act.put, List.setIfInBounds_toArray, List.set_cons_zero, List.set_cons_succ, i64_w, i32_w]
                  rfl
                refine pure_ (i := 9) (N := some 67) (v := undef) (a' := ?_) #[true, true, true, true, true, true, true, true, true, true, true, true, true, false, false, false, false] rfl rfl (by kernel_rfl) (fun _ _ _ h => h) (Or.inr ⟨by rfl, rfl⟩) ?_ ?_
                rotate_left
                · simp only [Act.put, List.setIfInBounds_toArray, List.set_cons_zero, List.set_cons_succ, i64_w, i32_w]
                  rfl
                refine pure_ (i := 13) (N := some 71) (v := undef) (a' := ?_) #[true, true, true, true, true, true, true, true, true, true, true, true, true, true, false, false, false] rfl rfl (by kernel_rfl) (fun _ _ _ h => h) (Or.inr ⟨by rfl, rfl⟩) ?_ ?_
                rotate_left
                · simp only [Act.put, List.setIfInBounds_toArray, List.set_cons_zero, List.set_cons_succ, i64_w, i32_w]
                  rfl
                refine pure_ (i := 14) (N := some 72) (v := undef) (a' := ?_) #[true, true, true, true, true, true, true, true, true, true, true, true, true, true, true, false, false] rfl rfl (by kernel_rfl) (fun _ _ _ h => h) (Or.inr ⟨by rfl, rfl⟩) ?_ ?_
                rotate_left
                · simp only [Act.put, List.setIfInBounds_toArray, List.set_cons_zero, List.set_cons_succ, i64_w, i32_w]
                  rfl
                refine pure_ (i := 15) (N := some 73) (v := undef) (a' := ?_) #[true, true, true, true, true, true, true, true, true, true, true, true, true, true, true, true, false] rfl rfl (by kernel_rfl) (fun _ _ _ h => h) (Or.inr ⟨by rfl, rfl⟩) ?_ ?_
                rotate_left
                · simp only [Act.put, List.setIfInBounds_toArray, List.set_cons_zero, List.set_cons_succ, i64_w, i32_w]
                  rfl
                refine pure_ (i := 16) (N := some 74) (v := ?_) (a' := ?_) #[true, true, true, true, true, true, true, true, true, true, true, true, true, true, true, true, true] rfl rfl (by kernel_rfl) (fun _ _ _ h => h) (Or.inl ⟨by rfl, ?_⟩) ?_ ?_
                rotate_left
                · intro w'
                  go_simp
                  with_reducible rfl
                rotate_left
                · simp only [Act.put, List.setIfInBounds_toArray, List.set_cons_zero, List.set_cons_succ, i64_w, i32_w]
                  rfl
                refine done_ (by kernel_rfl) ?_
                have HBZ := hid (cthen hJ.out hHeld.1)
                clear hHeld hS0
                go_wp2_with fail
                refine ⟨⟨j + 1, by go_num, hjl, HBZ⟩, by first | exact HME.out | (simp [intOf]; omega)⟩
                -- end of region 14 --
          · obtain rfl : j = i := by omega
            have hmb : 0 ≤ m ∧ m ≤ 65536 := tl_mv HCS.out (by rw [HLL2.out]; exact HMV.out)
            obtain ⟨z, hz⟩ : ∃ z, (cum + 1 + x) % 4294967296 = z := ⟨_, rfl⟩
            have hz5 : IntKind.u32.wrap (IntKind.u32.wrap (cum + 1) + x % 4294967296) = z := by have := HX.out; show ((cum + 1) % 4294967296 + x % 4294967296) % 4294967296 = z; omega
            have hz6 : ((cum + 1) % 4294967296 + x % 4294967296) % 4294967296 = z := hz5
            have hm5 : IntKind.u32.wrap (q - cum) = m := by have := HQ.out; have := HCU.out; show (q - cum) % 4294967296 = m; omega
            have hm6 : (q - cum) % 4294967296 = m := hm5
            have hx5 : IntKind.u32.wrap (x % 4294967296 + 1) = x + 1 := by have := HX.out; show (x % 4294967296 + 1) % 4294967296 = x + 1; omega
            have hx6 : (x % 4294967296 + 1) % 4294967296 = x + 1 := hx5
            obtain ⟨d, hd⟩ : ∃ d, dst z q = d := ⟨_, rfl⟩
            have hd2 : IntKind.u32.wrap (z - q) = d := hd
            have hd3 : (z - q) % 4294967296 = d := hd
            have HON := hid (show x + 1 > m → covV q Gs z = (bH && decide (d ≤ 65535)) by
              intro h
              rw [← hd, ← hz, ← HQ.out, ← HGS.out, ← HBH.out]
              exact tells_only HCS.out (by rw [HLL2.out]; exact HMV.out) (by rw [HLL2.out]; exact HNR.out) HX.out h)
            have HMB := hid hmb
            have HZ6 := hid hz6
            clear hz hd hmb
            go_upto_region 18 with fail
            go_cut [12, 79, 102] from 84 to 101 (fun v12 v79 v W => v12 = .int .u32 z ∧ v79 = .int .u32 z ∧ v = .bool false ∧ Hid (Below wr.heap.size wr W))
            case first =>
              by_cases hgt : x + 1 > m
              · have hcv := HCV.out wr z hJ.out
                rw [HON.out hgt] at hcv
                go_wp2_with fail
                refine hcv.mono ?_
                rintro e W ⟨rfl, hb⟩
                have HBW2 := hid hb
                obtain ⟨⟨q0, q1, q2, q3⟩, -⟩ := four (blk_below (blk_below HBX.out hJ.out) hb)
                clear hb hcv
                cases bH with
                | true =>
                  by_cases hdd : d ≤ 65535
                  · have e : (true && decide (d ≤ 65535)) = true := by simp [hdd]
                    rw [e]
                    go_wp2_with fail
                    go_meet
                    exact ⟨by first | rfl | rw [HZ6.out], by first | rfl | rw [HZ6.out], rfl, HBW2⟩
                  · have e : (true && decide (d ≤ 65535)) = false := by simp [hdd]
                    rw [e]
                    go_wp2_with fail
                    go_meet
                    exact ⟨by first | rfl | rw [HZ6.out], by first | rfl | rw [HZ6.out], rfl, HBW2⟩
                | false =>
                  rw [Bool.false_and]
                  go_wp2_with fail
                  go_meet
                  exact ⟨by first | rfl | rw [HZ6.out], by first | rfl | rw [HZ6.out], rfl, HBW2⟩
              · go_wp2_with fail
                go_meet
                exact ⟨by first | rfl | rw [HZ6.out], by first | rfl | rw [HZ6.out], rfl, hid (Below.refl _ _)⟩
            case rest =>
              obtain ⟨rfl, rfl, rfl, hWW⟩ := hcut
              have HJ2 := hid (cthen hJ.out hWW.out)
              have hq0 : 0 ≤ q ∧ q < 4294967296 := by have := HQ.out; omega
              have hBd2 := build_any q 7 A2 c2 L wc hq0 (HUL3.out.below HJ2.out) HCL.out (by have := HLN.out; have := HLL.out; have := HN.out; omega)
              rw [HLN.out] at hBd2
              obtain ⟨⟨q0, q1, q2, q3⟩, -⟩ := four (blk_below HBX.out HJ2.out)
              clear hz5 hz6 hm5 hm6 hx5 hx6 hd2 hd3 hWW
              go_wp2_with fail
              refine hBd2.mono ?_
              rintro e w4 ⟨m', B', v', u', rfl, hmv', hnr', hG', hUU', hb4⟩
              obtain ⟨hm0, hBB⟩ := tells_again (m' := m') (A' := B') HCS.out (by rw [HLL2.out]; exact HMV.out) (by rw [HLL2.out]; exact HNR.out) (by rw [HLL2.out, HQ.out]; exact hmv') (by rw [HLL2.out, HQ.out]; exact hnr')
              subst hm0
              subst hBB
              rw [HGS.out] at hG'
              obtain ⟨At, ct, rfl, hct, hGt, -⟩ := ownG_read hG'
              obtain ⟨Bt, dt, rfl, hdt, huT⟩ := ownU_read hUU'
              obtain ⟨Dt, hDt⟩ : ∃ D, (bFold q L).2 = D := ⟨_, rfl⟩
              rw [hDt] at huT hdt ⊢
              have HDTL := hid (show Dt.length ≤ 100 by have := bFold_len q L; rw [hDt] at this; have := HLN.out; have := HLL.out; have := HN.out; omega)
              obtain ⟨tn, htn⟩ : ∃ tn, Dt.length = tn := ⟨_, rfl⟩
              rw [htn] at hdt ⊢
              rw [HGN.out] at hct ⊢
              have hqq : (q + 0) % 4294967296 = q := by omega
              rw [hqq]
              have HTN := hid htn
              have HGT := hid hGt
              have HUT := hid huT
              have HCT := hid hct
              have HDT := hid hdt
              have HJ4 := hid (cthen HJ2.out hb4)
              have HBX4 := hid (blk_below (blk_below HBX.out HJ2.out) hb4)
              clear hBd2 hmv' hnr' hG' hUU' hGt huT hct hdt hDt htn hqq hb4 q0 q1 q2 q3 hq0
              go_upto_region 21 with fail
              obtain ⟨S5, hS5⟩ : ∃ S5, w4.alloc (.cells #[.int .u32 q, .int .u32 7, .slice At g ct, .slice Bt tn dt] 49) = S5 := ⟨_, rfl⟩
              have hbS : Below w4.heap.size w4 S5 := by rw [← hS5]; exact below_alloc (Below.refl _ _) _
              have HTX := hid (show S5.heap[w4.heap.size]? = some (.cells #[.int .u32 q, .int .u32 7, .slice At g ct, .slice Bt tn dt] 49 (0, 0)) by rw [← hS5]; exact blk_new w4 _)
              have HSX := hid (blk_below HBX4.out hbS)
              have HJ5 := hid (cthen HJ4.out hbS)
              have HGT5 := hid (HGT.out.below hbS)
              have HUT5 := hid (HUT.out.below hbS)
              have HGS5 := hid (HGP3.out.below HJ5.out)
              rw [hS5]
              clear hS5 hbS
              obtain ⟨⟨p0, p1, p2, p3⟩, -⟩ := four HSX.out
              obtain ⟨⟨t0, t1, t2, t3⟩, -⟩ := four HTX.out
              have hS0 : S8 S5 w4.heap.size w2.heap.size (.int .u32 q) (.int .u32 7) (.slice At g ct) (.slice Bt tn dt) (.int .u32 q) (.int .u32 7) (.slice Ag g cg) (.slice Au dn du) S5.drew := ⟨below_drew (Below.refl _ _) 1, t0, t1, t2, t3, p0, p1, p2, p3⟩
              unfold S8 at hS0
              have HBT := hid (fun (W : World) (hW : Below S5.heap.size S5 W) => show Calls Tryz.prog 27 #[.agg #[.int .u32 q, .int .u32 7, .slice At g ct, .slice Bt tn dt]] W (Bk3Post q 7 g Gs (.slice Bt tn dt) W) by
                have := sbk_any q 7 At Bt ct tn dt Gs W (HGT5.out.below hW) (by have := HGL.out; rw [HGS.out] at this; omega)
                rw [HGN.out] at this
                exact this.mono (fun e w' h => bk3_of HGN.out h))
              have HBS := hid (fun (W : World) (hW : Below S5.heap.size S5 W) => show Calls Tryz.prog 27 #[.agg #[.int .u32 q, .int .u32 7, .slice Ag g cg, .slice Au dn du]] W (Bk3Post q 7 g Gs (.slice Au dn du) W) by
                have := sbk_any q 7 Ag Au cg dn du Gs W (HGS5.out.below hW) (by have := HGL.out; rw [HGS.out] at this; omega)
                rw [HGN.out] at this
                exact this.mono (fun e w' h => bk3_of HGN.out h))
              have HNL := hid (show g ≤ 1000000 by have := HGL.out; rw [HGS.out, HGN.out] at this; omega)
              have hfg := field_gaps
              clear p0 p1 p2 p3 t0 t1 t2 t3
              go_wp2_with fail
              go_region_held3 (fun W => Below S5.heap.size S5 W ∧ W.cell? ⟨w4.heap.size, 0, none⟩ = some (.int .u32 q) ∧ W.cell? ⟨w4.heap.size, 1, none⟩ = some (.int .u32 7) ∧ W.cell? ⟨w4.heap.size, 2, none⟩ = some (.slice At g ct) ∧ W.cell? ⟨w4.heap.size, 3, none⟩ = some (.slice Bt tn dt) ∧ W.cell? ⟨w2.heap.size, 0, none⟩ = some (.int .u32 q) ∧ W.cell? ⟨w2.heap.size, 1, none⟩ = some (.int .u32 7) ∧ W.cell? ⟨w2.heap.size, 2, none⟩ = some (.slice Ag g cg) ∧ W.cell? ⟨w2.heap.size, 3, none⟩ = some (.slice Au dn du))
                (first | with_reducible assumption | (refine S8.blw ?_ (by with_reducible assumption); with_reducible assumption))
                (first
                  | (go_at_call 27; (with_reducible show Calls _ _ #[Value.agg #[_, _, Value.slice At _ _, _]] _ _); refine Calls.mono (HBT.out _ (And.left (by with_reducible assumption))) ?_; rintro e W ⟨A8, c8, rfl, hc8, hg8, hb⟩)
                  | (go_at_call 27; (with_reducible show Calls _ _ #[Value.agg #[_, _, Value.slice Ag _ _, _]] _ _); refine Calls.mono (HBS.out _ (And.left (by with_reducible assumption))) ?_; rintro e W ⟨A9, c9, rfl, hc9, hg9, hb⟩)
                  | (go_at_call 26; refine Calls.mono (rsame_any q 7 A8 A9 Bt Bt c8 c9 dt dt g tn Gs Dt _ HGN.out HTN.out (by with_reducible (first | exact hg8 | exact GpC.below hg8 (by assumption))) (by with_reducible exact hg9) (HUT5.out.below (And.left (by with_reducible assumption))) (HUT5.out.below (And.left (by with_reducible assumption))) HNL.out (by have := HDTL.out; have := HTN.out; omega)) ?_; rintro e W ⟨rfl, hb⟩))
              all_goals
                have HBF := hid (cthen (cthen (cthen HB3.out HJ5.out) (show Below S5.heap.size S5 W from And.left (by with_reducible assumption))) (Below.refl _ _))
                go_wp2_with fail
                go_ret
                exact ⟨rfl, HBF.out⟩
end Sk14
end Go.Proofs.YtcjcgehhmjnlcaaGreatDoor
