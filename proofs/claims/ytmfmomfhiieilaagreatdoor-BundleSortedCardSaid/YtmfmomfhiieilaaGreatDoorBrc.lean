/- 'wharfref08.Check' and 'wharfref08.All' give the package's codes. -/
import Derived.Test.YtmfmomfhiieilaaGreatDoorBrq
import Derived.Test.YtmfmomfhiieilaaGreatDoorBrz
set_option linter.unusedVariables false
set_option linter.unusedSimpArgs false
namespace Go.Proofs.YtmfmomfhiieilaaGreatDoor
open Go.RowKit Go.Shelf Go.Proofs.YtmfmomfhiieilaaGreatDoor.It Go.Proofs.YtmfmomfhiieilaaGreatDoorW.PrintWords Go.Proofs.YtmfmomfhiieilaaGreatDoorW.PrintLast Go.Proofs.YtmfmomfhiieilaaGreatDoorW.PrintMore
namespace Bn
open PBundleSorted
theorem fRows_kids : ∀ r ∈ Sh.fRows1 ++ Sh.fRows2, 0 ≤ r.kids ∧ r.kids ≤ 4 := by decide
theorem fAt_mem (c t : Int) : (Sh.fAt c t = (0, Sh.fZ) ∧ Sh.fHas c t = false) ∨ ((Sh.fAt c t).1 = c ∧ (c = 1 ∨ c = 2) ∧ (Sh.fAt c t).2 ∈ Sh.fRows1 ++ Sh.fRows2 ∧ (Sh.fAt c t).2.ty = t ∧ Sh.fHas c t = true) := by
  unfold Sh.fAt Sh.fHas
  cases hf : Sh.fFindIn (Sh.fRowsOf c) t with
  | none =>
    refine Or.inl ⟨rfl, ?_⟩
    unfold Sh.fFindIn at hf
    rw [List.find?_eq_none] at hf
    rw [List.any_eq_false]
    intro r hr
    exact hf r (List.mem_reverse.2 hr)
  | some r =>
    have hm : r ∈ Sh.fRowsOf c := List.mem_reverse.1 (List.mem_of_find?_eq_some hf)
    have ht := List.find?_some hf
    have hc : (c = 1 ∨ c = 2) ∧ r ∈ Sh.fRows1 ++ Sh.fRows2 := by
      unfold Sh.fRowsOf at hm
      split at hm
      · exact ⟨Or.inl ‹_›, List.mem_append_left _ hm⟩
      · split at hm
        · exact ⟨Or.inr ‹_›, List.mem_append_right _ hm⟩
        · cases hm
    exact Or.inr ⟨rfl, hc.1, hc.2, by simpa using ht, List.any_eq_true.2 ⟨r, hm, ht⟩⟩
theorem fAt_class (c t : Int) : ((Sh.fAt c t).1 == 0) = !Sh.fHas c t ∧ decide ((Sh.fAt c t).1 > 0) = Sh.fHas c t := by
  rcases fAt_mem c t with ⟨h, h2⟩ | ⟨h, h2, -, -, h3⟩
  · rw [h, h2]; exact ⟨rfl, rfl⟩
  · rw [h, h3]
    rcases h2 with rfl | rfl <;> exact ⟨rfl, rfl⟩
theorem fAt_kids (c t : Int) : 0 ≤ (Sh.fAt c t).2.kids ∧ (Sh.fAt c t).2.kids ≤ 4 := by
  rcases fAt_mem c t with ⟨h, -⟩ | ⟨-, -, h, -, -⟩
  · rw [h]; decide
  · exact fRows_kids _ h
theorem fRows_least : ∀ r ∈ Sh.fRows1 ++ Sh.fRows2, r.least ≤ 65539 := by decide
theorem miss_row : Sh.fAt 2 2 = (2, ⟨2, ⟨#[109, 105, 115, 115, 105, 110, 103, 45, 112, 97, 114, 97, 109, 101, 116, 101, 114]⟩, 6, 65531, 2, 0⟩) := by kernel_rfl
/-- The number of a missing-parameter cause, as the reference implementation looks at it. -/
theorem cnt_same {c t : Int} {D : List Int} (h1 : c = 2) (h2 : t = 2) (hf : fits (Sh.fAt c t).2.least (Sh.fAt c t).2.most (Sh.fAt c t).2.unit D.length = true) : 4 ≤ D.length ∧ (cntB c t D = !(2 * peekV 4 D 0 == (D.length : Int) - 4)) := by
  subst h1
  subst h2
  rw [miss_row] at hf
  unfold fits at hf
  simp only [Bool.and_eq_true, decide_eq_true_eq, beq_iff_eq] at hf
  refine ⟨by omega, ?_⟩
  unfold cntB
  rw [decide_eq_false (show ¬ D.length < 4 by omega), Int.tdiv_eq_ediv_of_nonneg (by omega), Bool.eq_iff_iff]
  simp
  omega
theorem cnt_not {c t : Int} {D : List Int} (h : (c == 2) = false ∨ (t == 2) = false) : cntB c t D = false := by
  unfold cntB
  rcases h with h | h <;> rw [h] <;> simp
theorem nc6_blw {w0 W W' : World} {p q b o1 o2 o3 : Nat} {v0 v1 v2 v3 v4 : Value} (h : Below w0.heap.size w0 W ∧ W.cell? ⟨p, 6, none⟩ = some v0 ∧ W.cell? ⟨q, 2, none⟩ = some v1 ∧ W.cell? ⟨b, o1, none⟩ = some v2 ∧ W.cell? ⟨b, o2, none⟩ = some v3 ∧ W.cell? ⟨b, o3, none⟩ = some v4) (hb : Below W.heap.size W W') : Below w0.heap.size w0 W' ∧ W'.cell? ⟨p, 6, none⟩ = some v0 ∧ W'.cell? ⟨q, 2, none⟩ = some v1 ∧ W'.cell? ⟨b, o1, none⟩ = some v2 ∧ W'.cell? ⟨b, o2, none⟩ = some v3 ∧ W'.cell? ⟨b, o3, none⟩ = some v4 :=
  ⟨cthen h.1 hb, pw_cell_below hb h.2.1, pw_cell_below hb h.2.2.1, pw_cell_below hb h.2.2.2.1, pw_cell_below hb h.2.2.2.2.1, pw_cell_below hb h.2.2.2.2.2⟩
/-- The contract of 'wharfref08.Check' at a depth. -/
def RcC (k : Nat) : Prop := ∀ (c : Int) (x : Nd) (A1 K : Option Addr) (m1 d1 m2 d2 : Nat) (w : World), x.f1.length = m1 → x.f2.length = m2 → cnt x ≤ 1000 → okN x → BC w A1 x.f1 → m1 ≤ d1 → Kd.C k87 w K m2 x.f2 → m2 ≤ d2 →
  Calls Tryz.prog 93 #[.int .i64 c, .agg #[.int .u16 x.f0, .slice A1 m1 d1, .slice K m2 d2], .int .i64 (5 - (k : Int))] w (IsPost (.int .i64 (pchk k c x)) w)
set_option maxRecDepth 100000 in
set_option maxHeartbeats 1000000 in
theorem rcheck_zero : RcC 0 := by
  intro c x A1 K m1 d1 m2 d2 w _ _ _ _ _ _ _ _
  have hd : (5 : Int) - ((0 : Nat) : Int) > 4 := by omega
  obtain ⟨D, hD⟩ : ∃ D, (5 : Int) - ((0 : Nat) : Int) = D := ⟨_, rfl⟩
  rw [hD] at hd ⊢
  clear hD
  go_enter Tryz.func93, Tryz.ntmps93
  go_wp2_with fail
  go_ret
  exact ⟨rfl, below_alloc (Below.refl _ _) _⟩
set_option maxRecDepth 100000 in
set_option maxHeartbeats 2000000 in
theorem rcheck_step (k : Nat) (hk : k ≤ 4) (ih : RcC k) : RcC (k + 1) := by
  intro c x A1 K m1 d1 m2 d2 w hm1 hm2 hcn hok g1 l1 g2 l2
  obtain ⟨⟨ht0, ht1⟩, hby, hokl⟩ := (okN_eq x).1 hok
  have B0 := hid (below_alloc (Below.refl w.heap.size w) (.cells #[.int .u16 x.f0, .slice A1 m1 d1, .slice K m2 d2] 87))
  have N0 := hid (blk_new w (.cells #[.int .u16 x.f0, .slice A1 m1 d1, .slice K m2 d2] 87))
  obtain ⟨⟨x0, x1, x2⟩, -⟩ := three N0.out
  have hof := Sh.rfof_any c x.f0 (w.alloc (.cells #[.int .u16 x.f0, .slice A1 m1 d1, .slice K m2 d2] 87))
  have hd : ¬ ((5 : Int) - ((k + 1 : Nat) : Int) > 4) := by omega
  have hd1 : wrap64 ((5 : Int) - ((k + 1 : Nat) : Int) + 1) = 5 - (k : Int) := by unfold wrap64; omega
  obtain ⟨D, hD⟩ : ∃ D, (5 : Int) - ((k + 1 : Nat) : Int) = D := ⟨_, rfl⟩
  rw [hD] at hd hd1 ⊢
  have HD1 := hid hd1
  clear hD hd1
  have HM1 := hid hm1
  have HM2 := hid hm2
  have HCN := hid hcn
  have HBY := hid hby
  have HOKL := hid hokl
  have G1 := hid g1
  have G2 := hid g2
  have L1 := hid l1
  have L2 := hid l2
  have HIH := hid ih
  clear hm1 hm2 hcn hok hby hokl g1 g2 l1 l2 ih ht0 ht1
  unfold Sh.RFPost at hof
  go_enter Tryz.func93, Tryz.ntmps93
  go_wp2_with fail
  refine hof.mono ?_
  rintro e w1 ⟨fk, fr, hfk, rfl, hb⟩
  have B1 := hid (cthen B0.out hb)
  have N1 := hid (blk_below N0.out hb)
  rw [Sh.rAt_eq] at hfk
  have HFK := hid hfk
  have hcl := fAt_class c x.f0
  have hkd := fAt_kids c x.f0
  rw [← hfk] at hcl hkd
  have HKD := hid hkd
  clear hb hof hfk x0 x1 x2 B0 N0 hkd
  obtain ⟨⟨x0, x1, x2⟩, -⟩ := three N1.out
  go_upto_region 4 with fail
  obtain ⟨W4, hW4⟩ : ∃ W4, w1.alloc (.cells #[.int .i64 fk, .int .u16 fr.ty, .string fr.nm, .int .i64 fr.least, .int .i64 fr.most, .int .i64 fr.unit, .int .i64 fr.kids] 180) = W4 := ⟨_, rfl⟩
  have hbS : Below w1.heap.size w1 W4 := by rw [← hW4]; exact below_alloc (Below.refl _ _) _
  have Bc := hid (cthen B1.out hbS)
  have Nc := hid (blk_below N1.out hbS)
  have Fc := hid (show W4.heap[w1.heap.size]? = some (.cells #[.int .i64 fk, .int .u16 fr.ty, .string fr.nm, .int .i64 fr.least, .int .i64 fr.most, .int .i64 fr.unit, .int .i64 fr.kids] 180 (0, 0)) by rw [← hW4]; exact blk_new w1 _)
  rw [hW4]
  clear hW4 hbS B1 N1 x0 x1 x2
  obtain ⟨⟨x0, x1, x2⟩, -⟩ := three Nc.out
  obtain ⟨⟨y0, y1, y2, y3, y4, y5, y6⟩, -⟩ := seven Fc.out
  have HFR := hid (show (Sh.fAt c x.f0).2 = fr by rw [← HFK.out])
  obtain ⟨fb, hfb⟩ : ∃ fb, Sh.fHas c x.f0 = fb := ⟨_, rfl⟩
  rw [hfb] at hcl
  have HFB := hid hfb
  obtain ⟨hc1, hc2⟩ := hcl
  clear hfb
  cases fb with
  | false =>
    have hc1' : (fk == 0) = true := hc1
    have hc2' : ¬ fk > 0 := of_decide_eq_false hc2
    clear hc1 hc2
    by_cases hm : (0 : Int) < (m2 : Int)
    · have HP := hid (pchk_bad (k := k) (show bad0 c x = true by unfold bad0; rw [HFB.out, HM2.out, decide_eq_true (show 0 < m2 by omega)]; rfl))
      go_wp2_with fail
      go_ret
      exact ⟨by rw [HP.out]; rfl, Bc.out⟩
    · have HBAD := hid (show bad0 c x = false by unfold bad0; rw [HFB.out, HM2.out, decide_eq_false (show ¬ 0 < m2 by omega)]; rfl)
      have HCB := hid (show cntB c x.f0 x.f1 = false by
        refine cnt_not ?_
        by_cases h1 : c = 2
        · by_cases h2 : x.f0 = 2
          · have h := HFB.out
            rw [h1, h2] at h
            exact absurd h (by decide)
          · exact Or.inr (by simpa using h2)
        · exact Or.inl (by simpa using h1))
      have hcc : (c == 2) = false ∨ ((c == 2) = true ∧ (x.f0 == 2) = false) := by
        by_cases h1 : c = 2
        · refine Or.inr ⟨by simpa using h1, ?_⟩
          by_cases h2 : x.f0 = 2
          · have h := HFB.out
            rw [h1, h2] at h
            exact absurd h (by decide)
          · simpa using h2
        · exact Or.inl (by simpa using h1)
      rcases hcc with hcc | ⟨hcc, hcc2⟩
      · go_upto_region 10 with fail
        obtain ⟨C, hC⟩ : ∃ C, (inside fr.kids).1 = C := ⟨_, rfl⟩
        have HC := hid (show (inside (Sh.fAt c x.f0).2.kids).1 = C by rw [← HFK.out]; exact hC)
        have CI := hid (fun W => by have h := rinside_any fr.kids HKD.out.1 HKD.out.2 W; rw [hC] at h; exact h)
        clear hC
        go_wp2_with fail
        clear x0 x1 x2 y0 y1 y2 y3 y4 y5 y6
        go_loopw [8] (fun vi W => ∃ i : Nat, vi = .int .i64 i ∧ i ≤ m2 ∧ Hid (fstE ((x.f2.take i).map (pchk k C)) = 0) ∧ Hid (Below w.heap.size w W ∧ W.heap[w.heap.size]? = some (.cells #[.int .u16 x.f0, .slice A1 m1 d1, .slice K m2 d2] 87 (0, 0)) ∧ W.heap[w1.heap.size]? = some (.cells #[.int .i64 fk, .int .u16 fr.ty, .string fr.nm, .int .i64 fr.least, .int .i64 fr.most, .int .i64 fr.unit, .int .i64 fr.kids] 180 (0, 0)))) (fun vi _ => m2 - (intOf vi).toNat)
        case atStart => exact ⟨0, rfl, by omega, hid rfl, hid ⟨Bc.out, Nc.out, Fc.out⟩⟩
        case round =>
          obtain ⟨i, rfl, hi, hF, hI⟩ := hrel
          obtain ⟨⟨x0, x1, x2⟩, -⟩ := three hI.out.2.1
          by_cases hlt : i < m2
          · exact absurd hlt (by omega)
          · obtain rfl : i = m2 := by omega
            have hall := hF.out
            rw [← HM2.out, List.take_length] at hall
            have HP := hid (pchk_fin (k := k) HBAD.out HCB.out HC.out hall)
            have hsz := rsize_any [x] (by rw [cnts, cnts]; have := HCN.out; omega) (some ⟨wr.heap.size, 0, none⟩) 1 1 (wr.alloc (.cells #[.int .u16 x.f0, .slice A1 m1 d1, .slice K i d2] 87)) rfl (kc_one (blk_new wr _) HM1.out HM2.out (G1.out.below (cthen hI.out.1 (below_alloc (Below.refl _ _) _))) L1.out (Kd.C_below G2.out (cthen hI.out.1 (below_alloc (Below.refl _ _) _))) L2.out) (Nat.le_refl _)
            rw [szs_one] at hsz
            obtain ⟨N, hN⟩ : ∃ N, nsz x = N := ⟨_, rfl⟩
            rw [hN] at hsz HP
            clear hall hN
            by_cases hbig : (N : Int) > 65535
            · go_wp2_with fail
              refine hsz.mono ?_
              rintro e w9 ⟨rfl, hb⟩
              have B9 := hid (cthen (below_alloc hI.out.1 (.cells #[.int .u16 x.f0, .slice A1 m1 d1, .slice K i d2] 87)) hb)
              clear hb hsz x0 x1 x2
              go_wp2_with fail
              go_ret
              exact ⟨by rw [HP.out, if_pos (by omega)]; rfl, B9.out⟩
            · go_wp2_with fail
              refine hsz.mono ?_
              rintro e w9 ⟨rfl, hb⟩
              have B9 := hid (cthen (below_alloc hI.out.1 (.cells #[.int .u16 x.f0, .slice A1 m1 d1, .slice K i d2] 87)) hb)
              clear hb hsz x0 x1 x2
              go_wp2_with fail
              go_ret
              exact ⟨by rw [HP.out, if_neg (by omega)]; rfl, B9.out⟩
      · go_upto_region 10 with fail
        obtain ⟨C, hC⟩ : ∃ C, (inside fr.kids).1 = C := ⟨_, rfl⟩
        have HC := hid (show (inside (Sh.fAt c x.f0).2.kids).1 = C by rw [← HFK.out]; exact hC)
        have CI := hid (fun W => by have h := rinside_any fr.kids HKD.out.1 HKD.out.2 W; rw [hC] at h; exact h)
        clear hC
        go_wp2_with fail
        clear x0 x1 x2 y0 y1 y2 y3 y4 y5 y6
        go_loopw [8] (fun vi W => ∃ i : Nat, vi = .int .i64 i ∧ i ≤ m2 ∧ Hid (fstE ((x.f2.take i).map (pchk k C)) = 0) ∧ Hid (Below w.heap.size w W ∧ W.heap[w.heap.size]? = some (.cells #[.int .u16 x.f0, .slice A1 m1 d1, .slice K m2 d2] 87 (0, 0)) ∧ W.heap[w1.heap.size]? = some (.cells #[.int .i64 fk, .int .u16 fr.ty, .string fr.nm, .int .i64 fr.least, .int .i64 fr.most, .int .i64 fr.unit, .int .i64 fr.kids] 180 (0, 0)))) (fun vi _ => m2 - (intOf vi).toNat)
        case atStart => exact ⟨0, rfl, by omega, hid rfl, hid ⟨Bc.out, Nc.out, Fc.out⟩⟩
        case round =>
          obtain ⟨i, rfl, hi, hF, hI⟩ := hrel
          obtain ⟨⟨x0, x1, x2⟩, -⟩ := three hI.out.2.1
          by_cases hlt : i < m2
          · exact absurd hlt (by omega)
          · obtain rfl : i = m2 := by omega
            have hall := hF.out
            rw [← HM2.out, List.take_length] at hall
            have HP := hid (pchk_fin (k := k) HBAD.out HCB.out HC.out hall)
            have hsz := rsize_any [x] (by rw [cnts, cnts]; have := HCN.out; omega) (some ⟨wr.heap.size, 0, none⟩) 1 1 (wr.alloc (.cells #[.int .u16 x.f0, .slice A1 m1 d1, .slice K i d2] 87)) rfl (kc_one (blk_new wr _) HM1.out HM2.out (G1.out.below (cthen hI.out.1 (below_alloc (Below.refl _ _) _))) L1.out (Kd.C_below G2.out (cthen hI.out.1 (below_alloc (Below.refl _ _) _))) L2.out) (Nat.le_refl _)
            rw [szs_one] at hsz
            obtain ⟨N, hN⟩ : ∃ N, nsz x = N := ⟨_, rfl⟩
            rw [hN] at hsz HP
            clear hall hN
            by_cases hbig : (N : Int) > 65535
            · go_wp2_with fail
              refine hsz.mono ?_
              rintro e w9 ⟨rfl, hb⟩
              have B9 := hid (cthen (below_alloc hI.out.1 (.cells #[.int .u16 x.f0, .slice A1 m1 d1, .slice K i d2] 87)) hb)
              clear hb hsz x0 x1 x2
              go_wp2_with fail
              go_ret
              exact ⟨by rw [HP.out, if_pos (by omega)]; rfl, B9.out⟩
            · go_wp2_with fail
              refine hsz.mono ?_
              rintro e w9 ⟨rfl, hb⟩
              have B9 := hid (cthen (below_alloc hI.out.1 (.cells #[.int .u16 x.f0, .slice A1 m1 d1, .slice K i d2] 87)) hb)
              clear hb hsz x0 x1 x2
              go_wp2_with fail
              go_ret
              exact ⟨by rw [HP.out, if_neg (by omega)]; rfl, B9.out⟩
  | true =>
    have hc1' : (fk == 0) = false := hc1
    have hc2' : fk > 0 := of_decide_eq_true hc2
    clear hc1 hc2
    have hfo := fAt_ok c x.f0 HFB.out
    have hle := fRows_least (Sh.fAt c x.f0).2 (by rcases fAt_mem c x.f0 with ⟨-, h⟩ | ⟨-, -, h, -, -⟩; · rw [HFB.out] at h; cases h
                                                  · exact h)
    rw [HFR.out] at hfo hle
    have hft := rfits7_any fk fr.ty fr.nm fr.least fr.most fr.unit fr.kids m1 W4 hfo.1 hfo.2.1 hfo.2.2.1 hfo.2.2.2 hle
    obtain ⟨b1, hb1⟩ : ∃ b, fits fr.least fr.most fr.unit m1 = b := ⟨_, rfl⟩
    rw [hb1] at hft
    have HB1 := hid hb1
    clear hfo hb1 hle
    go_wp2_with fail
    refine hft.mono ?_
    rintro e w5 ⟨rfl, hb⟩
    have B5 := hid (cthen Bc.out hb)
    have N5 := hid (blk_below Nc.out hb)
    have F5 := hid (blk_below Fc.out hb)
    clear hb hft x0 x1 x2 y0 y1 y2 y3 y4 y5 y6 Bc Nc Fc
    cases b1 with
    | false =>
      have HP := hid (pchk_bad (k := k) (show bad0 c x = true by unfold bad0; rw [HFB.out, HM1.out, HFR.out, HB1.out]; rfl))
      go_wp2_with fail
      go_ret
      exact ⟨by rw [HP.out]; rfl, B5.out⟩
    | true =>
      obtain ⟨⟨x0, x1, x2⟩, -⟩ := three N5.out
      obtain ⟨⟨y0, y1, y2, y3, y4, y5, y6⟩, -⟩ := seven F5.out
      have hkd := rwant8_any fk fr.ty fr.nm fr.least fr.most fr.unit fr.kids K d2 m2 x.f2 w5 HKD.out.1 HKD.out.2 HM2.out (Kd.C_below G2.out B5.out) L2.out
      obtain ⟨b2, hb2⟩ : ∃ b, kidsB fr.kids x.f2 = b := ⟨_, rfl⟩
      rw [hb2] at hkd
      have HB2 := hid hb2
      clear hb2
      go_wp2_with fail
      refine hkd.mono ?_
      rintro e w6 ⟨rfl, hb⟩
      have B6 := hid (cthen B5.out hb)
      have N6 := hid (blk_below N5.out hb)
      have F6 := hid (blk_below F5.out hb)
      clear hb hkd x0 x1 x2 y0 y1 y2 y3 y4 y5 y6 B5 N5 F5
      cases b2 with
      | false =>
        have HP := hid (pchk_bad (k := k) (show bad0 c x = true by unfold bad0; rw [HFB.out, HM1.out, HFR.out, HB1.out, HB2.out]; rfl))
        go_wp2_with fail
        go_ret
        exact ⟨by rw [HP.out]; rfl, B6.out⟩
      | true =>
        have HBAD := hid (show bad0 c x = false by unfold bad0; rw [HFB.out, HM1.out, HFR.out, HB1.out, HB2.out]; rfl)
        obtain ⟨⟨x0, x1, x2⟩, -⟩ := three N6.out
        obtain ⟨⟨y0, y1, y2, y3, y4, y5, y6⟩, -⟩ := seven F6.out
        by_cases h1 : c = 2
        · have hcc : (c == 2) = true := by simpa using h1
          by_cases h2 : x.f0 = 2
          · have hcc2 : (x.f0 == 2) = true := by simpa using h2
            have hcs := cnt_same (D := x.f1) h1 h2 (by rw [HFR.out, HM1.out]; exact HB1.out)
            rw [HM1.out] at hcs
            have hct := rcounted8_any A1 d1 m1 x.f1 w6 HM1.out (G1.out.below B6.out) HBY.out L1.out hcs.1 (by have h1 := HCN.out; rw [cnt_eq, HM1.out] at h1; omega)
            obtain ⟨cb, hcb⟩ : ∃ cb, (2 * peekV 4 x.f1 0 == (m1 : Int) - 4) = cb := ⟨_, rfl⟩
            rw [hcb] at hct hcs
            have HCS := hid hcs.2
            clear hcs hcb h1 h2
            go_wp2_with fail
            refine hct.mono ?_
            rintro e w7 ⟨rfl, hb⟩
            have Bc := hid (cthen B6.out hb)
            have Nc := hid (blk_below N6.out hb)
            have Fc := hid (blk_below F6.out hb)
            clear hb hct x0 x1 x2 y0 y1 y2 y3 y4 y5 y6 B6 N6 F6
            cases cb with
            | false =>
              have HP := hid (pchk_cnt (k := k) HBAD.out HCS.out)
              go_wp2_with fail
              go_ret
              exact ⟨by rw [HP.out]; rfl, Bc.out⟩
            | true =>
              have HCB := HCS
              obtain ⟨⟨x0, x1, x2⟩, -⟩ := three Nc.out
              obtain ⟨⟨y0, y1, y2, y3, y4, y5, y6⟩, -⟩ := seven Fc.out
              go_upto_region 10 with fail
              obtain ⟨C, hC⟩ : ∃ C, (inside fr.kids).1 = C := ⟨_, rfl⟩
              have HC := hid (show (inside (Sh.fAt c x.f0).2.kids).1 = C by rw [← HFK.out]; exact hC)
              have CI := hid (fun W => by have h := rinside_any fr.kids HKD.out.1 HKD.out.2 W; rw [hC] at h; exact h)
              clear hC
              go_wp2_with fail
              clear x0 x1 x2 y0 y1 y2 y3 y4 y5 y6
              go_loopw [8] (fun vi W => ∃ i : Nat, vi = .int .i64 i ∧ i ≤ m2 ∧ Hid (fstE ((x.f2.take i).map (pchk k C)) = 0) ∧ Hid (Below w.heap.size w W ∧ W.heap[w.heap.size]? = some (.cells #[.int .u16 x.f0, .slice A1 m1 d1, .slice K m2 d2] 87 (0, 0)) ∧ W.heap[w1.heap.size]? = some (.cells #[.int .i64 fk, .int .u16 fr.ty, .string fr.nm, .int .i64 fr.least, .int .i64 fr.most, .int .i64 fr.unit, .int .i64 fr.kids] 180 (0, 0)))) (fun vi _ => m2 - (intOf vi).toNat)
              case atStart => exact ⟨0, rfl, by omega, hid rfl, hid ⟨Bc.out, Nc.out, Fc.out⟩⟩
              case round =>
                obtain ⟨i, rfl, hi, hF, hI⟩ := hrel
                obtain ⟨⟨x0, x1, x2⟩, -⟩ := three hI.out.2.1
                by_cases hlt : i < m2
                · have hil : i < x.f2.length := by have := HM2.out; omega
                  obtain ⟨⟨y0, y1, y2, y3, y4, y5, y6⟩, -⟩ := seven hI.out.2.2
                  obtain ⟨b, off, E1, e1, E2, e2, rfl, k0, k1, k2, l1, g1, l2, g2⟩ := node_at (Kd.C_below G2.out hI.out.1) i hil
                  have hoky := okL_at _ HOKL.out _ (List.getElem_mem hil)
                  have hcy := cnts_at _ _ (List.getElem_mem hil)
                  have hcn := HCN.out
                  rw [cnt_eq] at hcn
                  have hft := fst_take (pchk k C) x.f2 i hil
                  have hfs := fst_stop (pchk k C) x.f2 i hil hF.out
                  rw [if_pos hF.out] at hft
                  obtain ⟨y, hy⟩ : ∃ y, x.f2[i] = y := ⟨_, rfl⟩
                  rw [hy] at k0 k1 k2 l1 g1 l2 g2 hoky hcy hft hfs
                  obtain ⟨n1, hn1⟩ : ∃ m, y.f1.length = m := ⟨_, rfl⟩
                  obtain ⟨n2, hn2⟩ : ∃ m, y.f2.length = m := ⟨_, rfl⟩
                  rw [hn1] at k1 l1
                  rw [hn2] at k2 l2 g2
                  have hml : m2 ≤ 1000 := by have := len_cnts x.f2; have := HM2.out; omega
                  have HWI := hid (show wrap64 ((i : Int) + 1) = ((i + 1 : Nat) : Int) by unfold wrap64; omega)
                  have hcall := fun W (hW : Below wr.heap.size wr W) => HIH.out C y E1 E2 n1 e1 n2 e2 W hn1 hn2 (by omega) hoky (g1.below hW) l1 (Kd.C_below g2 hW) l2
                  obtain ⟨r, hr⟩ : ∃ r, pchk k C y = r := ⟨_, rfl⟩
                  rw [hr] at hcall hft hfs
                  rw [← HD1.out] at hcall
                  have CC := hid hcall
                  have HFT := hid hft
                  have HFS := hid hfs
                  have hS0 : Below wr.heap.size wr wr.drew ∧ wr.drew.cell? ⟨w1.heap.size, 6, none⟩ = some (.int .i64 fr.kids) ∧ wr.drew.cell? ⟨w.heap.size, 2, none⟩ = some (.slice (some ⟨b, off, none⟩) m2 d2) ∧ wr.drew.cell? ⟨b, off + i * 3, none⟩ = some (.int .u16 y.f0) ∧ wr.drew.cell? ⟨b, off + i * 3 + 1, none⟩ = some (.slice E1 n1 e1) ∧ wr.drew.cell? ⟨b, off + i * 3 + 2, none⟩ = some (.slice E2 n2 e2) := ⟨below_drew (Below.refl _ _) 1, y6, x2, k0, k1, k2⟩
                  have hin0 : (0 : Int) ≤ (i : Int) := by omega
                  have hlti : (i : Int) < (m2 : Int) := by omega
                  clear hy hn1 hn2 hml hoky hcy hcn hft hfs l1 l2 g1 g2 hr hil hcall
                  go_upto_region 13 with fail
                  clear x0 x1 x2 y0 y1 y2 y3 y4 y5 y6 k0 k1 k2
                  refine start_ (n := 12) (S := fun W => Below wr.heap.size wr W ∧ W.cell? ⟨w1.heap.size, 6, none⟩ = some (.int .i64 fr.kids) ∧ W.cell? ⟨w.heap.size, 2, none⟩ = some (.slice (some ⟨b, off, none⟩) m2 d2) ∧ W.cell? ⟨b, off + i * 3, none⟩ = some (.int .u16 y.f0) ∧ W.cell? ⟨b, off + i * 3 + 1, none⟩ = some (.slice E1 n1 e1) ∧ W.cell? ⟨b, off + i * 3 + 2, none⟩ = some (.slice E2 n2 e2)) (ds := [10]) (bA 12 0) (by kernel_rfl) rfl rfl hS0 (fun hHeld => ?_)
                  generalize wr.drew = w44 at hS0 hHeld ⊢
                  refine pU 0 (some 63) (bA 12 1) rfl rfl ?_
                  refine pU 3 (some 66) (bA 12 9) rfl rfl ?_
                  refine pU 5 (some 68) (bA 12 41) rfl rfl ?_
                  refine pU 8 (some 71) (bA 12 297) rfl rfl ?_
                  refine pU 9 (some 72) (bA 12 809) rfl rfl ?_
                  refine tU 1 (some 64) (bA 12 811) rfl rfl hHeld (by rintro w' ⟨q0, q1, q2, q3, q4, q5⟩; go_simp; with_reducible rfl) ?_
                  refine tU 4 (some 67) (bA 12 827) rfl rfl hHeld (by rintro w' ⟨q0, q1, q2, q3, q4, q5⟩; go_simp; with_reducible rfl) ?_
                  refine pU 6 (some 69) (bA 12 891) rfl rfl ?_
                  refine tU 7 (some 70) (bA 12 1019) rfl rfl hHeld (by rintro w' ⟨q0, q1, q2, q3, q4, q5⟩; go_simp; with_reducible rfl) ?_
                  refine one_ (i := 2) (N := some 65) (bA 12 1023) rfl rfl (by kernel_rfl) (by decide) (fun K hK => ?_)
                  refine goes_ Tryz.func115 (by kernel_rfl) rfl #[.int .i64 fr.kids] (by rfl) rfl rfl (by simp only [List.map_toArray, List.map_cons, List.map_nil]; rfl) ?_
                  refine Calls.mono (CI.out _) ?_
                  rintro e W6 ⟨rfl, hb6⟩
                  refine ⟨_, rfl, ?_⟩
                  have hS6 := nc6_blw hHeld hb6
                  refine hK.out _ _ hS6 (fun hHeld6 => ?_)
                  clear hK K
                  refine nU ?_
                  refine last_ (i := 10) (N := some 73) (bA 12 2047) rfl rfl (by kernel_rfl) (by decide) (fun K hK => ?_)
                  refine goes_ Tryz.func93 (by kernel_rfl) rfl #[.int .i64 C, .agg #[.int .u16 y.f0, .slice E1 n1 e1, .slice E2 n2 e2], .int .i64 (wrap64 (D + 1))] (by rfl) rfl rfl (by simp only [List.map_toArray, List.map_cons, List.map_nil]; rfl) ?_
                  refine Calls.mono (CC.out _ hHeld6.1) ?_
                  rintro e W ⟨rfl, hb⟩
                  refine ⟨_, rfl, ?_⟩
                  have HBW := hid (cthen hHeld6.1 hb)
                  clear hb
                  refine hK.out _ _ ?_
                  clear hK K
                  refine nU ?_
                  refine pU 11 (some 9) (bA 12 4095) rfl rfl ?_
                  refine done_ (by kernel_rfl) ?_
                  have B9 := hid (cthen hI.out.1 HBW.out)
                  have N9 := hid (blk_below hI.out.2.1 HBW.out)
                  have F9 := hid (blk_below hI.out.2.2 HBW.out)
                  by_cases hr0 : r = 0
                  · subst hr0
                    go_wp2_with fail
                    exact ⟨⟨i + 1, by rw [HWI.out], hlt, hid HFT.out, hid ⟨B9.out, N9.out, F9.out⟩⟩, by rw [HWI.out]; simp only [intOf, Int.toNat_natCast]; omega⟩
                  · have hrb : (r != 0) = true := by simpa using hr0
                    have HP := hid (pchk_kid (k := k) HBAD.out HCB.out HC.out (HFS.out hr0) hr0)
                    clear hr0
                    go_wp2_with fail
                    go_ret
                    exact ⟨by rw [HP.out]; rfl, B9.out⟩
                · obtain rfl : i = m2 := by omega
                  have hall := hF.out
                  rw [← HM2.out, List.take_length] at hall
                  have HP := hid (pchk_fin (k := k) HBAD.out HCB.out HC.out hall)
                  have hsz := rsize_any [x] (by rw [cnts, cnts]; have := HCN.out; omega) (some ⟨wr.heap.size, 0, none⟩) 1 1 (wr.alloc (.cells #[.int .u16 x.f0, .slice A1 m1 d1, .slice K i d2] 87)) rfl (kc_one (blk_new wr _) HM1.out HM2.out (G1.out.below (cthen hI.out.1 (below_alloc (Below.refl _ _) _))) L1.out (Kd.C_below G2.out (cthen hI.out.1 (below_alloc (Below.refl _ _) _))) L2.out) (Nat.le_refl _)
                  rw [szs_one] at hsz
                  obtain ⟨N, hN⟩ : ∃ N, nsz x = N := ⟨_, rfl⟩
                  rw [hN] at hsz HP
                  clear hall hN
                  by_cases hbig : (N : Int) > 65535
                  · go_wp2_with fail
                    refine hsz.mono ?_
                    rintro e w9 ⟨rfl, hb⟩
                    have B9 := hid (cthen (below_alloc hI.out.1 (.cells #[.int .u16 x.f0, .slice A1 m1 d1, .slice K i d2] 87)) hb)
                    clear hb hsz x0 x1 x2
                    go_wp2_with fail
                    go_ret
                    exact ⟨by rw [HP.out, if_pos (by omega)]; rfl, B9.out⟩
                  · go_wp2_with fail
                    refine hsz.mono ?_
                    rintro e w9 ⟨rfl, hb⟩
                    have B9 := hid (cthen (below_alloc hI.out.1 (.cells #[.int .u16 x.f0, .slice A1 m1 d1, .slice K i d2] 87)) hb)
                    clear hb hsz x0 x1 x2
                    go_wp2_with fail
                    go_ret
                    exact ⟨by rw [HP.out, if_neg (by omega)]; rfl, B9.out⟩
          · have hcc2 : (x.f0 == 2) = false := by simpa using h2
            have HCB := hid (cnt_not (c := c) (t := x.f0) (D := x.f1) (Or.inr hcc2))
            have Bc := B6
            have Nc := N6
            have Fc := F6
            clear h1 h2
            go_upto_region 10 with fail
            obtain ⟨C, hC⟩ : ∃ C, (inside fr.kids).1 = C := ⟨_, rfl⟩
            have HC := hid (show (inside (Sh.fAt c x.f0).2.kids).1 = C by rw [← HFK.out]; exact hC)
            have CI := hid (fun W => by have h := rinside_any fr.kids HKD.out.1 HKD.out.2 W; rw [hC] at h; exact h)
            clear hC
            go_wp2_with fail
            clear x0 x1 x2 y0 y1 y2 y3 y4 y5 y6
            go_loopw [8] (fun vi W => ∃ i : Nat, vi = .int .i64 i ∧ i ≤ m2 ∧ Hid (fstE ((x.f2.take i).map (pchk k C)) = 0) ∧ Hid (Below w.heap.size w W ∧ W.heap[w.heap.size]? = some (.cells #[.int .u16 x.f0, .slice A1 m1 d1, .slice K m2 d2] 87 (0, 0)) ∧ W.heap[w1.heap.size]? = some (.cells #[.int .i64 fk, .int .u16 fr.ty, .string fr.nm, .int .i64 fr.least, .int .i64 fr.most, .int .i64 fr.unit, .int .i64 fr.kids] 180 (0, 0)))) (fun vi _ => m2 - (intOf vi).toNat)
            case atStart => exact ⟨0, rfl, by omega, hid rfl, hid ⟨Bc.out, Nc.out, Fc.out⟩⟩
            case round =>
              obtain ⟨i, rfl, hi, hF, hI⟩ := hrel
              obtain ⟨⟨x0, x1, x2⟩, -⟩ := three hI.out.2.1
              by_cases hlt : i < m2
              · have hil : i < x.f2.length := by have := HM2.out; omega
                obtain ⟨⟨y0, y1, y2, y3, y4, y5, y6⟩, -⟩ := seven hI.out.2.2
                obtain ⟨b, off, E1, e1, E2, e2, rfl, k0, k1, k2, l1, g1, l2, g2⟩ := node_at (Kd.C_below G2.out hI.out.1) i hil
                have hoky := okL_at _ HOKL.out _ (List.getElem_mem hil)
                have hcy := cnts_at _ _ (List.getElem_mem hil)
                have hcn := HCN.out
                rw [cnt_eq] at hcn
                have hft := fst_take (pchk k C) x.f2 i hil
                have hfs := fst_stop (pchk k C) x.f2 i hil hF.out
                rw [if_pos hF.out] at hft
                obtain ⟨y, hy⟩ : ∃ y, x.f2[i] = y := ⟨_, rfl⟩
                rw [hy] at k0 k1 k2 l1 g1 l2 g2 hoky hcy hft hfs
                obtain ⟨n1, hn1⟩ : ∃ m, y.f1.length = m := ⟨_, rfl⟩
                obtain ⟨n2, hn2⟩ : ∃ m, y.f2.length = m := ⟨_, rfl⟩
                rw [hn1] at k1 l1
                rw [hn2] at k2 l2 g2
                have hml : m2 ≤ 1000 := by have := len_cnts x.f2; have := HM2.out; omega
                have HWI := hid (show wrap64 ((i : Int) + 1) = ((i + 1 : Nat) : Int) by unfold wrap64; omega)
                have hcall := fun W (hW : Below wr.heap.size wr W) => HIH.out C y E1 E2 n1 e1 n2 e2 W hn1 hn2 (by omega) hoky (g1.below hW) l1 (Kd.C_below g2 hW) l2
                obtain ⟨r, hr⟩ : ∃ r, pchk k C y = r := ⟨_, rfl⟩
                rw [hr] at hcall hft hfs
                rw [← HD1.out] at hcall
                have CC := hid hcall
                have HFT := hid hft
                have HFS := hid hfs
                have hS0 : Below wr.heap.size wr wr.drew ∧ wr.drew.cell? ⟨w1.heap.size, 6, none⟩ = some (.int .i64 fr.kids) ∧ wr.drew.cell? ⟨w.heap.size, 2, none⟩ = some (.slice (some ⟨b, off, none⟩) m2 d2) ∧ wr.drew.cell? ⟨b, off + i * 3, none⟩ = some (.int .u16 y.f0) ∧ wr.drew.cell? ⟨b, off + i * 3 + 1, none⟩ = some (.slice E1 n1 e1) ∧ wr.drew.cell? ⟨b, off + i * 3 + 2, none⟩ = some (.slice E2 n2 e2) := ⟨below_drew (Below.refl _ _) 1, y6, x2, k0, k1, k2⟩
                have hin0 : (0 : Int) ≤ (i : Int) := by omega
                have hlti : (i : Int) < (m2 : Int) := by omega
                clear hy hn1 hn2 hml hoky hcy hcn hft hfs l1 l2 g1 g2 hr hil hcall
                go_upto_region 13 with fail
                clear x0 x1 x2 y0 y1 y2 y3 y4 y5 y6 k0 k1 k2
                refine start_ (n := 12) (S := fun W => Below wr.heap.size wr W ∧ W.cell? ⟨w1.heap.size, 6, none⟩ = some (.int .i64 fr.kids) ∧ W.cell? ⟨w.heap.size, 2, none⟩ = some (.slice (some ⟨b, off, none⟩) m2 d2) ∧ W.cell? ⟨b, off + i * 3, none⟩ = some (.int .u16 y.f0) ∧ W.cell? ⟨b, off + i * 3 + 1, none⟩ = some (.slice E1 n1 e1) ∧ W.cell? ⟨b, off + i * 3 + 2, none⟩ = some (.slice E2 n2 e2)) (ds := [10]) (bA 12 0) (by kernel_rfl) rfl rfl hS0 (fun hHeld => ?_)
                generalize wr.drew = w44 at hS0 hHeld ⊢
                refine pU 0 (some 63) (bA 12 1) rfl rfl ?_
                refine pU 3 (some 66) (bA 12 9) rfl rfl ?_
                refine pU 5 (some 68) (bA 12 41) rfl rfl ?_
                refine pU 8 (some 71) (bA 12 297) rfl rfl ?_
                refine pU 9 (some 72) (bA 12 809) rfl rfl ?_
                refine tU 1 (some 64) (bA 12 811) rfl rfl hHeld (by rintro w' ⟨q0, q1, q2, q3, q4, q5⟩; go_simp; with_reducible rfl) ?_
                refine tU 4 (some 67) (bA 12 827) rfl rfl hHeld (by rintro w' ⟨q0, q1, q2, q3, q4, q5⟩; go_simp; with_reducible rfl) ?_
                refine pU 6 (some 69) (bA 12 891) rfl rfl ?_
                refine tU 7 (some 70) (bA 12 1019) rfl rfl hHeld (by rintro w' ⟨q0, q1, q2, q3, q4, q5⟩; go_simp; with_reducible rfl) ?_
                refine one_ (i := 2) (N := some 65) (bA 12 1023) rfl rfl (by kernel_rfl) (by decide) (fun K hK => ?_)
                refine goes_ Tryz.func115 (by kernel_rfl) rfl #[.int .i64 fr.kids] (by rfl) rfl rfl (by simp only [List.map_toArray, List.map_cons, List.map_nil]; rfl) ?_
                refine Calls.mono (CI.out _) ?_
                rintro e W6 ⟨rfl, hb6⟩
                refine ⟨_, rfl, ?_⟩
                have hS6 := nc6_blw hHeld hb6
                refine hK.out _ _ hS6 (fun hHeld6 => ?_)
                clear hK K
                refine nU ?_
                refine last_ (i := 10) (N := some 73) (bA 12 2047) rfl rfl (by kernel_rfl) (by decide) (fun K hK => ?_)
                refine goes_ Tryz.func93 (by kernel_rfl) rfl #[.int .i64 C, .agg #[.int .u16 y.f0, .slice E1 n1 e1, .slice E2 n2 e2], .int .i64 (wrap64 (D + 1))] (by rfl) rfl rfl (by simp only [List.map_toArray, List.map_cons, List.map_nil]; rfl) ?_
                refine Calls.mono (CC.out _ hHeld6.1) ?_
                rintro e W ⟨rfl, hb⟩
                refine ⟨_, rfl, ?_⟩
                have HBW := hid (cthen hHeld6.1 hb)
                clear hb
                refine hK.out _ _ ?_
                clear hK K
                refine nU ?_
                refine pU 11 (some 9) (bA 12 4095) rfl rfl ?_
                refine done_ (by kernel_rfl) ?_
                have B9 := hid (cthen hI.out.1 HBW.out)
                have N9 := hid (blk_below hI.out.2.1 HBW.out)
                have F9 := hid (blk_below hI.out.2.2 HBW.out)
                by_cases hr0 : r = 0
                · subst hr0
                  go_wp2_with fail
                  exact ⟨⟨i + 1, by rw [HWI.out], hlt, hid HFT.out, hid ⟨B9.out, N9.out, F9.out⟩⟩, by rw [HWI.out]; simp only [intOf, Int.toNat_natCast]; omega⟩
                · have hrb : (r != 0) = true := by simpa using hr0
                  have HP := hid (pchk_kid (k := k) HBAD.out HCB.out HC.out (HFS.out hr0) hr0)
                  clear hr0
                  go_wp2_with fail
                  go_ret
                  exact ⟨by rw [HP.out]; rfl, B9.out⟩
              · obtain rfl : i = m2 := by omega
                have hall := hF.out
                rw [← HM2.out, List.take_length] at hall
                have HP := hid (pchk_fin (k := k) HBAD.out HCB.out HC.out hall)
                have hsz := rsize_any [x] (by rw [cnts, cnts]; have := HCN.out; omega) (some ⟨wr.heap.size, 0, none⟩) 1 1 (wr.alloc (.cells #[.int .u16 x.f0, .slice A1 m1 d1, .slice K i d2] 87)) rfl (kc_one (blk_new wr _) HM1.out HM2.out (G1.out.below (cthen hI.out.1 (below_alloc (Below.refl _ _) _))) L1.out (Kd.C_below G2.out (cthen hI.out.1 (below_alloc (Below.refl _ _) _))) L2.out) (Nat.le_refl _)
                rw [szs_one] at hsz
                obtain ⟨N, hN⟩ : ∃ N, nsz x = N := ⟨_, rfl⟩
                rw [hN] at hsz HP
                clear hall hN
                by_cases hbig : (N : Int) > 65535
                · go_wp2_with fail
                  refine hsz.mono ?_
                  rintro e w9 ⟨rfl, hb⟩
                  have B9 := hid (cthen (below_alloc hI.out.1 (.cells #[.int .u16 x.f0, .slice A1 m1 d1, .slice K i d2] 87)) hb)
                  clear hb hsz x0 x1 x2
                  go_wp2_with fail
                  go_ret
                  exact ⟨by rw [HP.out, if_pos (by omega)]; rfl, B9.out⟩
                · go_wp2_with fail
                  refine hsz.mono ?_
                  rintro e w9 ⟨rfl, hb⟩
                  have B9 := hid (cthen (below_alloc hI.out.1 (.cells #[.int .u16 x.f0, .slice A1 m1 d1, .slice K i d2] 87)) hb)
                  clear hb hsz x0 x1 x2
                  go_wp2_with fail
                  go_ret
                  exact ⟨by rw [HP.out, if_neg (by omega)]; rfl, B9.out⟩
        · have hcc : (c == 2) = false := by simpa using h1
          have HCB := hid (cnt_not (c := c) (t := x.f0) (D := x.f1) (Or.inl hcc))
          have Bc := B6
          have Nc := N6
          have Fc := F6
          clear h1
          go_upto_region 10 with fail
          obtain ⟨C, hC⟩ : ∃ C, (inside fr.kids).1 = C := ⟨_, rfl⟩
          have HC := hid (show (inside (Sh.fAt c x.f0).2.kids).1 = C by rw [← HFK.out]; exact hC)
          have CI := hid (fun W => by have h := rinside_any fr.kids HKD.out.1 HKD.out.2 W; rw [hC] at h; exact h)
          clear hC
          go_wp2_with fail
          clear x0 x1 x2 y0 y1 y2 y3 y4 y5 y6
          go_loopw [8] (fun vi W => ∃ i : Nat, vi = .int .i64 i ∧ i ≤ m2 ∧ Hid (fstE ((x.f2.take i).map (pchk k C)) = 0) ∧ Hid (Below w.heap.size w W ∧ W.heap[w.heap.size]? = some (.cells #[.int .u16 x.f0, .slice A1 m1 d1, .slice K m2 d2] 87 (0, 0)) ∧ W.heap[w1.heap.size]? = some (.cells #[.int .i64 fk, .int .u16 fr.ty, .string fr.nm, .int .i64 fr.least, .int .i64 fr.most, .int .i64 fr.unit, .int .i64 fr.kids] 180 (0, 0)))) (fun vi _ => m2 - (intOf vi).toNat)
          case atStart => exact ⟨0, rfl, by omega, hid rfl, hid ⟨Bc.out, Nc.out, Fc.out⟩⟩
          case round =>
            obtain ⟨i, rfl, hi, hF, hI⟩ := hrel
            obtain ⟨⟨x0, x1, x2⟩, -⟩ := three hI.out.2.1
            by_cases hlt : i < m2
            · have hil : i < x.f2.length := by have := HM2.out; omega
              obtain ⟨⟨y0, y1, y2, y3, y4, y5, y6⟩, -⟩ := seven hI.out.2.2
              obtain ⟨b, off, E1, e1, E2, e2, rfl, k0, k1, k2, l1, g1, l2, g2⟩ := node_at (Kd.C_below G2.out hI.out.1) i hil
              have hoky := okL_at _ HOKL.out _ (List.getElem_mem hil)
              have hcy := cnts_at _ _ (List.getElem_mem hil)
              have hcn := HCN.out
              rw [cnt_eq] at hcn
              have hft := fst_take (pchk k C) x.f2 i hil
              have hfs := fst_stop (pchk k C) x.f2 i hil hF.out
              rw [if_pos hF.out] at hft
              obtain ⟨y, hy⟩ : ∃ y, x.f2[i] = y := ⟨_, rfl⟩
              rw [hy] at k0 k1 k2 l1 g1 l2 g2 hoky hcy hft hfs
              obtain ⟨n1, hn1⟩ : ∃ m, y.f1.length = m := ⟨_, rfl⟩
              obtain ⟨n2, hn2⟩ : ∃ m, y.f2.length = m := ⟨_, rfl⟩
              rw [hn1] at k1 l1
              rw [hn2] at k2 l2 g2
              have hml : m2 ≤ 1000 := by have := len_cnts x.f2; have := HM2.out; omega
              have HWI := hid (show wrap64 ((i : Int) + 1) = ((i + 1 : Nat) : Int) by unfold wrap64; omega)
              have hcall := fun W (hW : Below wr.heap.size wr W) => HIH.out C y E1 E2 n1 e1 n2 e2 W hn1 hn2 (by omega) hoky (g1.below hW) l1 (Kd.C_below g2 hW) l2
              obtain ⟨r, hr⟩ : ∃ r, pchk k C y = r := ⟨_, rfl⟩
              rw [hr] at hcall hft hfs
              rw [← HD1.out] at hcall
              have CC := hid hcall
              have HFT := hid hft
              have HFS := hid hfs
              have hS0 : Below wr.heap.size wr wr.drew ∧ wr.drew.cell? ⟨w1.heap.size, 6, none⟩ = some (.int .i64 fr.kids) ∧ wr.drew.cell? ⟨w.heap.size, 2, none⟩ = some (.slice (some ⟨b, off, none⟩) m2 d2) ∧ wr.drew.cell? ⟨b, off + i * 3, none⟩ = some (.int .u16 y.f0) ∧ wr.drew.cell? ⟨b, off + i * 3 + 1, none⟩ = some (.slice E1 n1 e1) ∧ wr.drew.cell? ⟨b, off + i * 3 + 2, none⟩ = some (.slice E2 n2 e2) := ⟨below_drew (Below.refl _ _) 1, y6, x2, k0, k1, k2⟩
              have hin0 : (0 : Int) ≤ (i : Int) := by omega
              have hlti : (i : Int) < (m2 : Int) := by omega
              clear hy hn1 hn2 hml hoky hcy hcn hft hfs l1 l2 g1 g2 hr hil hcall
              go_upto_region 13 with fail
              clear x0 x1 x2 y0 y1 y2 y3 y4 y5 y6 k0 k1 k2
              refine start_ (n := 12) (S := fun W => Below wr.heap.size wr W ∧ W.cell? ⟨w1.heap.size, 6, none⟩ = some (.int .i64 fr.kids) ∧ W.cell? ⟨w.heap.size, 2, none⟩ = some (.slice (some ⟨b, off, none⟩) m2 d2) ∧ W.cell? ⟨b, off + i * 3, none⟩ = some (.int .u16 y.f0) ∧ W.cell? ⟨b, off + i * 3 + 1, none⟩ = some (.slice E1 n1 e1) ∧ W.cell? ⟨b, off + i * 3 + 2, none⟩ = some (.slice E2 n2 e2)) (ds := [10]) (bA 12 0) (by kernel_rfl) rfl rfl hS0 (fun hHeld => ?_)
              generalize wr.drew = w44 at hS0 hHeld ⊢
              refine pU 0 (some 63) (bA 12 1) rfl rfl ?_
              refine pU 3 (some 66) (bA 12 9) rfl rfl ?_
              refine pU 5 (some 68) (bA 12 41) rfl rfl ?_
              refine pU 8 (some 71) (bA 12 297) rfl rfl ?_
              refine pU 9 (some 72) (bA 12 809) rfl rfl ?_
              refine tU 1 (some 64) (bA 12 811) rfl rfl hHeld (by rintro w' ⟨q0, q1, q2, q3, q4, q5⟩; go_simp; with_reducible rfl) ?_
              refine tU 4 (some 67) (bA 12 827) rfl rfl hHeld (by rintro w' ⟨q0, q1, q2, q3, q4, q5⟩; go_simp; with_reducible rfl) ?_
              refine pU 6 (some 69) (bA 12 891) rfl rfl ?_
              refine tU 7 (some 70) (bA 12 1019) rfl rfl hHeld (by rintro w' ⟨q0, q1, q2, q3, q4, q5⟩; go_simp; with_reducible rfl) ?_
              refine one_ (i := 2) (N := some 65) (bA 12 1023) rfl rfl (by kernel_rfl) (by decide) (fun K hK => ?_)
              refine goes_ Tryz.func115 (by kernel_rfl) rfl #[.int .i64 fr.kids] (by rfl) rfl rfl (by simp only [List.map_toArray, List.map_cons, List.map_nil]; rfl) ?_
              refine Calls.mono (CI.out _) ?_
              rintro e W6 ⟨rfl, hb6⟩
              refine ⟨_, rfl, ?_⟩
              have hS6 := nc6_blw hHeld hb6
              refine hK.out _ _ hS6 (fun hHeld6 => ?_)
              clear hK K
              refine nU ?_
              refine last_ (i := 10) (N := some 73) (bA 12 2047) rfl rfl (by kernel_rfl) (by decide) (fun K hK => ?_)
              refine goes_ Tryz.func93 (by kernel_rfl) rfl #[.int .i64 C, .agg #[.int .u16 y.f0, .slice E1 n1 e1, .slice E2 n2 e2], .int .i64 (wrap64 (D + 1))] (by rfl) rfl rfl (by simp only [List.map_toArray, List.map_cons, List.map_nil]; rfl) ?_
              refine Calls.mono (CC.out _ hHeld6.1) ?_
              rintro e W ⟨rfl, hb⟩
              refine ⟨_, rfl, ?_⟩
              have HBW := hid (cthen hHeld6.1 hb)
              clear hb
              refine hK.out _ _ ?_
              clear hK K
              refine nU ?_
              refine pU 11 (some 9) (bA 12 4095) rfl rfl ?_
              refine done_ (by kernel_rfl) ?_
              have B9 := hid (cthen hI.out.1 HBW.out)
              have N9 := hid (blk_below hI.out.2.1 HBW.out)
              have F9 := hid (blk_below hI.out.2.2 HBW.out)
              by_cases hr0 : r = 0
              · subst hr0
                go_wp2_with fail
                exact ⟨⟨i + 1, by rw [HWI.out], hlt, hid HFT.out, hid ⟨B9.out, N9.out, F9.out⟩⟩, by rw [HWI.out]; simp only [intOf, Int.toNat_natCast]; omega⟩
              · have hrb : (r != 0) = true := by simpa using hr0
                have HP := hid (pchk_kid (k := k) HBAD.out HCB.out HC.out (HFS.out hr0) hr0)
                clear hr0
                go_wp2_with fail
                go_ret
                exact ⟨by rw [HP.out]; rfl, B9.out⟩
            · obtain rfl : i = m2 := by omega
              have hall := hF.out
              rw [← HM2.out, List.take_length] at hall
              have HP := hid (pchk_fin (k := k) HBAD.out HCB.out HC.out hall)
              have hsz := rsize_any [x] (by rw [cnts, cnts]; have := HCN.out; omega) (some ⟨wr.heap.size, 0, none⟩) 1 1 (wr.alloc (.cells #[.int .u16 x.f0, .slice A1 m1 d1, .slice K i d2] 87)) rfl (kc_one (blk_new wr _) HM1.out HM2.out (G1.out.below (cthen hI.out.1 (below_alloc (Below.refl _ _) _))) L1.out (Kd.C_below G2.out (cthen hI.out.1 (below_alloc (Below.refl _ _) _))) L2.out) (Nat.le_refl _)
              rw [szs_one] at hsz
              obtain ⟨N, hN⟩ : ∃ N, nsz x = N := ⟨_, rfl⟩
              rw [hN] at hsz HP
              clear hall hN
              by_cases hbig : (N : Int) > 65535
              · go_wp2_with fail
                refine hsz.mono ?_
                rintro e w9 ⟨rfl, hb⟩
                have B9 := hid (cthen (below_alloc hI.out.1 (.cells #[.int .u16 x.f0, .slice A1 m1 d1, .slice K i d2] 87)) hb)
                clear hb hsz x0 x1 x2
                go_wp2_with fail
                go_ret
                exact ⟨by rw [HP.out, if_pos (by omega)]; rfl, B9.out⟩
              · go_wp2_with fail
                refine hsz.mono ?_
                rintro e w9 ⟨rfl, hb⟩
                have B9 := hid (cthen (below_alloc hI.out.1 (.cells #[.int .u16 x.f0, .slice A1 m1 d1, .slice K i d2] 87)) hb)
                clear hb hsz x0 x1 x2
                go_wp2_with fail
                go_ret
                exact ⟨by rw [HP.out, if_neg (by omega)]; rfl, B9.out⟩
theorem rcheck_any : ∀ k, k ≤ 5 → RcC k := by
  intro k
  induction k with
  | zero => intro _; exact rcheck_zero
  | succ k ih => intro hk; exact rcheck_step k (by omega) (ih (by omega))
end Bn
end Go.Proofs.YtmfmomfhiieilaaGreatDoor
