/- 'node.check' and 'node.Check'. -/
import Derived.Test.YtmfmomfhiieilaaGreatDoorBnk
set_option linter.unusedVariables false
set_option linter.unusedSimpArgs false
namespace Go.Proofs.YtmfmomfhiieilaaGreatDoor
open Go.RowKit Go.Shelf Go.Proofs.YtmfmomfhiieilaaGreatDoor.It Go.Proofs.YtmfmomfhiieilaaGreatDoorW.PrintWords Go.Proofs.YtmfmomfhiieilaaGreatDoorW.PrintLast Go.Proofs.YtmfmomfhiieilaaGreatDoorW.PrintMore
namespace Bn
open PBundleSorted
/-- The first that is not 0. -/
def fstE : List Int → Int
  | [] => 0
  | r :: l => if r = 0 then fstE l else r
theorem fstE_append (l m : List Int) : fstE (l ++ m) = if fstE l = 0 then fstE m else fstE l := by
  induction l with
  | nil => simp [fstE]
  | cons r l ih =>
    rw [List.cons_append, fstE, fstE]
    by_cases h : r = 0
    · rw [if_pos h, if_pos h, ih]
    · rw [if_neg h, if_neg h, if_neg h]
/-- Whether a node has not the form of its type. -/
def bad0 (c : Int) (x : Nd) : Bool := (!Sh.fHas c x.f0 && decide (0 < x.f2.length)) || (Sh.fHas c x.f0 && (!fits (Sh.fAt c x.f0).2.least (Sh.fAt c x.f0).2.most (Sh.fAt c x.f0).2.unit x.f1.length || !kidsB (Sh.fAt c x.f0).2.kids x.f2))
/-- The code of a node's error (0: none); k: how many levels there may be. -/
def pchk : Nat → Int → Nd → Int
  | 0, _, _ => 9
  | k + 1, c, x =>
    if bad0 c x = true then 7 else if cntB c x.f0 x.f1 = true then 8 else
    if fstE (x.f2.map (pchk k (inside (Sh.fAt c x.f0).2.kids).1)) = 0 then (if 65535 < nsz x then 4 else 0) else fstE (x.f2.map (pchk k (inside (Sh.fAt c x.f0).2.kids).1))
mutual
/-- What the memory of a node holds: types of 16 bits, bytes. -/
def okN : Nd → Prop
  | ⟨t, D, ks⟩ => (0 ≤ t ∧ t ≤ 65535) ∧ Byt D ∧ okL ks
def okL : List Nd → Prop
  | [] => True
  | x :: l => okN x ∧ okL l
end
theorem okN_eq (x : Nd) : okN x ↔ (0 ≤ x.f0 ∧ x.f0 ≤ 65535) ∧ Byt x.f1 ∧ okL x.f2 := by cases x; rw [okN]
theorem okL_at : ∀ (l : List Nd), okL l → ∀ x ∈ l, okN x
  | [], _, x, h => by cases h
  | y :: l, hl, x, h => by
    rw [okL] at hl
    rcases List.mem_cons.1 h with rfl | h
    · exact hl.1
    · exact okL_at l hl.2 x h
def codeE (r : Int) : Option (Int × Option Int) := if r = 0 then none else some (r, none)
theorem fRows_ok : ∀ r ∈ Sh.fRows1 ++ Sh.fRows2, 0 ≤ r.least ∧ r.most ≤ 65531 ∧ 1 ≤ r.unit ∧ r.unit ≤ 8 := by decide
theorem fAt_ok (c t : Int) (h : Sh.fHas c t = true) : 0 ≤ (Sh.fAt c t).2.least ∧ (Sh.fAt c t).2.most ≤ 65531 ∧ 1 ≤ (Sh.fAt c t).2.unit ∧ (Sh.fAt c t).2.unit ≤ 8 := by
  unfold Sh.fAt
  unfold Sh.fHas at h
  cases hf : Sh.fFindIn (Sh.fRowsOf c) t with
  | none =>
    unfold Sh.fFindIn at hf
    rw [List.find?_eq_none] at hf
    obtain ⟨r, hr, he⟩ := List.any_eq_true.1 h
    exact absurd he (hf r (List.mem_reverse.2 hr))
  | some r =>
    have hm : r ∈ Sh.fRowsOf c := List.mem_reverse.1 (List.mem_of_find?_eq_some hf)
    refine fRows_ok r ?_
    unfold Sh.fRowsOf at hm
    split at hm
    · exact List.mem_append_left _ hm
    · split at hm
      · exact List.mem_append_right _ hm
      · cases hm
/-- One node in a row. -/
theorem kc_one {w : World} {b m1 d1 m2 d2 : Nat} {A1 K : Option Addr} {x : Nd} (h : w.heap[b]? = some (.cells #[.int .u16 x.f0, .slice A1 m1 d1, .slice K m2 d2] 87 (0, 0))) (h1 : x.f1.length = m1) (h2 : x.f2.length = m2) (g1 : BC w A1 x.f1) (l1 : m1 ≤ d1) (g2 : Kd.C k87 w K m2 x.f2) (l2 : m2 ≤ d2) : Kd.C k87 w (some ⟨b, 0, none⟩) 1 [x] := by
  subst h1
  subst h2
  obtain ⟨⟨q0, q1, q2⟩, -⟩ := three h
  refine ⟨rfl, by omega, fun _ => ⟨_, rfl, fun j p hp => ?_⟩⟩
  cases j with
  | succ j => simp at hp
  | zero =>
    simp at hp
    subst hp
    refine ⟨_, rfl, k87_mk w _ l1 g1 l2 g2, fun i u hu => ?_⟩
    have hz : k87.sz = 3 := rfl
    rw [Go.WideShapes.add_plain, hz]
    match i with
    | 0 => simp at hu; subst hu; simpa using q0
    | 1 => simp at hu; subst hu; simpa using q1
    | 2 => simp at hu; subst hu; simpa using q2
    | i + 3 => simp at hu
/-- The contract of 'node.check' at a depth. -/
def ChC (k : Nat) : Prop := ∀ (c : Int) (x : Nd) (A1 K : Option Addr) (m1 d1 m2 d2 : Nat) (w : World), x.f1.length = m1 → x.f2.length = m2 → cnt x ≤ 1000 → okN x → BC w A1 x.f1 → m1 ≤ d1 → Kd.C k87 w K m2 x.f2 → m2 ≤ d2 →
  Calls Tryz.prog 85 #[.int .i64 c, .agg #[.int .u16 x.f0, .slice A1 m1 d1, .slice K m2 d2], .int .i64 (5 - (k : Int))] w (ErrPost (codeE (pchk k c x)) w)
set_option maxRecDepth 100000 in
set_option maxHeartbeats 1000000 in
theorem check_zero : ChC 0 := by
  intro c x A1 K m1 d1 m2 d2 w _ _ _ _ _ _ _ _
  have hd : (5 : Int) - ((0 : Nat) : Int) > 4 := by omega
  obtain ⟨D, hD⟩ : ∃ D, (5 : Int) - ((0 : Nat) : Int) = D := ⟨_, rfl⟩
  rw [hD] at hd ⊢
  clear hD
  go_enter Tryz.func85, Tryz.ntmps85
  go_wp2_with fail
  go_ret
  exact ⟨rfl, below_alloc (Below.refl _ _) _⟩
theorem pchk_bad {k : Nat} {c : Int} {x : Nd} (h : bad0 c x = true) : pchk (k + 1) c x = 7 := by rw [pchk, if_pos h]
theorem pchk_cnt {k : Nat} {c : Int} {x : Nd} (h : bad0 c x = false) (h2 : cntB c x.f0 x.f1 = true) : pchk (k + 1) c x = 8 := by rw [pchk, if_neg (by rw [h]; decide), if_pos h2]
theorem pchk_kid {k : Nat} {c C r : Int} {x : Nd} (h : bad0 c x = false) (h2 : cntB c x.f0 x.f1 = false) (hC : (inside (Sh.fAt c x.f0).2.kids).1 = C) (hr : fstE (x.f2.map (pchk k C)) = r) (h0 : r ≠ 0) : pchk (k + 1) c x = r := by
  rw [pchk, if_neg (by rw [h]; decide), if_neg (by rw [h2]; decide), hC, hr, if_neg h0]
theorem pchk_fin {k : Nat} {c C : Int} {x : Nd} (h : bad0 c x = false) (h2 : cntB c x.f0 x.f1 = false) (hC : (inside (Sh.fAt c x.f0).2.kids).1 = C) (hr : fstE (x.f2.map (pchk k C)) = 0) : pchk (k + 1) c x = if 65535 < nsz x then 4 else 0 := by
  rw [pchk, if_neg (by rw [h]; decide), if_neg (by rw [h2]; decide), hC, if_pos hr]
theorem eV_code {r : Int} (h : r ≠ 0) : eV (codeE r) = .iface 54 (.int .i64 r) := by unfold codeE; rw [if_neg h]; rfl
theorem eV_zero : eV (codeE 0) = .nilIface := rfl
theorem fst_take (f : Nd → Int) (l : List Nd) (i : Nat) (h : i < l.length) : fstE ((l.take (i + 1)).map f) = if fstE ((l.take i).map f) = 0 then f l[i] else fstE ((l.take i).map f) := by
  rw [List.take_add_one, List.getElem?_eq_getElem h, List.map_append, fstE_append]
  show (if _ then (if f l[i] = 0 then 0 else f l[i]) else _) = _
  by_cases h2 : f l[i] = 0
  · rw [if_pos h2, h2]
  · rw [if_neg h2]
theorem fst_stop (f : Nd → Int) (l : List Nd) (i : Nat) (h : i < l.length) (h0 : fstE ((l.take i).map f) = 0) (h1 : f l[i] ≠ 0) : fstE (l.map f) = f l[i] := by
  have e : l = l.take (i + 1) ++ l.drop (i + 1) := (List.take_append_drop _ _).symm
  have h2 := fst_take f l i h
  rw [if_pos h0] at h2
  conv => lhs; rw [e, List.map_append, fstE_append, h2]
  rw [if_neg h1]
theorem szs_one (x : Nd) : szs (nszs [x]) = nsz x := by
  rw [nszs, nszs]
  unfold szs up
  simp
set_option maxRecDepth 100000 in
set_option maxHeartbeats 2000000 in
theorem check_step (k : Nat) (hk : k ≤ 4) (ih : ChC k) : ChC (k + 1) := by
  intro c x A1 K m1 d1 m2 d2 w hm1 hm2 hcn hok g1 l1 g2 l2
  obtain ⟨⟨ht0, ht1⟩, hby, hokl⟩ := (okN_eq x).1 hok
  have B0 := hid (below_alloc (Below.refl w.heap.size w) (.cells #[.int .u16 x.f0, .slice A1 m1 d1, .slice K m2 d2] 87))
  have N0 := hid (blk_new w (.cells #[.int .u16 x.f0, .slice A1 m1 d1, .slice K m2 d2] 87))
  obtain ⟨⟨x0, x1, x2⟩, -⟩ := three N0.out
  have hof := Sh.fof_any c x.f0 (w.alloc (.cells #[.int .u16 x.f0, .slice A1 m1 d1, .slice K m2 d2] 87)) ht0 ht1 (Sh.forms_any c _)
  have hd : ¬ ((5 : Int) - ((k + 1 : Nat) : Int) > 4) := by omega
  have hd1 : wrap64 ((5 : Int) - ((k + 1 : Nat) : Int) + 1) = 5 - (k : Int) := by unfold wrap64; omega
  obtain ⟨D, hD⟩ : ∃ D, (5 : Int) - ((k + 1 : Nat) : Int) = D := ⟨_, rfl⟩
  rw [hD] at hd hd1 ⊢
  have HD1 := hid hd1
  clear hD hd1
  have HM1 := hid hm1
  have HM2 := hid hm2
  have HCN := hid hcn
  have HBY := hid hby
  have HOKL := hid hokl
  have G1 := hid g1
  have G2 := hid g2
  have L1 := hid l1
  have L2 := hid l2
  have HIH := hid ih
  clear hm1 hm2 hcn hok hby hokl g1 g2 l1 l2 ih ht0 ht1
  unfold Sh.FOfPost at hof
  go_enter Tryz.func85, Tryz.ntmps85
  go_wp2_with fail
  refine hof.mono ?_
  rintro e w1 ⟨fk, fr, fb, hfk, hfb, rfl, hb⟩
  have B1 := hid (cthen B0.out hb)
  have N1 := hid (blk_below N0.out hb)
  have HFK := hid hfk
  have HFB := hid hfb
  clear hb hof hfk hfb x0 x1 x2 B0 N0
  obtain ⟨⟨x0, x1, x2⟩, -⟩ := three N1.out
  go_upto_region 4 with fail
  obtain ⟨W4, hW4⟩ : ∃ W4, w1.alloc (.cells #[.int .i64 fk, .int .u16 fr.ty, .string fr.nm, .int .i64 fr.least, .int .i64 fr.most, .int .i64 fr.unit, .int .i64 fr.kids] 172) = W4 := ⟨_, rfl⟩
  have hbS : Below w1.heap.size w1 W4 := by rw [← hW4]; exact below_alloc (Below.refl _ _) _
  have Bc := hid (cthen B1.out hbS)
  have Nc := hid (blk_below N1.out hbS)
  have Fc := hid (show W4.heap[w1.heap.size]? = some (.cells #[.int .i64 fk, .int .u16 fr.ty, .string fr.nm, .int .i64 fr.least, .int .i64 fr.most, .int .i64 fr.unit, .int .i64 fr.kids] 172 (0, 0)) by rw [← hW4]; exact blk_new w1 _)
  rw [hW4]
  clear hW4 hbS B1 N1 x0 x1 x2
  obtain ⟨⟨x0, x1, x2⟩, -⟩ := three Nc.out
  obtain ⟨⟨y0, y1, y2, y3, y4, y5, y6⟩, -⟩ := seven Fc.out
  have HFR := hid (show (Sh.fAt c x.f0).2 = fr by rw [← HFK.out])
  cases fb with
  | false =>
    by_cases hm : (0 : Int) < (m2 : Int)
    · have HP := hid (pchk_bad (k := k) (show bad0 c x = true by unfold bad0; rw [← HFB.out, HM2.out, decide_eq_true (show 0 < m2 by omega)]; rfl))
      go_wp2_with fail
      go_ret
      exact ⟨by rw [HP.out]; rfl, Bc.out⟩
    · have HBAD := hid (show bad0 c x = false by unfold bad0; rw [← HFB.out, HM2.out, decide_eq_false (show ¬ 0 < m2 by omega)]; rfl)
      go_upto_region 7 with fail
      have hcnt := counted_any c x.f0 A1 d1 x.f1 W4 (G1.out.below Bc.out) HBY.out (by rw [HM1.out]; exact L1.out) (by have h1 := HCN.out; rw [cnt_eq] at h1; omega)
      rw [HM1.out] at hcnt
      obtain ⟨cb, hcb⟩ : ∃ cb, cntB c x.f0 x.f1 = cb := ⟨_, rfl⟩
      rw [hcb] at hcnt
      have HCB := hid hcb
      clear hcb
      go_wp2_with fail
      refine hcnt.mono ?_
      rintro e w7 ⟨rfl, hb⟩
      have B7 := hid (cthen Bc.out hb)
      have N7 := hid (blk_below Nc.out hb)
      have F7 := hid (blk_below Fc.out hb)
      clear hb hcnt x0 x1 x2 y0 y1 y2 y3 y4 y5 y6 Nc Fc
      cases cb with
      | true =>
        have HP := hid (pchk_cnt (k := k) HBAD.out HCB.out)
        go_wp2_with fail
        go_ret
        exact ⟨by rw [HP.out]; rfl, B7.out⟩
      | false =>
        obtain ⟨⟨x0, x1, x2⟩, -⟩ := three N7.out
        obtain ⟨⟨y0, y1, y2, y3, y4, y5, y6⟩, -⟩ := seven F7.out
        have hin := inside_any fr.kids w7
        obtain ⟨C, hC⟩ : ∃ C, (inside fr.kids).1 = C := ⟨_, rfl⟩
        rw [hC] at hin
        have HC := hid (show (inside (Sh.fAt c x.f0).2.kids).1 = C by rw [← HFK.out]; exact hC)
        clear hC
        go_wp2_with fail
        refine hin.mono ?_
        rintro e w8 ⟨rfl, hb⟩
        have B8 := hid (cthen B7.out hb)
        have N8 := hid (blk_below N7.out hb)
        clear hb hin x0 x1 x2 y0 y1 y2 y3 y4 y5 y6 N7 F7
        obtain ⟨⟨x0, x1, x2⟩, -⟩ := three N8.out
        go_wp2_with fail
        clear x0 x1 x2
        go_loopw [69] (fun vi W => ∃ i : Nat, vi = .int .i64 i ∧ i ≤ m2 ∧ Hid (fstE ((x.f2.take i).map (pchk k C)) = 0) ∧ Hid (Below w.heap.size w W ∧ W.heap[w.heap.size]? = some (.cells #[.int .u16 x.f0, .slice A1 m1 d1, .slice K m2 d2] 87 (0, 0)))) (fun vi _ => m2 - (intOf vi).toNat)
        case atStart => exact ⟨0, rfl, by omega, hid rfl, hid ⟨B8.out, N8.out⟩⟩
        case round =>
          obtain ⟨i, rfl, hi, hF, hI⟩ := hrel
          by_cases hlt : i < m2
          · exact absurd hlt (by omega)
          · obtain rfl : i = m2 := by omega
            obtain ⟨⟨x0, x1, x2⟩, -⟩ := three hI.out.2
            have hall := hF.out
            rw [← HM2.out, List.take_length] at hall
            have HP := hid (pchk_fin (k := k) HBAD.out HCB.out HC.out hall)
            have hsz := nsize_any 1000 [x] (by rw [cnts, cnts]; have := HCN.out; omega) (by omega) (some ⟨wr.heap.size, 0, none⟩) 1 1 (wr.alloc (.cells #[.int .u16 x.f0, .slice A1 m1 d1, .slice K i d2] 87)) rfl (kc_one (blk_new wr _) HM1.out HM2.out (G1.out.below (cthen hI.out.1 (below_alloc (Below.refl _ _) _))) L1.out (Kd.C_below G2.out (cthen hI.out.1 (below_alloc (Below.refl _ _) _))) L2.out)
            rw [szs_one] at hsz
            obtain ⟨N, hN⟩ : ∃ N, nsz x = N := ⟨_, rfl⟩
            rw [hN] at hsz HP
            clear hall hN
            by_cases hbig : (N : Int) > 65535
            · go_wp2_with fail
              refine hsz.mono ?_
              rintro e w9 ⟨rfl, hb⟩
              have B9 := hid (cthen (below_alloc hI.out.1 (.cells #[.int .u16 x.f0, .slice A1 m1 d1, .slice K i d2] 87)) hb)
              clear hb hsz x0 x1 x2
              go_wp2_with fail
              go_ret
              exact ⟨by rw [HP.out, if_pos (by omega)]; rfl, B9.out⟩
            · go_wp2_with fail
              refine hsz.mono ?_
              rintro e w9 ⟨rfl, hb⟩
              have B9 := hid (cthen (below_alloc hI.out.1 (.cells #[.int .u16 x.f0, .slice A1 m1 d1, .slice K i d2] 87)) hb)
              clear hb hsz x0 x1 x2
              go_wp2_with fail
              go_ret
              exact ⟨by rw [HP.out, if_neg (by omega)]; rfl, B9.out⟩
  | true =>
    have hfo := fAt_ok c x.f0 HFB.out.symm
    rw [HFR.out] at hfo
    have hft := sfits_any fk fr.ty fr.nm fr.least fr.most fr.unit fr.kids m1 W4 hfo.1 hfo.2.1 hfo.2.2.1 hfo.2.2.2
    obtain ⟨b1, hb1⟩ : ∃ b, fits fr.least fr.most fr.unit m1 = b := ⟨_, rfl⟩
    rw [hb1] at hft
    have HB1 := hid hb1
    clear hfo hb1
    go_wp2_with fail
    refine hft.mono ?_
    rintro e w5 ⟨rfl, hb⟩
    have B5 := hid (cthen Bc.out hb)
    have N5 := hid (blk_below Nc.out hb)
    have F5 := hid (blk_below Fc.out hb)
    clear hb hft x0 x1 x2 y0 y1 y2 y3 y4 y5 y6 Bc Nc Fc
    cases b1 with
    | false =>
      have HP := hid (pchk_bad (k := k) (show bad0 c x = true by unfold bad0; rw [← HFB.out, HM1.out, HFR.out, HB1.out]; rfl))
      go_wp2_with fail
      go_ret
      exact ⟨by rw [HP.out]; rfl, B5.out⟩
    | true =>
      obtain ⟨⟨x0, x1, x2⟩, -⟩ := three N5.out
      obtain ⟨⟨y0, y1, y2, y3, y4, y5, y6⟩, -⟩ := seven F5.out
      have hkd := nkids_any fk fr.ty fr.nm fr.least fr.most fr.unit fr.kids K m2 d2 x.f2 w5 HM2.out (Kd.C_below G2.out B5.out)
      obtain ⟨b2, hb2⟩ : ∃ b, kidsB fr.kids x.f2 = b := ⟨_, rfl⟩
      rw [hb2] at hkd
      have HB2 := hid hb2
      clear hb2
      go_wp2_with fail
      refine hkd.mono ?_
      rintro e w6 ⟨rfl, hb⟩
      have Bc := hid (cthen B5.out hb)
      have Nc := hid (blk_below N5.out hb)
      have Fc := hid (blk_below F5.out hb)
      clear hb hkd x0 x1 x2 y0 y1 y2 y3 y4 y5 y6 B5 N5 F5
      cases b2 with
      | false =>
        have HP := hid (pchk_bad (k := k) (show bad0 c x = true by unfold bad0; rw [← HFB.out, HM1.out, HFR.out, HB1.out, HB2.out]; rfl))
        go_wp2_with fail
        go_ret
        exact ⟨by rw [HP.out]; rfl, Bc.out⟩
      | true =>
        have HBAD := hid (show bad0 c x = false by unfold bad0; rw [← HFB.out, HM1.out, HFR.out, HB1.out, HB2.out]; rfl)
        obtain ⟨⟨x0, x1, x2⟩, -⟩ := three Nc.out
        obtain ⟨⟨y0, y1, y2, y3, y4, y5, y6⟩, -⟩ := seven Fc.out
        go_upto_region 7 with fail
        have hcnt := counted_any c x.f0 A1 d1 x.f1 w6 (G1.out.below Bc.out) HBY.out (by rw [HM1.out]; exact L1.out) (by have h1 := HCN.out; rw [cnt_eq] at h1; omega)
        rw [HM1.out] at hcnt
        obtain ⟨cb, hcb⟩ : ∃ cb, cntB c x.f0 x.f1 = cb := ⟨_, rfl⟩
        rw [hcb] at hcnt
        have HCB := hid hcb
        clear hcb
        go_wp2_with fail
        refine hcnt.mono ?_
        rintro e w7 ⟨rfl, hb⟩
        have B7 := hid (cthen Bc.out hb)
        have N7 := hid (blk_below Nc.out hb)
        have F7 := hid (blk_below Fc.out hb)
        clear hb hcnt x0 x1 x2 y0 y1 y2 y3 y4 y5 y6 Nc Fc
        cases cb with
        | true =>
          have HP := hid (pchk_cnt (k := k) HBAD.out HCB.out)
          go_wp2_with fail
          go_ret
          exact ⟨by rw [HP.out]; rfl, B7.out⟩
        | false =>
          obtain ⟨⟨x0, x1, x2⟩, -⟩ := three N7.out
          obtain ⟨⟨y0, y1, y2, y3, y4, y5, y6⟩, -⟩ := seven F7.out
          have hin := inside_any fr.kids w7
          obtain ⟨C, hC⟩ : ∃ C, (inside fr.kids).1 = C := ⟨_, rfl⟩
          rw [hC] at hin
          have HC := hid (show (inside (Sh.fAt c x.f0).2.kids).1 = C by rw [← HFK.out]; exact hC)
          clear hC
          go_wp2_with fail
          refine hin.mono ?_
          rintro e w8 ⟨rfl, hb⟩
          have B8 := hid (cthen B7.out hb)
          have N8 := hid (blk_below N7.out hb)
          clear hb hin x0 x1 x2 y0 y1 y2 y3 y4 y5 y6 N7 F7
          obtain ⟨⟨x0, x1, x2⟩, -⟩ := three N8.out
          go_wp2_with fail
          clear x0 x1 x2
          go_loopw [69] (fun vi W => ∃ i : Nat, vi = .int .i64 i ∧ i ≤ m2 ∧ Hid (fstE ((x.f2.take i).map (pchk k C)) = 0) ∧ Hid (Below w.heap.size w W ∧ W.heap[w.heap.size]? = some (.cells #[.int .u16 x.f0, .slice A1 m1 d1, .slice K m2 d2] 87 (0, 0)))) (fun vi _ => m2 - (intOf vi).toNat)
          case atStart => exact ⟨0, rfl, by omega, hid rfl, hid ⟨B8.out, N8.out⟩⟩
          case round =>
            obtain ⟨i, rfl, hi, hF, hI⟩ := hrel
            by_cases hlt : i < m2
            · have hil : i < x.f2.length := by have := HM2.out; omega
              obtain ⟨b, off, E1, e1, E2, e2, rfl, k0, k1, k2, l1, g1, l2, g2⟩ := node_at (Kd.C_below G2.out hI.out.1) i hil
              have hoky := okL_at _ HOKL.out _ (List.getElem_mem hil)
              have hcy := cnts_at _ _ (List.getElem_mem hil)
              have hcn := HCN.out
              rw [cnt_eq] at hcn
              have hft := fst_take (pchk k C) x.f2 i hil
              have hfs := fst_stop (pchk k C) x.f2 i hil hF.out
              rw [if_pos hF.out] at hft
              obtain ⟨y, hy⟩ : ∃ y, x.f2[i] = y := ⟨_, rfl⟩
              rw [hy] at k0 k1 k2 l1 g1 l2 g2 hoky hcy hft hfs
              obtain ⟨n1, hn1⟩ : ∃ m, y.f1.length = m := ⟨_, rfl⟩
              obtain ⟨n2, hn2⟩ : ∃ m, y.f2.length = m := ⟨_, rfl⟩
              rw [hn1] at k1 l1
              rw [hn2] at k2 l2 g2
              have hml : m2 ≤ 1000 := by have := len_cnts x.f2; have := HM2.out; omega
              have HWI := hid (show wrap64 ((i : Int) + 1) = ((i + 1 : Nat) : Int) by unfold wrap64; omega)
              have hcall := HIH.out C y E1 E2 n1 e1 n2 e2 (wr.alloc (.cells #[.int .u16 y.f0, .slice E1 n1 e1, .slice E2 n2 e2] 87)) hn1 hn2 (by omega) hoky (g1.below (below_alloc (Below.refl _ _) _)) l1 (Kd.C_below g2 (below_alloc (Below.refl _ _) _)) l2
              obtain ⟨r, hr⟩ : ∃ r, pchk k C y = r := ⟨_, rfl⟩
              rw [hr] at hcall hft hfs
              rw [← HD1.out] at hcall
              unfold ErrPost at hcall
              have HFT := hid hft
              have HFS := hid hfs
              by_cases hr0 : r = 0
              · subst hr0
                rw [eV_zero] at hcall
                clear hy hn1 hn2 hml hoky hcy hcn hft hfs l1 l2 g1 g2 hr hil HFS
                go_wp2_with fail
                refine hcall.mono ?_
                rintro e w9 ⟨rfl, hb⟩
                have B9 := hid (cthen (below_alloc hI.out.1 (.cells #[.int .u16 y.f0, .slice E1 n1 e1, .slice E2 n2 e2] 87)) hb)
                have N9 := hid (blk_below (blk_alloc (x := .cells #[.int .u16 y.f0, .slice E1 n1 e1, .slice E2 n2 e2] 87) hI.out.2) hb)
                clear hb hcall k0 k1 k2
                go_wp2_with fail
                exact ⟨⟨i + 1, by rw [HWI.out], hlt, hid HFT.out, hid ⟨B9.out, N9.out⟩⟩, by rw [HWI.out]; simp only [intOf, Int.toNat_natCast]; omega⟩
              · rw [eV_code hr0] at hcall
                have HR0 := hid hr0
                clear hy hn1 hn2 hml hoky hcy hcn hft hfs l1 l2 g1 g2 hr hil HFT hr0
                go_wp2_with fail
                refine hcall.mono ?_
                rintro e w9 ⟨rfl, hb⟩
                have B9 := hid (cthen (below_alloc hI.out.1 (.cells #[.int .u16 y.f0, .slice E1 n1 e1, .slice E2 n2 e2] 87)) hb)
                have HP := hid (pchk_kid (k := k) HBAD.out HCB.out HC.out (HFS.out HR0.out) HR0.out)
                clear hb hcall k0 k1 k2
                go_wp2_with fail
                go_ret
                exact ⟨by rw [HP.out, eV_code HR0.out]; rfl, B9.out⟩
            · obtain rfl : i = m2 := by omega
              obtain ⟨⟨x0, x1, x2⟩, -⟩ := three hI.out.2
              have hall := hF.out
              rw [← HM2.out, List.take_length] at hall
              have HP := hid (pchk_fin (k := k) HBAD.out HCB.out HC.out hall)
              have hsz := nsize_any 1000 [x] (by rw [cnts, cnts]; have := HCN.out; omega) (by omega) (some ⟨wr.heap.size, 0, none⟩) 1 1 (wr.alloc (.cells #[.int .u16 x.f0, .slice A1 m1 d1, .slice K i d2] 87)) rfl (kc_one (blk_new wr _) HM1.out HM2.out (G1.out.below (cthen hI.out.1 (below_alloc (Below.refl _ _) _))) L1.out (Kd.C_below G2.out (cthen hI.out.1 (below_alloc (Below.refl _ _) _))) L2.out)
              rw [szs_one] at hsz
              obtain ⟨N, hN⟩ : ∃ N, nsz x = N := ⟨_, rfl⟩
              rw [hN] at hsz HP
              clear hall hN
              by_cases hbig : (N : Int) > 65535
              · go_wp2_with fail
                refine hsz.mono ?_
                rintro e w9 ⟨rfl, hb⟩
                have B9 := hid (cthen (below_alloc hI.out.1 (.cells #[.int .u16 x.f0, .slice A1 m1 d1, .slice K i d2] 87)) hb)
                clear hb hsz x0 x1 x2
                go_wp2_with fail
                go_ret
                exact ⟨by rw [HP.out, if_pos (by omega)]; rfl, B9.out⟩
              · go_wp2_with fail
                refine hsz.mono ?_
                rintro e w9 ⟨rfl, hb⟩
                have B9 := hid (cthen (below_alloc hI.out.1 (.cells #[.int .u16 x.f0, .slice A1 m1 d1, .slice K i d2] 87)) hb)
                clear hb hsz x0 x1 x2
                go_wp2_with fail
                go_ret
                exact ⟨by rw [HP.out, if_neg (by omega)]; rfl, B9.out⟩
theorem check_any : ∀ k, k ≤ 5 → ChC k := by
  intro k
  induction k with
  | zero => intro _; exact check_zero
  | succ k ih => intro hk; exact check_step k (by omega) (ih (by omega))
set_option maxHeartbeats 1000000 in
theorem nCheck_any (c : Int) (x : Nd) (A1 K : Option Addr) (m1 d1 m2 d2 : Nat) (w : World) (hm1 : x.f1.length = m1) (hm2 : x.f2.length = m2) (hcn : cnt x ≤ 1000) (hok : okN x) (g1 : BC w A1 x.f1) (l1 : m1 ≤ d1) (g2 : Kd.C k87 w K m2 x.f2) (l2 : m2 ≤ d2) :
    Calls Tryz.prog 52 #[.int .i64 c, .agg #[.int .u16 x.f0, .slice A1 m1 d1, .slice K m2 d2]] w (ErrPost (codeE (pchk 4 c x)) w) := by
  have B0 := hid (below_alloc (Below.refl w.heap.size w) (.cells #[.int .u16 x.f0, .slice A1 m1 d1, .slice K m2 d2] 87))
  have N0 := hid (blk_new w (.cells #[.int .u16 x.f0, .slice A1 m1 d1, .slice K m2 d2] 87))
  obtain ⟨⟨x0, x1, x2⟩, -⟩ := three N0.out
  have hcall := hid (check_any 4 (by omega) c x A1 K m1 d1 m2 d2 _ hm1 hm2 hcn hok (g1.below B0.out) l1 (Kd.C_below g2 B0.out) l2)
  clear hm1 hm2 hcn hok g1 l1 g2 l2
  go_enter Tryz.func52, Tryz.ntmps52
  go_wp2_with fail
  refine hcall.out.mono ?_
  rintro e w1 ⟨rfl, hb⟩
  have B1 := hid (cthen B0.out hb)
  clear hb
  go_wp2_with fail
  go_ret
  exact ⟨rfl, B1.out⟩
end Bn
end Go.Proofs.YtmfmomfhiieilaaGreatDoor
