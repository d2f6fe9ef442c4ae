/- 'wharfref12.Check' gives the package's code at any chunk. -/
import Derived.Test.YtmfmomfhiieilaaGreatDoorBps
set_option linter.unusedVariables false
set_option linter.unusedSimpArgs false
namespace Go.Proofs.YtmfmomfhiieilaaGreatDoor
open Go.RowKit Go.Shelf Go.Proofs.YtmfmomfhiieilaaGreatDoor.It Go.Proofs.YtmfmomfhiieilaaGreatDoorW.PrintWords Go.Proofs.YtmfmomfhiieilaaGreatDoorW.PrintLast Go.Proofs.YtmfmomfhiieilaaGreatDoorW.PrintMore
namespace Bn
open PBundleSorted
theorem cl2_blw {w0 W W' : World} {p q : Nat} {v0 v1 : Value} (h : Below w0.heap.size w0 W ∧ W.cell? ⟨p, 6, none⟩ = some v0 ∧ W.cell? ⟨q, 3, none⟩ = some v1) (hb : Below W.heap.size W W') : Below w0.heap.size w0 W' ∧ W'.cell? ⟨p, 6, none⟩ = some v0 ∧ W'.cell? ⟨q, 3, none⟩ = some v1 :=
  ⟨cthen h.1 hb, pw_cell_below hb h.2.1, pw_cell_below hb h.2.2⟩
theorem headE_known {t f : Int} {D : List Int} {xs : List Nd} (hk : kHas t = true) : headE t f D xs = orE (flagsE f (kOf t).mask) (dataE (kOf t) D.length) (kErr (wantK (kOf t).kids xs)) (countE t D) (valueE t D) := by unfold headE; rw [if_pos hk]
theorem or_1 {a b c d e : Option (Int × Option Int)} {p : Int × Option Int} (h : a = some p) : orE a b c d e = some p := by subst h; rfl
theorem or_2 {a b c d e : Option (Int × Option Int)} {p : Int × Option Int} (h0 : a = none) (h : b = some p) : orE a b c d e = some p := by subst h0; subst h; rfl
theorem or_3 {a b c d e : Option (Int × Option Int)} {p : Int × Option Int} (h0 : a = none) (h1 : b = none) (h : c = some p) : orE a b c d e = some p := by subst h0; subst h1; subst h; rfl
theorem or_4 {a b c d e : Option (Int × Option Int)} {p : Int × Option Int} (h0 : a = none) (h1 : b = none) (h2 : c = none) (h : d = some p) : orE a b c d e = some p := by subst h0; subst h1; subst h2; subst h; rfl
theorem or_5 {a b c d e : Option (Int × Option Int)} (h0 : a = none) (h1 : b = none) (h2 : c = none) (h3 : d = none) : orE a b c d e = e := by subst h0; subst h1; subst h2; subst h3; rfl
theorem count_some {t : Int} {D : List Int} (h : countE t D ≠ none) : countE t D = some (8, some 12) := by
  unfold countE at *
  split
  · rename_i h1
    rw [if_pos h1] at h
    split
    · rfl
    · rename_i h2; rw [if_neg h2] at h; exact absurd rfl h
  · rename_i h1; rw [if_neg h1] at h; exact absurd rfl h
theorem value_some {t : Int} {D : List Int} (h : valueE t D ≠ none) : ∃ a, valueE t D = some (11, a) := by
  unfold valueE val64E valE at *
  split
  · rename_i h1
    rw [if_pos h1] at h
    split
    · rename_i h2; rw [if_pos h2] at h; exact absurd rfl h
    · exact ⟨_, rfl⟩
  · rename_i h1
    rw [if_neg h1] at h
    split
    · rename_i h2
      rw [if_pos h2] at h
      split
      · exact ⟨_, rfl⟩
      · rename_i h3; rw [if_neg h3] at h; exact absurd rfl h
    · rename_i h2; rw [if_neg h2] at h; exact absurd rfl h
set_option maxRecDepth 100000 in
set_option maxHeartbeats 20000000 in
theorem rCk_known (t f : Int) (A K : Option Addr) (n c m d : Nat) (D : List Int) (xs : List Nd) (w : World) (hk : kHas t = true) (hf0 : 0 ≤ f) (hf1 : f ≤ 255) (hn : D.length = n) (hC : BC w A D) (hB : Byt D) (hc : n ≤ c) (hl : n ≤ 1000000) (hm : xs.length = m) (hK : Kd.C k87 w K m xs) (hd : m ≤ d) (hcn : cnts xs ≤ 1000) (hok : okL xs) :
    Calls Tryz.prog 30 #[ckV t f A n c K m d] w (IsPost (.int .i64 (pCk t f D xs)) w) := by
  have hof := fun W => wharfref11_Of.calls 0 t (kOf t).ty (kOf t).nm (kOf t).mask (kOf t).least (kOf t).most (kOf t).unit (kOf t).kids (kHas t) W rfl
  have hrok := (kOf_ok t hk).1
  have HROK := hid hrok
  obtain ⟨l0, l1, l2, l3, hk0, hk6, l4, mk0, mk1, -⟩ := hrok
  have hfl := flags_iff f (kOf t).mask hf0 hf1 (kOf_mask t)
  have hft := fun W => rfits_any (kOf t) HROK.out (n : Int) W
  have hwt := fun W (hW : Below w.heap.size w W) => rwant12_any (kOf t).ty (kOf t).nm (kOf t).mask (kOf t).least (kOf t).most (kOf t).unit (kOf t).kids K d m xs W hk0 hk6 hm (Kd.C_below hK hW) hd
  have hcl := fun W => rclass_any (kOf t).kids hk0 hk6 W
  obtain ⟨C, hCC⟩ : ∃ C, (iR (kOf t).kids).1 = C := ⟨_, rfl⟩
  have HC := hid hCC
  rw [hCC] at hcl
  have HM := hid hm
  have HK := hid hK
  have HCN := hid hcn
  have HOKL := hid hok
  have HN := hid hn
  have HL := hid hl
  have HBC := hid hC
  have HCC := hid hc
  have HMD := hid hd
  have HHE := hid (headE_known (t := t) (f := f) (D := D) (xs := xs) hk)
  have HCT := hid (fun hdn => rcnt_any t A c n D hk hdn hn hB hc hl)
  have HOD := hid (fun hdn => rodd_any t A c n D hk hdn hn hB hc hl)
  obtain ⟨F1, hF1⟩ : ∃ F, flagsE f (kOf t).mask = F := ⟨_, rfl⟩
  rw [hF1] at hfl
  have HF1 := hid hF1
  have hde : dataE (kOf t) D.length = if fits (kOf t).least (kOf t).most (kOf t).unit n = true then none else some (7, some 0) := by unfold dataE; rw [hn]
  obtain ⟨b1, hb1⟩ : ∃ b, fits (kOf t).least (kOf t).most (kOf t).unit n = b := ⟨_, rfl⟩
  rw [hb1] at hft hde
  obtain ⟨b2, hb2⟩ : ∃ b, wantK (kOf t).kids xs = b := ⟨_, rfl⟩
  have HB2 := hid hb2
  rw [hb2] at hwt
  have HDE := hid hde
  have HFT := hid hft
  have HWT := hid hwt
  have hw1 := hid (show wrap64 (255 - (kOf t).mask) = 255 - (kOf t).mask by unfold wrap64; omega)
  have hw2 := hid (show wrap64 f = f by unfold wrap64; omega)
  have hw3 := hid (show wrap64 (kOf t).mask = (kOf t).mask by unfold wrap64; omega)
  have hfl2 : (bits .and .i64 (wrap64 f) (wrap64 (255 - wrap64 (kOf t).mask)) != 0) = F1.isSome := by rw [hw3.out, hw1.out, hw2.out]; exact hfl
  rw [hk] at hof
  have HOF := hid hof
  have HCL := hid hcl
  clear hm hK hd hcn hok hn hl hC hB hc hf0 hf1 hCC hof hcl HROK l0 l1 l2 l3 l4 mk0 mk1 hfl hF1 hb1 hb2 hde hft hwt hw1 hw2 hw3
  obtain ⟨r, hr⟩ : ∃ r, kOf t = r := ⟨_, rfl⟩
  rw [hr] at HOF HCL HFT HWT hfl2
  clear hr hk0 hk6
  obtain ⟨ty, nm, mask, lo, hi, un, kd⟩ := r
  try unfold KR.val at *
  simp only at *
  have B0 := hid (below_alloc (Below.refl w.heap.size w) (.cells #[.int .u8 t, .int .u8 f, .slice A n c, .slice K m d] 42))
  have K0 := hid (blk_new w (.cells #[.int .u8 t, .int .u8 f, .slice A n c, .slice K m d] 42))
  obtain ⟨⟨x0, x1, x2, x3⟩, -⟩ := four K0.out
  unfold ckV
  go_enter Tryz.func30, Tryz.ntmps30
  go_wp2_with fail
  refine (HOF.out _).mono ?_
  rintro e w1 ⟨rfl, hb⟩
  have B1 := hid (cthen B0.out hb)
  have K1 := hid (blk_below K0.out hb)
  clear hb K0 B0 x0 x1 x2 x3
  go_upto_region 2 with fail
  obtain ⟨w2, hw2⟩ : ∃ w2, w1.alloc (.cells #[.int .u8 ty, .string nm, .int .u8 mask, .int .i64 lo, .int .i64 hi, .int .i64 un, .int .i64 kd] 95) = w2 := ⟨_, rfl⟩
  have hbS : Below w1.heap.size w1 w2 := by rw [← hw2]; exact below_alloc (Below.refl _ _) _
  have B2 := hid (cthen B1.out hbS)
  have K2 := hid (blk_below K1.out hbS)
  have Q2 := hid (show w2.heap[w1.heap.size]? = some (.cells #[.int .u8 ty, .string nm, .int .u8 mask, .int .i64 lo, .int .i64 hi, .int .i64 un, .int .i64 kd] 95 (0, 0)) by rw [← hw2]; exact blk_new w1 _)
  rw [hw2]
  clear hw2 hbS B1 K1
  obtain ⟨⟨x0, x1, x2, x3⟩, -⟩ := four K2.out
  obtain ⟨⟨y0, y1, y2, y3, y4, y5, y6⟩, -⟩ := seven Q2.out
  cases F1 with
  | some p =>
    have h6 := flagsE_at f (kOf t).mask
    rw [HF1.out] at h6
    have h6' : p = (6, some 1) := by rcases h6 with h | h; (simp at h); (simpa using h)
    subst h6'
    have HP := hid (pCk_head (HHE.out.trans (or_1 HF1.out)))
    have hfl3 : (bits .and .i64 (wrap64 f) (wrap64 (255 - wrap64 mask)) != 0) = true := hfl2
    clear hfl2 h6
    go_wp2_with fail
    go_ret
    exact ⟨by rw [HP.out]; rfl, B2.out⟩
  | none =>
    have hfl3 : (bits .and .i64 (wrap64 f) (wrap64 (255 - wrap64 mask)) != 0) = false := hfl2
    clear hfl2
    go_wp2_with fail
    refine (HFT.out _).mono ?_
    rintro e w3 ⟨rfl, hb⟩
    have B3 := hid (cthen B2.out hb)
    have K3 := hid (blk_below K2.out hb)
    have Q3 := hid (blk_below Q2.out hb)
    clear hb x0 x1 x2 x3 y0 y1 y2 y3 y4 y5 y6
    obtain ⟨⟨x0, x1, x2, x3⟩, -⟩ := four K3.out
    obtain ⟨⟨y0, y1, y2, y3, y4, y5, y6⟩, -⟩ := seven Q3.out
    cases b1 with
    | false =>
      have HP := hid (pCk_head (HHE.out.trans (or_2 HF1.out (HDE.out.trans (if_neg (by decide))))))
      go_wp2_with fail
      go_ret
      exact ⟨by rw [HP.out]; rfl, B3.out⟩
    | true =>
      have HDN := hid (HDE.out.trans (if_pos rfl))
      go_wp2_with fail
      refine (HWT.out _ B3.out).mono ?_
      rintro e w4 ⟨rfl, hb⟩
      have B4 := hid (cthen B3.out hb)
      have K4 := hid (blk_below K3.out hb)
      have Q4 := hid (blk_below Q3.out hb)
      clear hb x0 x1 x2 x3 y0 y1 y2 y3 y4 y5 y6
      obtain ⟨⟨x0, x1, x2, x3⟩, -⟩ := four K4.out
      obtain ⟨⟨y0, y1, y2, y3, y4, y5, y6⟩, -⟩ := seven Q4.out
      cases b2 with
      | false =>
        have HP := hid (pCk_head (HHE.out.trans (or_3 HF1.out HDN.out (by rw [HB2.out]; rfl))))
        go_wp2_with fail
        go_ret
        exact ⟨by rw [HP.out]; rfl, B4.out⟩
      | true =>
        have HKN := hid (show kErr (wantK (kOf t).kids xs) = none by rw [HB2.out]; rfl)
        obtain ⟨cb, hcb, hcnt⟩ := HCT.out HDN.out
        have HCNT := hid hcnt
        have HCB := hid hcb
        clear hcb hcnt
        go_wp2_with fail
        refine (HCNT.out _ (HBC.out.below B4.out)).mono ?_
        rintro e w5 ⟨rfl, hb⟩
        have B5 := hid (cthen B4.out hb)
        have K5 := hid (blk_below K4.out hb)
        have Q5 := hid (blk_below Q4.out hb)
        clear hb x0 x1 x2 x3 y0 y1 y2 y3 y4 y5 y6
        obtain ⟨⟨x0, x1, x2, x3⟩, -⟩ := four K5.out
        obtain ⟨⟨y0, y1, y2, y3, y4, y5, y6⟩, -⟩ := seven Q5.out
        cases cb with
        | false =>
          have HP := hid (pCk_head (HHE.out.trans (or_4 HF1.out HDN.out HKN.out (count_some (fun h => by have := HCB.out.2 h; cases this)))))
          go_wp2_with fail
          go_ret
          exact ⟨by rw [HP.out]; rfl, B5.out⟩
        | true =>
          have HCE := hid (HCB.out.1 rfl)
          obtain ⟨od, hod, hodc⟩ := HOD.out HDN.out
          have HODC := hid hodc
          have HODI := hid hod
          clear hod hodc
          go_wp2_with fail
          refine (HODC.out _ (HBC.out.below B5.out)).mono ?_
          rintro e w6 ⟨rfl, hb⟩
          have B6 := hid (cthen B5.out hb)
          have K6 := hid (blk_below K5.out hb)
          have Q6 := hid (blk_below Q5.out hb)
          clear hb x0 x1 x2 x3 y0 y1 y2 y3 y4 y5 y6
          obtain ⟨⟨x0, x1, x2, x3⟩, -⟩ := four K6.out
          obtain ⟨⟨y0, y1, y2, y3, y4, y5, y6⟩, -⟩ := seven Q6.out
          by_cases ho : 0 ≤ od
          · have hv := value_some (HODI.out.1 ho)
            obtain ⟨va, hva⟩ := hv
            have HP := hid (pCk_head (HHE.out.trans ((or_5 HF1.out HDN.out HKN.out HCE.out).trans hva)))
            clear hva
            go_wp2_with fail
            go_ret
            exact ⟨by rw [HP.out]; rfl, B6.out⟩
          · have HVN := hid (show valueE t D = none by
              cases hv : valueE t D with
              | none => rfl
              | some p => exact absurd (HODI.out.2 (by rw [hv]; simp)) ho)
            have HHD := hid (HHE.out.trans ((or_5 HF1.out HDN.out HKN.out HCE.out).trans HVN.out))
            go_upto_region 10 with fail
            obtain ⟨⟨x0, x1, x2, x3⟩, -⟩ := four K6.out
            obtain ⟨⟨y0, y1, y2, y3, y4, y5, y6⟩, -⟩ := seven Q6.out
            have hS0 : Below w6.heap.size w6 w6.drew ∧ w6.drew.cell? ⟨w1.heap.size, 6, none⟩ = some (.int .i64 kd) ∧ w6.drew.cell? ⟨w.heap.size, 3, none⟩ = some (.slice K m d) := ⟨below_drew (Below.refl _ _) 1, y6, x3⟩
            have HAL := hid (fun W (hW : Below w6.heap.size w6 W) => rall_any C K m d xs W HM.out HCN.out HOKL.out (Kd.C_below HK.out (cthen B6.out hW)))
            clear x0 x1 x2 x3 y0 y1 y2 y3 y4 y5 y6
            refine start_ (n := 7) (S := fun W => Below w6.heap.size w6 W ∧ W.cell? ⟨w1.heap.size, 6, none⟩ = some (.int .i64 kd) ∧ W.cell? ⟨w.heap.size, 3, none⟩ = some (.slice K m d)) (ds := [5]) (bA 7 0) (by kernel_rfl) rfl rfl hS0 (fun hHeld => ?_)
            generalize w6.drew = w44 at hS0 hHeld ⊢
            refine pU 0 (some 68) (bA 7 1) rfl rfl ?_
            refine pU 3 (some 71) (bA 7 9) rfl rfl ?_
            refine tU 1 (some 69) (bA 7 11) rfl rfl hHeld (by rintro w' ⟨q0, q1, q2⟩; go_simp; with_reducible rfl) ?_
            refine tU 4 (some 72) (bA 7 27) rfl rfl hHeld (by rintro w' ⟨q0, q1, q2⟩; go_simp; with_reducible rfl) ?_
            refine one_ (i := 2) (N := some 70) (bA 7 31) rfl rfl (by kernel_rfl) (by decide) (fun KK hK => ?_)
            refine goes_ Tryz.func63 (by kernel_rfl) rfl #[.int .i64 kd] (by rfl) rfl rfl (by simp only [List.map_toArray, List.map_cons, List.map_nil]; rfl) ?_
            refine Calls.mono (HCL.out _) ?_
            rintro e W6 ⟨rfl, hb6⟩
            refine ⟨_, rfl, ?_⟩
            have hS6 := cl2_blw hHeld hb6
            refine hK.out _ _ hS6 (fun hHeld6 => ?_)
            clear hK KK
            refine nU ?_
            refine last_ (i := 5) (N := some 73) (bA 7 63) rfl rfl (by kernel_rfl) (by decide) (fun KK hK => ?_)
            refine goes_ Tryz.func62 (by kernel_rfl) rfl #[.int .i64 C, .slice K m d] (by rfl) rfl rfl (by simp only [List.map_toArray, List.map_cons, List.map_nil]; rfl) ?_
            refine Calls.mono (HAL.out _ hHeld6.1) ?_
            rintro e W ⟨rfl, hb⟩
            refine ⟨_, rfl, ?_⟩
            have HBW := hid (cthen hHeld6.1 hb)
            clear hb
            refine hK.out _ _ ?_
            clear hK KK
            refine nU ?_
            refine pU 6 (some 5) (bA 7 127) rfl rfl ?_
            refine done_ (by kernel_rfl) ?_
            have B9 := hid (cthen B6.out HBW.out)
            have K9 := hid (blk_below K6.out HBW.out)
            obtain ⟨⟨x0, x1, x2, x3⟩, -⟩ := four K9.out
            obtain ⟨R9, hR9⟩ : ∃ R, fstE (xs.map (pchk 4 C)) = R := ⟨_, rfl⟩
            rw [hR9]
            have HR9 := hid hR9
            clear hR9
            by_cases hr0 : R9 = 0
            · have HP := hid (pCk_fin HHD.out HC.out (HR9.out.trans hr0))
              subst hr0
              have hcs := rsize12_any t f A K n c m d D xs W HN.out HM.out (HBC.out.below B9.out) HCC.out (Kd.C_below HK.out B9.out) HMD.out HCN.out HL.out
              obtain ⟨N, hN⟩ : ∃ N, 4 + n + szs (nszs xs) = N := ⟨_, rfl⟩
              rw [hN] at hcs
              rw [HN.out, hN] at HP
              clear hN
              unfold ckV at hcs
              by_cases hbig : (N : Int) > 65535
              · go_wp2_with fail
                refine hcs.mono ?_
                rintro e w10 ⟨rfl, hb⟩
                have B10 := hid (cthen B9.out hb)
                clear hb hcs x0 x1 x2 x3
                go_wp2_with fail
                go_ret
                exact ⟨by rw [HP.out, if_pos (by omega)]; rfl, B10.out⟩
              · go_wp2_with fail
                refine hcs.mono ?_
                rintro e w10 ⟨rfl, hb⟩
                have B10 := hid (cthen B9.out hb)
                clear hb hcs x0 x1 x2 x3
                go_wp2_with fail
                go_ret
                exact ⟨by rw [HP.out, if_neg (by omega)]; rfl, B10.out⟩
            · have hrb : (R9 != 0) = true := by simpa using hr0
              have HP := hid (pCk_kid HHD.out HC.out HR9.out hr0)
              clear hr0
              go_wp2_with fail
              go_ret
              exact ⟨by rw [HP.out]; rfl, B9.out⟩
set_option maxRecDepth 100000 in
set_option maxHeartbeats 20000000 in
theorem rCk_unknown (t f : Int) (A K : Option Addr) (n c m d : Nat) (D : List Int) (xs : List Nd) (w : World) (hk : kHas t = false) (hf0 : 0 ≤ f) (hf1 : f ≤ 255) (hn : D.length = n) (hC : BC w A D) (hB : Byt D) (hc : n ≤ c) (hl : n ≤ 1000000) (hm : xs.length = m) (hK : Kd.C k87 w K m xs) (hd : m ≤ d) (hcn : cnts xs ≤ 1000) (hok : okL xs) :
    Calls Tryz.prog 30 #[ckV t f A n c K m d] w (IsPost (.int .i64 (pCk t f D xs)) w) := by
  have hof := fun W => wharfref11_Of.calls 0 t (kOf t).ty (kOf t).nm (kOf t).mask (kOf t).least (kOf t).most (kOf t).unit (kOf t).kids (kHas t) W rfl
  have hz := kOf_zero t hk
  have hk0 : 0 ≤ (kOf t).kids := by rw [hz]; decide
  have hk6 : (kOf t).kids ≤ 6 := by rw [hz]; decide
  have hcl := fun W => rclass_any (kOf t).kids hk0 hk6 W
  obtain ⟨C, hCC⟩ : ∃ C, (iR (kOf t).kids).1 = C := ⟨_, rfl⟩
  have HC := hid hCC
  rw [hCC] at hcl
  have HM := hid hm
  have HK := hid hK
  have HCN := hid hcn
  have HOKL := hid hok
  have HN := hid hn
  have HL := hid hl
  have HBC := hid hC
  have HCC := hid hc
  have HMD := hid hd
  have HHE := hid (show headE t f D xs = if 0 < xs.length then some (7, none) else none by unfold headE; rw [if_neg (by rw [hk]; decide)])
  rw [hk] at hof
  have HOF := hid hof
  have HCL := hid hcl
  clear hm hK hd hcn hok hn hl hC hB hc hf0 hf1 hCC hof hcl hz
  obtain ⟨r, hr⟩ : ∃ r, kOf t = r := ⟨_, rfl⟩
  rw [hr] at HOF HCL
  clear hr hk0 hk6
  obtain ⟨ty, nm, mask, lo, hi, un, kd⟩ := r
  try unfold KR.val at *
  simp only at *
  have B0 := hid (below_alloc (Below.refl w.heap.size w) (.cells #[.int .u8 t, .int .u8 f, .slice A n c, .slice K m d] 42))
  have K0 := hid (blk_new w (.cells #[.int .u8 t, .int .u8 f, .slice A n c, .slice K m d] 42))
  obtain ⟨⟨x0, x1, x2, x3⟩, -⟩ := four K0.out
  unfold ckV
  go_enter Tryz.func30, Tryz.ntmps30
  go_wp2_with fail
  refine (HOF.out _).mono ?_
  rintro e w1 ⟨rfl, hb⟩
  have B1 := hid (cthen B0.out hb)
  have K1 := hid (blk_below K0.out hb)
  clear hb K0 B0 x0 x1 x2 x3
  go_upto_region 2 with fail
  obtain ⟨w2, hw2⟩ : ∃ w2, w1.alloc (.cells #[.int .u8 ty, .string nm, .int .u8 mask, .int .i64 lo, .int .i64 hi, .int .i64 un, .int .i64 kd] 95) = w2 := ⟨_, rfl⟩
  have hbS : Below w1.heap.size w1 w2 := by rw [← hw2]; exact below_alloc (Below.refl _ _) _
  have B2 := hid (cthen B1.out hbS)
  have K2 := hid (blk_below K1.out hbS)
  have Q2 := hid (show w2.heap[w1.heap.size]? = some (.cells #[.int .u8 ty, .string nm, .int .u8 mask, .int .i64 lo, .int .i64 hi, .int .i64 un, .int .i64 kd] 95 (0, 0)) by rw [← hw2]; exact blk_new w1 _)
  rw [hw2]
  clear hw2 hbS B1 K1
  obtain ⟨⟨x0, x1, x2, x3⟩, -⟩ := four K2.out
  obtain ⟨⟨y0, y1, y2, y3, y4, y5, y6⟩, -⟩ := seven Q2.out
  by_cases hm0 : (0 : Int) < (m : Int)
  · have HH7 := hid (show headE t f D xs = some (7, none) by rw [HHE.out, if_pos (by have := HM.out; omega)])
    have HP := hid (pCk_head HH7.out)
    go_wp2_with fail
    go_ret
    exact ⟨by rw [HP.out]; rfl, B2.out⟩
  · obtain rfl : m = 0 := by omega
    have HHD := hid (show headE t f D xs = none by rw [HHE.out, if_neg (by have := HM.out; omega)])
    go_upto_region 10 with fail
    obtain ⟨⟨x0, x1, x2, x3⟩, -⟩ := four K2.out
    obtain ⟨⟨y0, y1, y2, y3, y4, y5, y6⟩, -⟩ := seven Q2.out
    have hS0 : Below w2.heap.size w2 w2.drew ∧ w2.drew.cell? ⟨w1.heap.size, 6, none⟩ = some (.int .i64 kd) ∧ w2.drew.cell? ⟨w.heap.size, 3, none⟩ = some (.slice K 0 d) := ⟨below_drew (Below.refl _ _) 1, y6, x3⟩
    have HAL := hid (fun W (hW : Below w2.heap.size w2 W) => rall_any C K 0 d xs W HM.out HCN.out HOKL.out (Kd.C_below HK.out (cthen B2.out hW)))
    clear x0 x1 x2 x3 y0 y1 y2 y3 y4 y5 y6
    refine start_ (n := 7) (S := fun W => Below w2.heap.size w2 W ∧ W.cell? ⟨w1.heap.size, 6, none⟩ = some (.int .i64 kd) ∧ W.cell? ⟨w.heap.size, 3, none⟩ = some (.slice K 0 d)) (ds := [5]) (bA 7 0) (by kernel_rfl) rfl rfl hS0 (fun hHeld => ?_)
    generalize w2.drew = w44 at hS0 hHeld ⊢
    refine pU 0 (some 68) (bA 7 1) rfl rfl ?_
    refine pU 3 (some 71) (bA 7 9) rfl rfl ?_
    refine tU 1 (some 69) (bA 7 11) rfl rfl hHeld (by rintro w' ⟨q0, q1, q2⟩; go_simp; with_reducible rfl) ?_
    refine tU 4 (some 72) (bA 7 27) rfl rfl hHeld (by rintro w' ⟨q0, q1, q2⟩; go_simp; with_reducible rfl) ?_
    refine one_ (i := 2) (N := some 70) (bA 7 31) rfl rfl (by kernel_rfl) (by decide) (fun KK hK => ?_)
    refine goes_ Tryz.func63 (by kernel_rfl) rfl #[.int .i64 kd] (by rfl) rfl rfl (by simp only [List.map_toArray, List.map_cons, List.map_nil]; rfl) ?_
    refine Calls.mono (HCL.out _) ?_
    rintro e W6 ⟨rfl, hb6⟩
    refine ⟨_, rfl, ?_⟩
    have hS6 := cl2_blw hHeld hb6
    refine hK.out _ _ hS6 (fun hHeld6 => ?_)
    clear hK KK
    refine nU ?_
    refine last_ (i := 5) (N := some 73) (bA 7 63) rfl rfl (by kernel_rfl) (by decide) (fun KK hK => ?_)
    refine goes_ Tryz.func62 (by kernel_rfl) rfl #[.int .i64 C, .slice K 0 d] (by rfl) rfl rfl (by simp only [List.map_toArray, List.map_cons, List.map_nil]; rfl) ?_
    refine Calls.mono (HAL.out _ hHeld6.1) ?_
    rintro e W ⟨rfl, hb⟩
    refine ⟨_, rfl, ?_⟩
    have HBW := hid (cthen hHeld6.1 hb)
    clear hb
    refine hK.out _ _ ?_
    clear hK KK
    refine nU ?_
    refine pU 6 (some 5) (bA 7 127) rfl rfl ?_
    refine done_ (by kernel_rfl) ?_
    have B9 := hid (cthen B2.out HBW.out)
    have K9 := hid (blk_below K2.out HBW.out)
    obtain ⟨⟨x0, x1, x2, x3⟩, -⟩ := four K9.out
    obtain ⟨R9, hR9⟩ : ∃ R, fstE (xs.map (pchk 4 C)) = R := ⟨_, rfl⟩
    rw [hR9]
    have HR9 := hid hR9
    clear hR9
    by_cases hr0 : R9 = 0
    · have HP := hid (pCk_fin HHD.out HC.out (HR9.out.trans hr0))
      subst hr0
      have hcs := rsize12_any t f A K n c 0 d D xs W HN.out HM.out (HBC.out.below B9.out) HCC.out (Kd.C_below HK.out B9.out) HMD.out HCN.out HL.out
      obtain ⟨N, hN⟩ : ∃ N, 4 + n + szs (nszs xs) = N := ⟨_, rfl⟩
      rw [hN] at hcs
      rw [HN.out, hN] at HP
      clear hN
      unfold ckV at hcs
      by_cases hbig : (N : Int) > 65535
      · go_wp2_with fail
        refine hcs.mono ?_
        rintro e w10 ⟨rfl, hb⟩
        have B10 := hid (cthen B9.out hb)
        clear hb hcs x0 x1 x2 x3
        go_wp2_with fail
        go_ret
        exact ⟨by rw [HP.out, if_pos (by omega)]; rfl, B10.out⟩
      · go_wp2_with fail
        refine hcs.mono ?_
        rintro e w10 ⟨rfl, hb⟩
        have B10 := hid (cthen B9.out hb)
        clear hb hcs x0 x1 x2 x3
        go_wp2_with fail
        go_ret
        exact ⟨by rw [HP.out, if_neg (by omega)]; rfl, B10.out⟩
    · have hrb : (R9 != 0) = true := by simpa using hr0
      have HP := hid (pCk_kid HHD.out HC.out HR9.out hr0)
      clear hr0
      go_wp2_with fail
      go_ret
      exact ⟨by rw [HP.out]; rfl, B9.out⟩
theorem rCk_any (t f : Int) (A K : Option Addr) (n c m d : Nat) (D : List Int) (xs : List Nd) (w : World) (hf0 : 0 ≤ f) (hf1 : f ≤ 255) (hn : D.length = n) (hC : BC w A D) (hB : Byt D) (hc : n ≤ c) (hl : n ≤ 1000000) (hm : xs.length = m) (hK : Kd.C k87 w K m xs) (hd : m ≤ d) (hcn : cnts xs ≤ 1000) (hok : okL xs) :
    Calls Tryz.prog 30 #[ckV t f A n c K m d] w (IsPost (.int .i64 (pCk t f D xs)) w) := by
  cases hk : kHas t
  · exact rCk_unknown t f A K n c m d D xs w hk hf0 hf1 hn hC hB hc hl hm hK hd hcn hok
  · exact rCk_known t f A K n c m d D xs w hk hf0 hf1 hn hC hB hc hl hm hK hd hcn hok
end Bn
end Go.Proofs.YtmfmomfhiieilaaGreatDoor
