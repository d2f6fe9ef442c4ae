/- 'chunk.Check' at any chunk that is not too much. -/
import Derived.Test.YtmfmomfhiieilaaGreatDoorBkw
set_option linter.unusedVariables false
set_option linter.unusedSimpArgs false
namespace Go.Proofs.YtmfmomfhiieilaaGreatDoor
open Go.RowKit Go.Shelf Go.Proofs.YtmfmomfhiieilaaGreatDoor.It Go.Proofs.YtmfmomfhiieilaaGreatDoorW.PrintWords Go.Proofs.YtmfmomfhiieilaaGreatDoorW.PrintLast Go.Proofs.YtmfmomfhiieilaaGreatDoorW.PrintMore
namespace Bn
open PBundleSorted
def valueE (t : Int) (D : List Int) : Option (Int × Option Int) := if t = 64 then val64E D else if t = 194 then valE D else none
/-- The error of a chunk ahead of its nodes. -/
def headE (t f : Int) (D : List Int) (xs : List Nd) : Option (Int × Option Int) :=
  if kHas t = true then orE (flagsE f (kOf t).mask) (dataE (kOf t) D.length) (kErr (wantK (kOf t).kids xs)) (countE t D) (valueE t D) else if 0 < xs.length then some (7, none) else none
/-- The code of a chunk's error (0: none). -/
def pCk (t f : Int) (D : List Int) (xs : List Nd) : Int :=
  match headE t f D xs with
  | some p => p.1
  | none => if fstE (xs.map (pchk 4 (iR (kOf t).kids).1)) = 0 then (if 65535 < 4 + D.length + szs (nszs xs) then 4 else 0) else fstE (xs.map (pchk 4 (iR (kOf t).kids).1))
theorem pCk_head {t f : Int} {D : List Int} {xs : List Nd} {c : Int} {a : Option Int} (h : headE t f D xs = some (c, a)) : pCk t f D xs = c := by unfold pCk; rw [h]
theorem pCk_kid {t f C r : Int} {D : List Int} {xs : List Nd} (h : headE t f D xs = none) (hC : (iR (kOf t).kids).1 = C) (hr : fstE (xs.map (pchk 4 C)) = r) (h0 : r ≠ 0) : pCk t f D xs = r := by
  unfold pCk; rw [h, hC]; simp only; rw [hr, if_neg h0]
theorem pCk_fin {t f C : Int} {D : List Int} {xs : List Nd} (h : headE t f D xs = none) (hC : (iR (kOf t).kids).1 = C) (hr : fstE (xs.map (pchk 4 C)) = 0) : pCk t f D xs = if 65535 < 4 + D.length + szs (nszs xs) then 4 else 0 := by
  unfold pCk; rw [h, hC]; simp only; rw [if_pos hr]
theorem flagsE_at (f m : Int) : flagsE f m = none ∨ flagsE f m = some (6, some 1) := by unfold flagsE; split <;> simp
theorem head_code {t f : Int} {D : List Int} {xs : List Nd} {c : Int} {a : Option Int} (h : headE t f D xs = some (c, a)) : c ≠ 0 := by
  unfold headE at h
  split at h
  · unfold orE at h
    rcases flagsE_at f (kOf t).mask with e | e
    · rw [e] at h
      unfold dataE kErr countE valueE val64E valE at h
      intro hc
      subst hc
      repeat' (first | split at h | (simp at h; done) | simp at h)
    · rw [e] at h
      simp at h
      omega
  · split at h
    · simp at h; omega
    · cases h
theorem dataE_len {t : Int} {n : Nat} (hk : kHas t = true) (h : dataE (kOf t) n = none) : (kOf t).least ≤ (n : Int) ∧ (n : Int) ≤ (kOf t).most ∧ ((n : Int) - (kOf t).least) % (kOf t).unit = 0 := by
  unfold dataE at h
  split at h
  · rename_i hf
    unfold fits at hf
    simp only [Bool.and_eq_true, decide_eq_true_eq, beq_iff_eq] at hf
    omega
  · cases h
/-- The checks of a known form, one after the other. -/
theorem checks_any (t f : Int) (A K : Option Addr) (c m d : Nat) (D : List Int) (xs : List Nd) (w : World) (hk : kHas t = true) (hg : GTab w) (hC : BC w A D) (hB : Byt D) (hc : D.length ≤ c) (hl : D.length ≤ 1000000) (hm : xs.length = m) (hK : Kd.C k87 w K m xs) :
    ∀ i, i < 5 → (∀ j, j < i → nthE (flagsE f (kOf t).mask) (dataE (kOf t) D.length) (kErr (wantK (kOf t).kids xs)) (countE t D) (valueE t D) j = none) → ∀ W, Below w.heap.size w W → Calls Tryz.prog (chkF i) #[ckV t f A D.length c K m d, (kOf t).val] W (ErrPost (nthE (flagsE f (kOf t).mask) (dataE (kOf t) D.length) (kErr (wantK (kOf t).kids xs)) (countE t D) (valueE t D) i) W) := by
  intro i hi hj W hW
  obtain ⟨hok, hty⟩ := kOf_ok t hk
  have h5 : i = 0 ∨ i = 1 ∨ i = 2 ∨ i = 3 ∨ i = 4 := by omega
  have hd : 1 < i → dataE (kOf t) D.length = none := fun h => hj 1 h
  rcases h5 with rfl | rfl | rfl | rfl | rfl
  · exact flags_any t f A K D.length c m d _ W
  · exact data_any t f A K D.length c m d _ hok W
  · exact ckids_any t f _ hok A K D.length c m d xs W (hg.below hW) hm (Kd.C_below hK hW)
  · by_cases h3 : t = 3
    · subst h3
      have e : kOf 3 = kR 3 := (kOf_at 3 (by decide) 3 rfl).1
      have hl2 := dataE_len hk (hd (by omega))
      rw [e] at hl2
      have h12 : (kR 3).least = 12 := rfl
      exact count_sack f A K c m d D (kOf 3) W (hC.below hW) hB hc (by omega) (by omega)
    · have e : countE t D = none := by unfold countE; rw [if_neg h3]
      show Calls _ _ _ _ (ErrPost (countE t D) W)
      rw [e]
      exact count_not t f A K D.length c m d _ W h3
  · show Calls _ _ _ _ (ErrPost (valueE t D) W)
    unfold valueE
    by_cases h64 : t = 64
    · subst h64
      have e : kOf 64 = kR 16 := (kOf_at 16 (by decide) 64 rfl).1
      have hl2 := dataE_len hk (hd (by omega))
      rw [e] at hl2
      have h17 : (kR 16).least = 17 := rfl
      rw [if_pos rfl]
      exact value_64 f A K c m d D (kOf 64) W (hC.below hW) hB hc (by omega) hl
    · rw [if_neg h64]
      by_cases h194 : t = 194
      · subst h194
        have e : kOf 194 = kR 22 := (kOf_at 22 (by decide) 194 rfl).1
        have hdn := hd (by omega)
        rw [e] at hdn
        obtain ⟨q, hq, h31⟩ := fits_22 hdn
        rw [if_pos rfl]
        have hqe : (D.length - 4) / 8 = q := by omega
        have := value_fwd f A K c m d D (kOf 194) W q (gb D q) (hC.below hW) hB hc hl hq (gb_le _ _) (gb_lt D q) (gb_at D q)
        show Calls _ _ _ _ (ErrPost (valE D) W)
        unfold valE
        rw [hqe]
        exact this
      · rw [if_neg h194]
        exact value_not t f A K D.length c m d _ W h64 h194
set_option maxRecDepth 100000 in
set_option maxHeartbeats 4000000 in
theorem cCheck_known (t f : Int) (A K : Option Addr) (n c m d : Nat) (D : List Int) (xs : List Nd) (w : World) (hk : kHas t = true) (ht0 : 0 ≤ t) (ht1 : t ≤ 255) (hg : GTab w) (hn : D.length = n) (hC : BC w A D) (hB : Byt D) (hc : n ≤ c) (hl : n ≤ 1000000) (hm : xs.length = m) (hK : Kd.C k87 w K m xs) (hcn : cnts xs ≤ 1000) (hok : okL xs) :
    Calls Tryz.prog 26 #[ckV t f A n c K m d] w (ErrPost (codeE (pCk t f D xs)) w) := by
  have HOF := hid (fun W (hW : Below w.heap.size w W) => by have h := kof_any t W ht0 ht1 (hg.below hW); rw [hk] at h; exact h)
  have hrok := (kOf_ok t hk).1
  obtain ⟨-, -, -, -, hk0, hk6, -⟩ := hrok
  obtain ⟨C, L, H, hin⟩ : ∃ C L H, iR (kOf t).kids = (C, L, H) := ⟨_, _, _, rfl⟩
  have HC := hid (show (iR (kOf t).kids).1 = C by rw [hin])
  have HIN := hid (fun W (hW : Below w.heap.size w W) => by have h := kinside_any (kOf t).kids W hk0 hk6 (hg.below hW); rw [hin] at h; exact h)
  have HG := hid hg
  have HM := hid hm
  have HK := hid hK
  have HCN := hid hcn
  have HOKL := hid hok
  have HN := hid hn
  have HL := hid hl
  obtain ⟨R, hR⟩ : ∃ R, orE (flagsE f (kOf t).mask) (dataE (kOf t) D.length) (kErr (wantK (kOf t).kids xs)) (countE t D) (valueE t D) = R := ⟨_, rfl⟩
  have HHE := hid (show headE t f D xs = R by unfold headE; rw [if_pos hk, hR])
  have hck := checks_any t f A K c m d D xs w hk hg hC hB (by omega) (by omega) hm hK
  have hfi := first_or (flagsE f (kOf t).mask) (dataE (kOf t) D.length) (kErr (wantK (kOf t).kids xs)) (countE t D) (valueE t D)
  rw [hR] at hfi
  obtain ⟨X, hX⟩ : ∃ X, nthE (flagsE f (kOf t).mask) (dataE (kOf t) D.length) (kErr (wantK (kOf t).kids xs)) (countE t D) (valueE t D) = X := ⟨_, rfl⟩
  rw [hX] at hck hfi
  rw [hn] at hck
  have HCK := hid hck
  have HFI := hid hfi
  clear hR hck hfi hX
  obtain ⟨r, hr⟩ : ∃ r, kOf t = r := ⟨_, rfl⟩
  have hrr := hr
  rw [hr] at HOF HIN HCK
  clear hg hm hK hcn hok hn hl hk ht0 ht1 hC hB hc hin hk0 hk6 hr 
  have HRR := hid hrr
  clear hrr
  obtain ⟨ty, nm, mask, lo, hi, un, kd⟩ := r
  unfold KR.val at *
  simp only at *
  unfold ckV at *
  go_enter Tryz.func26, Tryz.ntmps26
  go_wp2_with fail
  refine (HOF.out _ (below_alloc (Below.refl _ _) _)).mono ?_
  rintro e w1 ⟨rfl, hb⟩
  have B1 := hid (cthen (below_alloc (Below.refl w.heap.size w) _) hb)
  have K1 := hid (new_blk hb)
  clear hb
  go_wp2_with fail
  refine (HIN.out _ (below_alloc B1.out _)).mono ?_
  rintro e w2 ⟨rfl, hb⟩
  have B2 := hid (cthen (below_alloc B1.out _) hb)
  have K2 := hid (blk_below (blk_alloc K1.out) hb)
  have Q2 := hid (new_blk hb)
  have hs12 : w1.heap.size < w2.heap.size := by have := hb.size; simp at this; omega
  have hs01 : w.heap.size < w1.heap.size := by have := (Array.getElem?_eq_some_iff.1 K1.out).1; omega
  obtain ⟨⟨c0, c1, c2, c3⟩, -⟩ := four K2.out
  obtain ⟨⟨d0, d1, d2, d3, d4, d5, d6⟩, -⟩ := seven Q2.out
  clear hb
  go_wp2_with fail
  have hfun : (w2.alloc (.cells #[.func (.func 47) #[] #[], .func (.func 48) #[] #[], .func (.func 49) #[] #[], .func (.func 50) #[] #[], .func (.func 51) #[] #[]] 130)).heap[w2.heap.size]? = some (.cells #[.func (.func 47) #[] #[], .func (.func 48) #[] #[], .func (.func 49) #[] #[], .func (.func 50) #[] #[], .func (.func 51) #[] #[]] 130 (0, 0)) := blk_new _ _
  have hfirst := first_any t f A K n c m d w2.heap.size 5 5 ⟨ty, nm, mask, lo, hi, un, kd⟩ (w2.alloc (.cells #[.func (.func 47) #[] #[], .func (.func 48) #[] #[], .func (.func 49) #[] #[], .func (.func 50) #[] #[], .func (.func 51) #[] #[]] 130)) X R (by omega) HFI.out (fun i hi => by
    have : i = 0 ∨ i = 1 ∨ i = 2 ∨ i = 3 ∨ i = 4 := by omega
    rcases this with rfl | rfl | rfl | rfl | rfl <;> (unfold World.cell?; rw [hfun]; rfl)) (fun i hi hj W hW => HCK.out i hi hj W (cthen (below_alloc B2.out _) hW))
  unfold ckV KR.val at hfirst
  refine hfirst.mono ?_
  rintro e w3 ⟨rfl, hb⟩
  have B3 := hid (cthen (below_alloc B2.out _) hb)
  have K3 := hid (blk_below (blk_alloc K2.out) hb)
  clear hb hfirst hfun c0 c1 c2 c3 d0 d1 d2 d3 d4 d5 d6 HCK HFI K1 Q2
  go_wp2_with fail
  refine (code_any R _ (HG.out.below B3.out)).mono ?_
  rintro e w4 ⟨rfl, hb⟩
  have B4 := hid (cthen B3.out hb)
  have K4 := hid (blk_below K3.out hb)
  obtain ⟨⟨c0, c1, c2, c3⟩, -⟩ := four K4.out
  clear hb K3 K2
  rcases R with _ | ⟨x, y⟩
  · have HHD := HHE
    unfold eCode
    go_wp2_with fail
    clear c0 c1 c2 c3
    go_loopw [50] (fun vi W => ∃ i : Nat, vi = .int .i64 i ∧ i ≤ m ∧ Hid (fstE ((xs.take i).map (pchk 4 C)) = 0) ∧ Hid (Below w.heap.size w W ∧ W.heap[w.heap.size]? = some (.cells #[.int .u8 t, .int .u8 f, .slice A n c, .slice K m d] 42 (0, 0)))) (fun vi _ => m - (intOf vi).toNat)
    case atStart => exact ⟨0, rfl, by omega, hid rfl, hid ⟨B4.out, K4.out⟩⟩
    case round =>
      obtain ⟨i, rfl, hi, hF, hI⟩ := hrel
      by_cases hlt : i < m
      · have hil : i < xs.length := by have := HM.out; omega
        obtain ⟨b, off, E1, e1, E2, e2, rfl, k0, k1, k2, l1, g1, l2, g2⟩ := node_at (Kd.C_below HK.out hI.out.1) i hil
        have hoky := okL_at _ HOKL.out _ (List.getElem_mem hil)
        have hcy := cnts_at _ _ (List.getElem_mem hil)
        have hcn := HCN.out
        have hft := fst_take (pchk 4 C) xs i hil
        have hfs := fst_stop (pchk 4 C) xs i hil hF.out
        rw [if_pos hF.out] at hft
        obtain ⟨y, hy⟩ : ∃ y, xs[i] = y := ⟨_, rfl⟩
        rw [hy] at k0 k1 k2 l1 g1 l2 g2 hoky hcy hft hfs
        obtain ⟨n1, hn1⟩ : ∃ m, y.f1.length = m := ⟨_, rfl⟩
        obtain ⟨n2, hn2⟩ : ∃ m, y.f2.length = m := ⟨_, rfl⟩
        rw [hn1] at k1 l1
        rw [hn2] at k2 l2 g2
        have hml : m ≤ 1000 := by have := len_cnts xs; have := HM.out; omega
        have HWI := hid (show wrap64 ((i : Int) + 1) = ((i + 1 : Nat) : Int) by unfold wrap64; omega)
        have hcall := nCheck_any C y E1 E2 n1 e1 n2 e2 (wr.alloc (.cells #[.int .u16 y.f0, .slice E1 n1 e1, .slice E2 n2 e2] 87)) hn1 hn2 (by omega) hoky (g1.below (below_alloc (Below.refl _ _) _)) l1 (Kd.C_below g2 (below_alloc (Below.refl _ _) _)) l2
        obtain ⟨r, hr⟩ : ∃ r, pchk 4 C y = r := ⟨_, rfl⟩
        rw [hr] at hcall hft hfs
        unfold ErrPost at hcall
        have HFT := hid hft
        have HFS := hid hfs
        by_cases hr0 : r = 0
        · subst hr0
          rw [eV_zero] at hcall
          clear hy hn1 hn2 hml hoky hcy hcn hft hfs l1 l2 g1 g2 hr hil HFS
          go_wp2_with fail
          refine hcall.mono ?_
          rintro e w9 ⟨rfl, hb⟩
          have B9 := hid (cthen (below_alloc hI.out.1 (.cells #[.int .u16 y.f0, .slice E1 n1 e1, .slice E2 n2 e2] 87)) hb)
          have N9 := hid (blk_below (blk_alloc (x := .cells #[.int .u16 y.f0, .slice E1 n1 e1, .slice E2 n2 e2] 87) hI.out.2) hb)
          clear hb hcall k0 k1 k2
          go_wp2_with fail
          exact ⟨⟨i + 1, by rw [HWI.out], hlt, hid HFT.out, hid ⟨B9.out, N9.out⟩⟩, by rw [HWI.out]; simp only [intOf, Int.toNat_natCast]; omega⟩
        · rw [eV_code hr0] at hcall
          have HR0 := hid hr0
          clear hy hn1 hn2 hml hoky hcy hcn hft hfs l1 l2 g1 g2 hr hil HFT hr0
          go_wp2_with fail
          refine hcall.mono ?_
          rintro e w9 ⟨rfl, hb⟩
          have B9 := hid (cthen (below_alloc hI.out.1 (.cells #[.int .u16 y.f0, .slice E1 n1 e1, .slice E2 n2 e2] 87)) hb)
          have HP := hid (pCk_kid HHD.out HC.out (HFS.out HR0.out) HR0.out)
          clear hb hcall k0 k1 k2
          go_wp2_with fail
          go_ret
          exact ⟨by rw [HP.out, eV_code HR0.out]; rfl, B9.out⟩
      · obtain rfl : i = m := by omega
        obtain ⟨⟨c0, c1, c2, c3⟩, -⟩ := four hI.out.2
        have hall := hF.out
        rw [← HM.out, List.take_length] at hall
        have HP := hid (pCk_fin HHD.out HC.out hall)
        have hbd := nszs_bd xs
        obtain ⟨s, hs⟩ : ∃ s, szs (nszs xs) = s := ⟨_, rfl⟩
        have hns := nsize_any 1000 xs HCN.out (by omega)
        have hcn := HCN.out
        rw [hs] at hbd HP
        have hcs := csize_of t f A K n c i d (s : Int) wr (by have := HL.out; omega) (by omega) (by omega) (fun W hW => by have h := hns K d i W HM.out (Kd.C_below HK.out (cthen hI.out.1 hW)); rw [hs] at h; exact h)
        have HNN := hid HN.out
        have e4 : (4 : Int) + (n : Int) + (s : Int) = ((4 + n + s : Nat) : Int) := by omega
        rw [e4] at hcs
        obtain ⟨N, hN⟩ : ∃ N, 4 + n + s = N := ⟨_, rfl⟩
        rw [hN] at hcs
        have HNS := hid hN
        clear hall hbd hs hns hcn e4 hN
        by_cases hbig : (N : Int) > 65535
        · go_wp2_with fail
          refine hcs.mono ?_
          rintro e w9 ⟨rfl, hb⟩
          have B9 := hid (cthen hI.out.1 hb)
          clear hb hcs c0 c1 c2 c3
          go_wp2_with fail
          go_ret
          exact ⟨by rw [HP.out, HN.out, HNS.out, if_pos (by omega)]; rfl, B9.out⟩
        · go_wp2_with fail
          refine hcs.mono ?_
          rintro e w9 ⟨rfl, hb⟩
          have B9 := hid (cthen hI.out.1 hb)
          clear hb hcs c0 c1 c2 c3
          go_wp2_with fail
          go_ret
          exact ⟨by rw [HP.out, HN.out, HNS.out, if_neg (by omega)]; rfl, B9.out⟩
  · have HP := hid (pCk_head HHE.out)
    have HX := hid (head_code HHE.out)
    unfold eCode
    go_wp2_with fail
    go_ret
    exact ⟨by rw [HP.out, eV_code HX.out]; rfl, B4.out⟩
set_option maxRecDepth 100000 in
set_option maxHeartbeats 4000000 in
theorem cCheck_unknown (t f : Int) (A K : Option Addr) (n c m d : Nat) (D : List Int) (xs : List Nd) (w : World) (hk : kHas t = false) (ht0 : 0 ≤ t) (ht1 : t ≤ 255) (hg : GTab w) (hn : D.length = n) (hC : BC w A D) (hB : Byt D) (hc : n ≤ c) (hl : n ≤ 1000000) (hm : xs.length = m) (hK : Kd.C k87 w K m xs) (hcn : cnts xs ≤ 1000) (hok : okL xs) :
    Calls Tryz.prog 26 #[ckV t f A n c K m d] w (ErrPost (codeE (pCk t f D xs)) w) := by
  have HOF := hid (fun W (hW : Below w.heap.size w W) => by have h := kof_any t W ht0 ht1 (hg.below hW); rw [hk] at h; exact h)
  have hz := kOf_zero t hk
  have hk0 : 0 ≤ (kOf t).kids := by rw [hz]; decide
  have hk6 : (kOf t).kids ≤ 6 := by rw [hz]; decide
  obtain ⟨C, L, H, hin⟩ : ∃ C L H, iR (kOf t).kids = (C, L, H) := ⟨_, _, _, rfl⟩
  have HC := hid (show (iR (kOf t).kids).1 = C by rw [hin])
  have HIN := hid (fun W (hW : Below w.heap.size w W) => by have h := kinside_any (kOf t).kids W hk0 hk6 (hg.below hW); rw [hin] at h; exact h)
  have HG := hid hg
  have HM := hid hm
  have HK := hid hK
  have HCN := hid hcn
  have HOKL := hid hok
  have HN := hid hn
  have HL := hid hl
  have HHE := hid (show headE t f D xs = if 0 < xs.length then some (7, none) else none by unfold headE; rw [if_neg (by rw [hk]; decide)])
  obtain ⟨r, hr⟩ : ∃ r, kOf t = r := ⟨_, rfl⟩
  have hrr := hr
  rw [hr] at HOF HIN
  clear hg hm hK hcn hok hn hl hk ht0 ht1 hC hB hc hin hk0 hk6 hr hz
  have HRR := hid hrr
  clear hrr
  obtain ⟨ty, nm, mask, lo, hi, un, kd⟩ := r
  unfold KR.val at *
  simp only at *
  unfold ckV at *
  go_enter Tryz.func26, Tryz.ntmps26
  go_wp2_with fail
  refine (HOF.out _ (below_alloc (Below.refl _ _) _)).mono ?_
  rintro e w1 ⟨rfl, hb⟩
  have B1 := hid (cthen (below_alloc (Below.refl w.heap.size w) _) hb)
  have K1 := hid (new_blk hb)
  clear hb
  go_wp2_with fail
  refine (HIN.out _ (below_alloc B1.out _)).mono ?_
  rintro e w2 ⟨rfl, hb⟩
  have B2 := hid (cthen (below_alloc B1.out _) hb)
  have K2 := hid (blk_below (blk_alloc K1.out) hb)
  have Q2 := hid (new_blk hb)
  have hs12 : w1.heap.size < w2.heap.size := by have := hb.size; simp at this; omega
  have hs01 : w.heap.size < w1.heap.size := by have := (Array.getElem?_eq_some_iff.1 K1.out).1; omega
  obtain ⟨⟨c0, c1, c2, c3⟩, -⟩ := four K2.out
  obtain ⟨⟨d0, d1, d2, d3, d4, d5, d6⟩, -⟩ := seven Q2.out
  clear hb
  by_cases hm0 : (0 : Int) < (m : Int)
  · have HH7 := hid (show headE t f D xs = some (7, none) by rw [HHE.out, if_pos (by have := HM.out; omega)])
    go_wp2_with fail
    refine (code_any (some (7, none)) _ (HG.out.below B2.out)).mono ?_
    rintro e w4 ⟨rfl, hb⟩
    have B4 := hid (cthen B2.out hb)
    have HP := hid (pCk_head HH7.out)
    clear hb
    unfold eCode
    go_wp2_with fail
    go_ret
    exact ⟨by rw [HP.out]; rfl, B4.out⟩
  · have HHD := hid (show headE t f D xs = none by rw [HHE.out, if_neg (by have := HM.out; omega)])
    go_wp2_with fail
    refine (code_any none _ (HG.out.below B2.out)).mono ?_
    rintro e w4 ⟨rfl, hb⟩
    have B4 := hid (cthen B2.out hb)
    have K4 := hid (blk_below K2.out hb)
    clear hb c0 c1 c2 c3 d0 d1 d2 d3 d4 d5 d6 K1 Q2
    obtain ⟨⟨c0, c1, c2, c3⟩, -⟩ := four K4.out
    unfold eCode
    go_wp2_with fail
    clear c0 c1 c2 c3
    go_loopw [50] (fun vi W => ∃ i : Nat, vi = .int .i64 i ∧ i ≤ m ∧ Hid (fstE ((xs.take i).map (pchk 4 C)) = 0) ∧ Hid (Below w.heap.size w W ∧ W.heap[w.heap.size]? = some (.cells #[.int .u8 t, .int .u8 f, .slice A n c, .slice K m d] 42 (0, 0)))) (fun vi _ => m - (intOf vi).toNat)
    case atStart => exact ⟨0, rfl, by omega, hid rfl, hid ⟨B4.out, K4.out⟩⟩
    case round =>
      obtain ⟨i, rfl, hi, hF, hI⟩ := hrel
      by_cases hlt : i < m
      · exact absurd hlt (by omega)
      · obtain rfl : i = m := by omega
        obtain ⟨⟨c0, c1, c2, c3⟩, -⟩ := four hI.out.2
        have hall := hF.out
        rw [← HM.out, List.take_length] at hall
        have HP := hid (pCk_fin HHD.out HC.out hall)
        have hbd := nszs_bd xs
        obtain ⟨s, hs⟩ : ∃ s, szs (nszs xs) = s := ⟨_, rfl⟩
        have hns := nsize_any 1000 xs HCN.out (by omega)
        have hcn := HCN.out
        rw [hs] at hbd HP
        have hcs := csize_of t f A K n c i d (s : Int) wr (by have := HL.out; omega) (by omega) (by omega) (fun W hW => by have h := hns K d i W HM.out (Kd.C_below HK.out (cthen hI.out.1 hW)); rw [hs] at h; exact h)
        have HNN := hid HN.out
        have e4 : (4 : Int) + (n : Int) + (s : Int) = ((4 + n + s : Nat) : Int) := by omega
        rw [e4] at hcs
        obtain ⟨N, hN⟩ : ∃ N, 4 + n + s = N := ⟨_, rfl⟩
        rw [hN] at hcs
        have HNS := hid hN
        clear hall hbd hs hns hcn e4 hN
        by_cases hbig : (N : Int) > 65535
        · go_wp2_with fail
          refine hcs.mono ?_
          rintro e w9 ⟨rfl, hb⟩
          have B9 := hid (cthen hI.out.1 hb)
          clear hb hcs c0 c1 c2 c3
          go_wp2_with fail
          go_ret
          exact ⟨by rw [HP.out, HN.out, HNS.out, if_pos (by omega)]; rfl, B9.out⟩
        · go_wp2_with fail
          refine hcs.mono ?_
          rintro e w9 ⟨rfl, hb⟩
          have B9 := hid (cthen hI.out.1 hb)
          clear hb hcs c0 c1 c2 c3
          go_wp2_with fail
          go_ret
          exact ⟨by rw [HP.out, HN.out, HNS.out, if_neg (by omega)]; rfl, B9.out⟩
theorem cCheck_any (t f : Int) (A K : Option Addr) (n c m d : Nat) (D : List Int) (xs : List Nd) (w : World) (ht0 : 0 ≤ t) (ht1 : t ≤ 255) (hg : GTab w) (hn : D.length = n) (hC : BC w A D) (hB : Byt D) (hc : n ≤ c) (hl : n ≤ 1000000) (hm : xs.length = m) (hK : Kd.C k87 w K m xs) (hcn : cnts xs ≤ 1000) (hok : okL xs) :
    Calls Tryz.prog 26 #[ckV t f A n c K m d] w (ErrPost (codeE (pCk t f D xs)) w) := by
  cases hk : kHas t
  · exact cCheck_unknown t f A K n c m d D xs w hk ht0 ht1 hg hn hC hB hc hl hm hK hcn hok
  · exact cCheck_known t f A K n c m d D xs w hk ht0 ht1 hg hn hC hB hc hl hm hK hcn hok
end Bn
end Go.Proofs.YtmfmomfhiieilaaGreatDoor
