/- The walk of ForwardMerges. -/
import Derived.Test.YtcjcgehhmjnlcaaGreatDoorMrp
import Derived.Test.YtcjcgehhmjnlcaaGreatDoorGvn
set_option linter.unusedVariables false
set_option linter.unusedSimpArgs false
namespace Go.Proofs.YtcjcgehhmjnlcaaGreatDoor
open Go.RowKit Go.Shelf Go.Proofs.YtcjcgehhmjnlcaaGreatDoor.It Go.Proofs.YtcjcgehhmjnlcaaGreatDoorW.PrintWords Go.Proofs.YtcjcgehhmjnlcaaGreatDoorW.PrintLast Go.Proofs.YtcjcgehhmjnlcaaGreatDoorW.PrintMore
theorem kc_gen {α : Type} {d : Kd α} {f : Sk → α} (hsz : d.sz = 3) (hmk : ∀ (w : World) (s : Sk), d.K w (f s) s.cells) {w : World} {A : Option Addr} {l : List Sk} (h : SkC w A l) (hl : l.length ≤ 9223372036854775807) : Kd.C d w A l.length (l.map f) := by
  refine ⟨by simp, hl, fun hn => ?_⟩
  rcases h with h | ⟨b, off, rfl, hc⟩
  · rw [h] at hn; simp at hn
  · refine ⟨_, rfl, fun j p hp => ?_⟩
    rw [List.getElem?_map, Option.map_eq_some_iff] at hp
    obtain ⟨s, hs, rfl⟩ := hp
    have hj : j < l.length := (List.getElem?_eq_some_iff.1 hs).1
    obtain ⟨h0, h1, h2⟩ := hc j hj
    rw [List.getD_eq_getElem?_getD, hs] at h0 h1 h2
    refine ⟨s.cells, by rw [hsz]; rfl, hmk w s, fun i u hu => ?_⟩
    rw [Go.WideShapes.add_plain, hsz]
    match i with
    | 0 => simp [Sk.cells] at hu; subst hu; exact h0
    | 1 => simp [Sk.cells] at hu; subst hu; exact h1
    | 2 => simp [Sk.cells] at hu; subst hu; exact h2
    | i + 3 => simp [Sk.cells] at hu
section
open PForwardMerges
theorem rmerge_any (A : Option Addr) (c : Nat) (l : List Sk) (w : World) (hS : SkC w A l) (hc : l.length ≤ c) (hl : l.length ≤ 1000000) :
    Calls Tryz.prog 45 #[.slice A l.length c] w fun e w' => ∃ A' c', e = .returned (.slice A' (mergeR l).length c') ∧ (mergeR l).length ≤ c' ∧ Kd.C k25 w' A' (mergeR l).length ((mergeR l).map toR) ∧ Below w.heap.size w w' := by
  obtain ⟨k, hk⟩ := merge_f l hl
  have hC := kc_gen (d := k25) (f := toR) rfl (fun w s => k25_mk w (toR s)) hS (by omega)
  have h := wharfref16_Merge.calls k A c (l.map toR) ((mergeR l).map toR) w (by simpa using hC) (by simpa using hc) hk
  simp only [List.length_map] at h
  refine h.mono ?_
  rintro e w' ⟨v, rfl, hR, hb⟩
  obtain ⟨A', c', rfl, hlc, hr⟩ := Kd.R_reads hR
  simp only [List.length_map] at hlc hr
  exact ⟨A', c', by simp, hlc, hr, hb⟩
theorem msame_any (A B : Option Addr) (c d : Nat) (l : List Sk) (w : World) (hA : Kd.C k25 w A l.length (l.map toR)) (hB : Kd.C k25 w B l.length (l.map toR)) (hc : l.length ≤ c) (hd : l.length ≤ d) (hl : l.length ≤ 1000000) :
    Calls Tryz.prog 41 #[.slice A l.length c, .slice B l.length d] w (IsPost (.bool true) w) := by
  obtain ⟨k, hk⟩ := same_f l hl
  have h := wharfref16_Same.calls k A c (l.map toR) B d (l.map toR) true w (by simpa using hA) (by simpa using hc) (by simpa using hB) (by simpa using hd) hk
  simp only [List.length_map] at h
  exact h.mono (fun e w' h => ⟨h.1, h.2.below⟩)
theorem skc_kc {w : World} {A : Option Addr} {l : List Sk} (h : SkC w A l) (hl : l.length ≤ 1000000) : Kd.C k25 w A l.length (l.map toR) :=
  kc_gen (d := k25) (f := toR) rfl (fun w s => k25_mk w (toR s)) h (by omega)
set_option maxRecDepth 100000 in
set_option maxHeartbeats 4000000 in
theorem law12_many (A : Option Addr) (n c : Nat) (w : World) (hn : 100 < n) (hg : GTab w) : Calls Tryz.prog 12 #[.slice A n c] w (IsPost (.bool true) w) := by
  have hA := awake_any w hg
  have HG := hid hg
  clear hg
  have h1 : (n : Int) > 100 := by omega
  go_enter Tryz.func12, Tryz.ntmps12
  go_wp2_with fail
  refine hA.mono ?_
  rintro e w1 ⟨rfl, hb⟩
  have B1 := hid hb
  clear hb hA
  have hA := awake_any w1 (HG.out.below B1.out)
  go_wp2_with fail
  refine hA.mono ?_
  rintro e w2 ⟨rfl, hb⟩
  have B2 := hid (cthen B1.out hb)
  clear hb hA
  go_wp2_with fail
  go_ret
  exact ⟨rfl, B2.out⟩
set_option maxRecDepth 100000 in
set_option maxHeartbeats 4000000 in
theorem law12_few (A : Option Addr) (c : Nat) (l : List Sk) (w : World) (hS : SkC w A l) (hok : ∀ s ∈ l, s.ok) (hc : l.length ≤ c) (hl : l.length ≤ 100) (hg : GTab w) : Calls Tryz.prog 12 #[.slice A l.length c] w (IsPost (.bool true) w) := by
  have hA := awake_any w hg
  have h1 : ¬ (l.length : Int) > 100 := by omega
  have HS := hid hS
  have HO := hid hok
  have HC := hid hc
  have HL := hid hl
  obtain ⟨m, hm⟩ : ∃ m, m = mergeR l := ⟨_, rfl⟩
  have HM := hid hm
  have HML := hid (show m.length ≤ 100 by rw [hm]; exact Nat.le_trans (mergeR_len l) hl)
  have HMO := hid (show ∀ s ∈ m, s.ok by rw [hm]; exact mergeR_ok hok)
  clear hg hS hok hc hm
  go_enter Tryz.func12, Tryz.ntmps12
  go_wp2_with fail
  refine hA.mono ?_
  rintro e w1 ⟨rfl, hb⟩
  have B1 := hid hb
  clear hb hA
  go_wp2_with fail
  refine (given_any A c l _ (HS.out.below B1.out) HC.out (by omega)).mono ?_
  rintro e w2 ⟨v, rfl, hO, hb⟩
  obtain ⟨A1, c1, rfl, hc1, hr1⟩ := ownT_read hO
  have B2 := hid (cthen B1.out hb)
  have R1 := hid hr1
  have C1 := hid hc1
  clear hO hb hc1 hr1
  go_wp2_with fail
  refine (merge_calls A1 c1 l _ R1.out HO.out C1.out (by omega)).mono ?_
  rintro e w3 ⟨v, d, rfl, hs, hO, hb⟩
  obtain rfl : d = m := (srtd_mergeR hs HO.out).trans HM.out.symm
  obtain ⟨A2, c2, rfl, hc2, hr2⟩ := ownS_read hO
  have B3 := hid (cthen B2.out hb)
  have R1 := hid (R1.out.below hb)
  have R2 := hid hr2
  have C2 := hid hc2
  have HS3 := hid hs
  clear hO hb hc2 hr2 hs
  go_wp2_with fail
  refine (merge_calls A2 c2 d _ R2.out HMO.out C2.out (by have := HML.out; omega)).mono ?_
  rintro e w4 ⟨v, d', rfl, hs, hO, hb⟩
  obtain rfl : d' = d := again_same HS3.out HO.out hs
  obtain ⟨A3, c3, rfl, hc3, hr3⟩ := ownS_read hO
  have B4 := hid (cthen B3.out hb)
  have R1 := hid (R1.out.below hb)
  have R2 := hid (R2.out.below hb)
  have R3 := hid hr3
  have C3 := hid hc3
  clear hO hb hc3 hr3 hs
  go_wp2_with fail
  refine (back_any A2 c2 d' _ R2.out C2.out (by have := HML.out; omega)).mono ?_
  rintro e w5 ⟨v, rfl, hO, hb⟩
  obtain ⟨A5, c5, rfl, hc5, hr5⟩ := ownT_read hO
  have B5 := hid (cthen B4.out hb)
  have R1 := hid (R1.out.below hb)
  have R2 := hid (R2.out.below hb)
  have R3 := hid (R3.out.below hb)
  have R5 := hid hr5
  have C5 := hid hc5
  clear hO hb hc5 hr5
  go_wp2_with fail
  refine (rmerge_any A c l _ (HS.out.below B5.out) HC.out (by omega)).mono ?_
  rintro e w6 ⟨A6, c6, rfl, hc6, hr6, hb⟩
  rw [← HM.out] at hc6 hr6 ⊢
  have B6 := hid (cthen B5.out hb)
  have R1 := hid (R1.out.below hb)
  have R2 := hid (R2.out.below hb)
  have R3 := hid (R3.out.below hb)
  have R5 := hid (R5.out.below hb)
  have R6 := hid hr6
  have C6 := hid hc6
  clear hb hc6 hr6
  go_wp2_with fail
  refine (msame_any A5 A6 c5 c6 d' _ (skc_kc R5.out (by have := HML.out; omega)) R6.out C5.out C6.out (by have := HML.out; omega)).mono ?_
  rintro e w7 ⟨rfl, hb⟩
  have B7 := hid (cthen B6.out hb)
  have R1 := hid (R1.out.below hb)
  have R2 := hid (R2.out.below hb)
  have R3 := hid (R3.out.below hb)
  clear hb R5 R6
  go_wp2_with fail
  refine (back_any A3 c3 d' _ R3.out C3.out (by have := HML.out; omega)).mono ?_
  rintro e w8 ⟨v, rfl, hO, hb⟩
  obtain ⟨A8, c8, rfl, hc8, hr8⟩ := ownT_read hO
  have B8 := hid (cthen B7.out hb)
  have R1 := hid (R1.out.below hb)
  have R2 := hid (R2.out.below hb)
  have R8 := hid hr8
  have C8 := hid hc8
  clear hO hb hc8 hr8
  go_wp2_with fail
  refine (back_any A2 c2 d' _ R2.out C2.out (by have := HML.out; omega)).mono ?_
  rintro e w9 ⟨v, rfl, hO, hb⟩
  obtain ⟨A9, c9, rfl, hc9, hr9⟩ := ownT_read hO
  have B9 := hid (cthen B8.out hb)
  have R1 := hid (R1.out.below hb)
  have R8 := hid (R8.out.below hb)
  have R9 := hid hr9
  have C9 := hid hc9
  clear hO hb hc9 hr9
  go_wp2_with fail
  refine (msame_any A8 A9 c8 c9 d' _ (skc_kc R8.out (by have := HML.out; omega)) (skc_kc R9.out (by have := HML.out; omega)) C8.out C9.out (by have := HML.out; omega)).mono ?_
  rintro e w10 ⟨rfl, hb⟩
  have B10 := hid (cthen B9.out hb)
  have R1 := hid (R1.out.below hb)
  clear hb R8 R9
  go_wp2_with fail
  refine (back_any A1 c1 l _ R1.out C1.out (by omega)).mono ?_
  rintro e w11 ⟨v, rfl, hO, hb⟩
  obtain ⟨A11, c11, rfl, hc11, hr11⟩ := ownT_read hO
  have B11 := hid (cthen B10.out hb)
  have R11 := hid hr11
  have C11 := hid hc11
  clear hO hb hc11 hr11
  go_wp2_with fail
  refine (msame_any A11 A c11 c l _ (skc_kc R11.out (by omega)) (skc_kc (HS.out.below B11.out) (by omega)) C11.out HC.out (by omega)).mono ?_
  rintro e w12 ⟨rfl, hb⟩
  have B12 := hid (cthen B11.out hb)
  clear hb
  go_wp2_with fail
  go_ret
  exact ⟨rfl, B12.out⟩
end
theorem law12_any (A : Option Addr) (c : Nat) (l : List Sk) (w : World) (hS : SkC w A l) (hok : ∀ s ∈ l, s.ok) (hc : l.length ≤ c) (hg : GTab w) : Calls Tryz.prog 12 #[.slice A l.length c] w (IsPost (.bool true) w) := by
  rcases Nat.lt_or_ge 100 l.length with h | h
  · exact law12_many A l.length c w h hg
  · exact law12_few A c l w hS hok hc h hg
end Go.Proofs.YtcjcgehhmjnlcaaGreatDoor
