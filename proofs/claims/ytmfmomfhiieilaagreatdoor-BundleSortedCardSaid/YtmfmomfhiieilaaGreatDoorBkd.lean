/- The checks of a chunk whose form may have nodes inside: 'chunk.kids', 'chunk.value' at data; the form of any type. -/
import Derived.Test.YtmfmomfhiieilaaGreatDoorBnc
import Derived.Test.YtmfmomfhiieilaaGreatDoorMd
import Derived.Test.YtmfmomfhiieilaaGreatDoorBro
set_option linter.unusedVariables false
set_option linter.unusedSimpArgs false
namespace Go.Proofs.YtmfmomfhiieilaaGreatDoor
open Go.RowKit Go.Shelf Go.Proofs.YtmfmomfhiieilaaGreatDoor.It Go.Proofs.YtmfmomfhiieilaaGreatDoorW.PrintWords Go.Proofs.YtmfmomfhiieilaaGreatDoorW.PrintLast Go.Proofs.YtmfmomfhiieilaaGreatDoorW.PrintMore
namespace Bn
open PBundleSorted
/-! ### the form of any type -/
theorem kR_at (i : Nat) (h : i < 23) : kRows[i]? = some (kR i) := by
  unfold kR
  rw [List.getD_eq_getElem?_getD, List.getElem?_eq_getElem (by rw [kRows_len]; exact h)]
  rfl
theorem kOf_at (i0 : Nat) (hi0 : i0 < 23) (t : Int) (ht : kT i0 = t) : kOf t = kR i0 ∧ kHas t = true := by
  have hf : kRows.find? (kIs t) = some (kR i0) := by
    refine NoneOf.found (i := i0) (fun a x hx ha => ?_) (kR_at i0 hi0) (by simp [kIs]; exact ht)
    have : x = kR a := Option.some.inj (hx.symm.trans (kR_at a (by omega)))
    subst this
    have := kT_mono a i0 ha hi0
    simp only [kIs]
    have h2 : (kR a).ty = kT a := rfl
    rw [h2]
    simp
    omega
  unfold kOf kHas
  rw [hf]
  exact ⟨rfl, rfl⟩
theorem kOf_none (t : Int) (h : ¬ t ∈ kTypes) : kOf t = kZ ∧ kHas t = false := by
  have hf : kRows.find? (kIs t) = none := by
    rw [List.find?_eq_none]
    intro r hr he
    refine h ?_
    unfold kIs at he
    have : r.ty = t := by simpa using he
    rw [← this]
    exact List.mem_map.2 ⟨r, hr, rfl⟩
  unfold kOf kHas
  rw [hf]
  exact ⟨rfl, rfl⟩
theorem kof_any (t : Int) (w : World) (h0 : 0 ≤ t) (h1 : t ≤ 255) (hg : GTab w) : Calls Tryz.prog 44 #[.int .u8 t] w (IsPost (.tuple #[(kOf t).val, .bool (kHas t)]) w) := by
  refine (of_any t w h0 h1 hg).mono ?_
  rintro e w' ⟨i, b, r, hf, hr, rfl, hw⟩
  have hb := hf.2.1
  cases b with
  | true =>
    obtain ⟨h2, h3⟩ := hf.2.2 rfl
    obtain ⟨e1, e2⟩ := kOf_at i h2 t h3
    rw [if_pos rfl] at hr
    rw [e1, e2, hr]
    exact ⟨rfl, hw⟩
  | false =>
    obtain ⟨e1, e2⟩ := kOf_none t (by have := hb.symm; simpa using this)
    rw [if_neg (by decide)] at hr
    rw [e1, e2, hr]
    exact ⟨rfl, hw⟩
theorem kOf_ok (t : Int) (h : kHas t = true) : (kOf t).ok ∧ (kOf t).ty = t := by
  unfold kHas at h
  unfold kOf
  cases hf : kRows.find? (kIs t) with
  | none => rw [hf] at h; cases h
  | some r =>
    have hm := List.mem_of_find?_eq_some hf
    obtain ⟨i, hi, he⟩ := List.getElem_of_mem hm
    have h23 : i < 23 := by rw [← kRows_len]; exact hi
    have : kR i = r := by
      have := kR_at i h23
      rw [List.getElem?_eq_getElem hi, he] at this
      exact (Option.some.inj this).symm
    refine ⟨by show r.ok; rw [← this]; exact kR_ok i h23, ?_⟩
    have := List.find?_some hf
    unfold kIs at this
    show r.ty = t
    simpa using this
theorem kOf_zero (t : Int) (h : kHas t = false) : kOf t = kZ := by
  unfold kHas at h
  unfold kOf
  cases hf : kRows.find? (kIs t) with
  | none => rfl
  | some r => rw [hf] at h; cases h
/-! ### 'slices.Contains' of numbers of 16 bits -/
def ix1 : Bool → Int
  | true => 0
  | false => -1
def ix2 : Bool → Bool → Int
  | true, _ => 0
  | false, true => 1
  | false, false => -1
set_option maxRecDepth 100000 in
set_option maxHeartbeats 1000000 in
theorem index16_one (b : Nat) (x a : Int) (w : World) (h : w.cell? ⟨b, 0, none⟩ = some (.int .u16 a)) : Calls Tryz.prog 100 #[.slice (some ⟨b, 0, none⟩) 1 1, .int .u16 x] w (IsPost (.int .i64 (ix1 (x == a))) w) := by
  obtain ⟨t, ht⟩ : ∃ t, (x == a) = t := ⟨_, rfl⟩
  rw [ht]
  have H := hid h
  clear h
  go_enter Tryz.func100, Tryz.ntmps100
  go_wp2_with fail
  go_loopw [8] (fun vi W => W = w ∧ (vi = .int .i64 0 ∨ (vi = .int .i64 1 ∧ t = false))) (fun vi _ => 2 - (intOf vi).toNat)
  case atStart => exact ⟨rfl, Or.inl rfl⟩
  case round =>
    obtain ⟨rfl, rfl | ⟨rfl, rfl⟩⟩ := hrel
    · have h := H.out
      cases t
      · go_wp2_with fail
        exact ⟨by simp, by simp [intOf]⟩
      · go_wp2_with fail
        go_ret
        exact ⟨rfl, Below.refl _ _⟩
    · go_wp2_with fail
      go_ret
      exact ⟨rfl, Below.refl _ _⟩
set_option maxRecDepth 100000 in
set_option maxHeartbeats 1000000 in
theorem index16_two (b : Nat) (x a a2 : Int) (w : World) (h : w.cell? ⟨b, 0, none⟩ = some (.int .u16 a)) (h2 : w.cell? ⟨b, 1, none⟩ = some (.int .u16 a2)) : Calls Tryz.prog 100 #[.slice (some ⟨b, 0, none⟩) 2 2, .int .u16 x] w (IsPost (.int .i64 (ix2 (x == a) (x == a2))) w) := by
  obtain ⟨t, ht⟩ : ∃ t, (x == a) = t := ⟨_, rfl⟩
  obtain ⟨t2, ht2⟩ : ∃ t, (x == a2) = t := ⟨_, rfl⟩
  rw [ht, ht2]
  have H := hid h
  have H2 := hid h2
  clear h h2
  go_enter Tryz.func100, Tryz.ntmps100
  go_wp2_with fail
  go_loopw [8] (fun vi W => W = w ∧ (vi = .int .i64 0 ∨ (vi = .int .i64 1 ∧ t = false) ∨ (vi = .int .i64 2 ∧ t = false ∧ t2 = false))) (fun vi _ => 3 - (intOf vi).toNat)
  case atStart => exact ⟨rfl, Or.inl rfl⟩
  case round =>
    obtain ⟨rfl, rfl | ⟨rfl, rfl⟩ | ⟨rfl, rfl, rfl⟩⟩ := hrel
    · have h := H.out
      cases t
      · go_wp2_with fail
        exact ⟨by simp, by simp [intOf]⟩
      · go_wp2_with fail
        go_ret
        exact ⟨rfl, Below.refl _ _⟩
    · have h := H2.out
      cases t2
      · go_wp2_with fail
        exact ⟨by simp, by simp [intOf]⟩
      · go_wp2_with fail
        go_ret
        exact ⟨rfl, Below.refl _ _⟩
    · go_wp2_with fail
      go_ret
      exact ⟨rfl, Below.refl _ _⟩
set_option maxHeartbeats 1000000 in
theorem cont16_one (b : Nat) (x a : Int) (w : World) (h : w.cell? ⟨b, 0, none⟩ = some (.int .u16 a)) : Calls Tryz.prog 83 #[.slice (some ⟨b, 0, none⟩) 1 1, .int .u16 x] w (IsPost (.bool (x == a)) w) := by
  have hI := index16_one b x a w h
  obtain ⟨t, ht⟩ : ∃ t, (x == a) = t := ⟨_, rfl⟩
  rw [ht] at hI ⊢
  clear ht h
  cases t
  all_goals
    go_enter Tryz.func83, Tryz.ntmps83
    go_wp2_with fail
    refine hI.mono ?_
    rintro e w1 ⟨rfl, hb⟩
    have B := hid hb
    clear hb hI
    go_wp2_with fail
    go_ret
    exact ⟨rfl, B.out⟩
set_option maxHeartbeats 1000000 in
theorem cont16_two (b : Nat) (x a a2 : Int) (w : World) (h : w.cell? ⟨b, 0, none⟩ = some (.int .u16 a)) (h2 : w.cell? ⟨b, 1, none⟩ = some (.int .u16 a2)) : Calls Tryz.prog 83 #[.slice (some ⟨b, 0, none⟩) 2 2, .int .u16 x] w (IsPost (.bool (x == a || x == a2)) w) := by
  have hI := index16_two b x a a2 w h h2
  obtain ⟨t, ht⟩ : ∃ t, (x == a) = t := ⟨_, rfl⟩
  obtain ⟨t2, ht2⟩ : ∃ t, (x == a2) = t := ⟨_, rfl⟩
  rw [ht, ht2] at hI ⊢
  clear ht ht2 h h2
  cases t <;> cases t2
  all_goals
    go_enter Tryz.func83, Tryz.ntmps83
    go_wp2_with fail
    refine hI.mono ?_
    rintro e w1 ⟨rfl, hb⟩
    have B := hid hb
    clear hb hI
    go_wp2_with fail
    go_ret
    exact ⟨rfl, B.out⟩
end Bn
end Go.Proofs.YtmfmomfhiieilaaGreatDoor
