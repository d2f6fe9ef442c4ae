/- The walk of ForwardMost. -/
import Derived.Test.YtcjcgehhmjnlcaaGreatDoorGvn
import Derived.Test.YtcjcgehhmjnlcaaGreatDoorMh
import Derived.Test.YtcjcgehhmjnlcaaGreatDoorMc
import Derived.OwnWalk
set_option linter.unusedVariables false
set_option linter.unusedSimpArgs false
namespace Go.Proofs.YtcjcgehhmjnlcaaGreatDoor
open Go.RowKit Go.Shelf Go.Proofs.YtcjcgehhmjnlcaaGreatDoor.It Go.Proofs.YtcjcgehhmjnlcaaGreatDoorW.PrintWords Go.Proofs.YtcjcgehhmjnlcaaGreatDoorW.PrintLast Go.Proofs.YtcjcgehhmjnlcaaGreatDoorW.PrintMore PForwardMatchesReference
theorem made_sk (n : Nat) : (madeCells (Value.agg #[.int .u16 0, .bool false, .int .u32 0]).cells (n * 3)).toList = (List.replicate n skZ).flatMap Sk.cells := by
  have hz : (Value.agg #[.int .u16 0, .bool false, .int .u32 0]).cells = #[.int .u16 0, .bool false, .int .u32 0] := rfl
  rw [hz]
  apply List.ext_getElem?
  intro j
  unfold madeCells
  rw [Array.getElem?_toList, Array.getElem?_map, Array.getElem?_range]
  rcases Nat.lt_or_ge j (n * 3) with h | h
  · rw [if_pos h]
    have hj := flat_take (List.replicate n skZ) (j / 3) (j % 3) (by rw [List.length_replicate]; omega) (by omega)
    rw [show j / 3 * 3 + j % 3 = j by omega] at hj
    rw [hj]
    have hd : (List.replicate n skZ).getD (j / 3) skZ = skZ := by
      rw [List.getD_eq_getElem?_getD, List.getElem?_replicate]
      split <;> rfl
    rw [hd]
    have h3 : j % 3 = 0 ∨ j % 3 = 1 ∨ j % 3 = 2 := by omega
    have e3 : (#[Value.int .u16 0, Value.bool false, Value.int .u32 0] : Array Value).size = 3 := rfl
    simp only [Option.map_some, e3]
    rcases h3 with e | e | e <;> rw [e] <;> rfl
  · rw [if_neg (by omega)]
    have : ((List.replicate n skZ).flatMap Sk.cells).length = n * 3 := by
      induction n with
      | zero => rfl
      | succ m ih =>
        rw [List.replicate_succ, List.flatMap_cons, List.length_append]
        rcases Nat.lt_or_ge j (m * 3) with g | g
        · omega
        · rw [ih g]; simp [Sk.cells]; omega
    rw [List.getElem?_eq_none (by omega)]
    rfl
theorem most_calls (inter : Bool) (s r : Int) (w : World) (h : r = mx (wrap64 (Int.tdiv (wrap64 (s - 8)) (if inter = true then 8 else 4))) 0) : Calls Tryz.prog 16 #[.bool inter, .int .i64 s] w (IsPost (.int .i64 r) w) :=
  (forward_Most.calls inter s r w (by rw [h]; cases inter <;> simp [forward_Most.f])).mono (fun e w' h => h)
theorem zeros_good (inter : Bool) (n : Nat) : (List.replicate n skZ).any (skBad inter) = false := by
  rw [List.any_eq_false]
  intro s hs
  rw [List.eq_of_mem_replicate hs]
  cases inter <;> simp [skBad, skZ]
theorem zeros_ok (n : Nat) : ∀ s ∈ List.replicate n skZ, s.ok := by
  intro s hs
  rw [List.eq_of_mem_replicate hs]
  unfold Sk.ok skZ
  simp
set_option maxRecDepth 100000 in
set_option maxHeartbeats 4000000 in
theorem law4_false_big (size : Int) (w : World) (hlo : 8 + 4 ≤ size) (hhi : size ≤ 65535) (hg : GTab w) : Calls Tryz.prog 4 #[.bool false, .int .u16 size] w (IsPost (.bool true) w) := by
  obtain ⟨n, hn⟩ : ∃ n : Nat, (n : Int) = (size - 8) / 4 := ⟨((size - 8) / 4).toNat, by omega⟩
  have hn1 : 1 ≤ n := by omega
  have hn2 : 4 * n ≤ 65527 := by omega
  have hM := fun W => most_calls false size n W (by
    have e1 : wrap64 (size - 8) = size - 8 := by unfold wrap64; omega
    have e2 : Int.tdiv (size - 8) 4 = (size - 8) / 4 := Int.tdiv_eq_ediv_of_nonneg (by omega)
    simp only [Bool.false_eq_true, if_true, if_false, e1, e2, ← hn]
    have e3 : wrap64 (n : Int) = n := by unfold wrap64; omega
    rw [e3]
    unfold mx
    omega)
  have hA := awake_any w hg
  have HM := hid hM
  have HG := hid hg
  have HN := hid hn
  obtain ⟨i0, hi0, hz0, hz1, hz2⟩ := info_parts infoS
  have hne : ((n : Int) == 0) = false := by simp; omega
  clear hM hg hn
  go_enter Tryz.func4, Tryz.ntmps4
  go_wp2_with fail
  refine hA.mono ?_
  rintro e w1 ⟨rfl, hb⟩
  have B1 := hid hb
  clear hb hA
  go_wp2_with fail
  refine (HM.out _).mono ?_
  rintro e w2 ⟨rfl, hb⟩
  have B2 := hid (cthen B1.out hb)
  clear hb
  have hbase := hid (Nat.le_refl w2.heap.size)
  go_wp2_with (refine wpList_make_full _ rfl _ _ 38 rfl w2.heap.size 28 i0 _ 3 Tryz.underlying38 hi0 hz0 hz1 .i64 .i64 _ _ n rfl rfl rfl rfl (by rw [hz2]; omega) (by unfold maxLen; omega) hbase.out ?_; intro w3 hown hgrow; have HOW := hid hown; have HGR := hid hgrow; clear hown hgrow)
  have ho := HOW.out
  rw [made_sk] at ho
  have hT : OwnT 28 w3 w2.heap.size (.slice (some ⟨w2.heap.size, 0, none⟩) n n) (List.replicate n skZ) := by
    unfold OwnT
    rw [List.length_replicate]
    exact ho
  obtain ⟨A3, c3, hA3, hc3, hS⟩ := ownT_read hT
  rw [List.length_replicate] at hA3 hc3
  have hAA : A3 = some ⟨w2.heap.size, 0, none⟩ := by injection hA3 with h1 _ _; exact h1.symm
  subst hAA
  have B3 := hid (B2.out.grown HGR.out B2.out.size (fun k hk => by cases hk))
  have hmk := make_false 1 (some ⟨w2.heap.size, 0, none⟩) n (List.replicate n skZ) w3 (HG.out.below B3.out) hS (zeros_ok n) (by simp) (by simp; omega)
  rw [List.length_replicate] at hmk
  have hD := mkD_len false 1 (List.replicate n skZ)
  rw [List.length_replicate] at hD
  have HD := hid hD
  have HMK := hid hmk
  clear ho hT hA3 hc3 hS hmk hD HOW HGR
  refine HMK.out.mono ?_
  rintro e w4 ⟨hb, ⟨-, -, v, rfl, ho⟩ | ⟨hn, -⟩⟩
  rotate_left
  · exact absurd ⟨zeros_good _ n, by have := HD.out; simp only [Bool.false_eq_true, if_true, if_false] at this; omega⟩ hn
  obtain ⟨A4, c4, rfl, -, -, -⟩ := own_slice ho
  have B4 := hid (cthen B3.out hb)
  obtain ⟨D, hD⟩ : ∃ D, (mkD false 1 (List.replicate n skZ)).length = D := ⟨_, rfl⟩
  have hDn : D = 4 + 4 * n := by have := HD.out; simp only [Bool.false_eq_true, if_true, if_false] at this; omega
  have hN := HN.out
  have h1 : 4 + (D : Int) ≤ size := by omega
  have h2 : size < 4 + (D : Int) + 4 := by omega
  have hDb : D ≤ 65531 := by omega
  rw [hD]
  clear hb ho HMK HD hD hN hDn hne
  simp only [mkT, Bool.false_eq_true, if_true, if_false]
  have hcs := hid (fun W => csize_nil 192 0 A4 none D c4 0 W (by omega))
  go_wp2_with fail
  refine (hcs.out _).mono ?_
  rintro e w5 ⟨rfl, hb⟩
  have B5 := hid (cthen (below_alloc B4.out _) hb)
  have K5 := hid (new_blk hb)
  obtain ⟨⟨x0, x1, x2, x3⟩, -⟩ := four K5.out
  clear hb
  go_wp2_with fail
  refine (hcs.out _).mono ?_
  rintro e w6 ⟨rfl, hb⟩
  have B6 := hid (cthen B5.out hb)
  clear hb
  go_wp2_with fail
  go_ret
  exact ⟨rfl, B6.out⟩
set_option maxRecDepth 100000 in
set_option maxHeartbeats 4000000 in
theorem law4_false_small (size : Int) (w : World) (h0 : 0 ≤ size) (hhi : size < 8 + 4) (hg : GTab w) : Calls Tryz.prog 4 #[.bool false, .int .u16 size] w (IsPost (.bool true) w) := by
  have hz : ∀ m : Nat, m < 8 + 4 → mx (wrap64 (Int.tdiv (wrap64 ((m : Int) - 8)) 4)) 0 = 0 := by decide +kernel
  have hM := fun W => most_calls false size 0 W (by
    obtain ⟨m, rfl⟩ := Int.eq_ofNat_of_zero_le h0
    simp only [Bool.false_eq_true, if_true, if_false]
    exact (hz m (by omega)).symm)
  clear hz
  have hA := awake_any w hg
  have HM := hid hM
  clear hM hg
  go_enter Tryz.func4, Tryz.ntmps4
  go_wp2_with fail
  refine hA.mono ?_
  rintro e w1 ⟨rfl, hb⟩
  have B1 := hid hb
  clear hb hA
  go_wp2_with fail
  refine (HM.out _).mono ?_
  rintro e w2 ⟨rfl, hb⟩
  have B2 := hid (cthen B1.out hb)
  clear hb
  go_wp2_with fail
  go_ret
  exact ⟨by simp; omega, B2.out⟩
set_option maxRecDepth 100000 in
set_option maxHeartbeats 4000000 in
theorem law4_true_big (size : Int) (w : World) (hlo : 8 + 8 ≤ size) (hhi : size ≤ 65535) (hg : GTab w) : Calls Tryz.prog 4 #[.bool true, .int .u16 size] w (IsPost (.bool true) w) := by
  obtain ⟨n, hn⟩ : ∃ n : Nat, (n : Int) = (size - 8) / 8 := ⟨((size - 8) / 8).toNat, by omega⟩
  have hn1 : 1 ≤ n := by omega
  have hn2 : 8 * n ≤ 65527 := by omega
  have hM := fun W => most_calls true size n W (by
    have e1 : wrap64 (size - 8) = size - 8 := by unfold wrap64; omega
    have e2 : Int.tdiv (size - 8) 8 = (size - 8) / 8 := Int.tdiv_eq_ediv_of_nonneg (by omega)
    simp only [Bool.false_eq_true, if_true, if_false, e1, e2, ← hn]
    have e3 : wrap64 (n : Int) = n := by unfold wrap64; omega
    rw [e3]
    unfold mx
    omega)
  have hA := awake_any w hg
  have HM := hid hM
  have HG := hid hg
  have HN := hid hn
  obtain ⟨i0, hi0, hz0, hz1, hz2⟩ := info_parts infoS
  have hne : ((n : Int) == 0) = false := by simp; omega
  clear hM hg hn
  go_enter Tryz.func4, Tryz.ntmps4
  go_wp2_with fail
  refine hA.mono ?_
  rintro e w1 ⟨rfl, hb⟩
  have B1 := hid hb
  clear hb hA
  go_wp2_with fail
  refine (HM.out _).mono ?_
  rintro e w2 ⟨rfl, hb⟩
  have B2 := hid (cthen B1.out hb)
  clear hb
  have hbase := hid (Nat.le_refl w2.heap.size)
  go_wp2_with (refine wpList_make_full _ rfl _ _ 38 rfl w2.heap.size 28 i0 _ 3 Tryz.underlying38 hi0 hz0 hz1 .i64 .i64 _ _ n rfl rfl rfl rfl (by rw [hz2]; omega) (by unfold maxLen; omega) hbase.out ?_; intro w3 hown hgrow; have HOW := hid hown; have HGR := hid hgrow; clear hown hgrow)
  have ho := HOW.out
  rw [made_sk] at ho
  have hT : OwnT 28 w3 w2.heap.size (.slice (some ⟨w2.heap.size, 0, none⟩) n n) (List.replicate n skZ) := by
    unfold OwnT
    rw [List.length_replicate]
    exact ho
  obtain ⟨A3, c3, hA3, hc3, hS⟩ := ownT_read hT
  rw [List.length_replicate] at hA3 hc3
  have hAA : A3 = some ⟨w2.heap.size, 0, none⟩ := by injection hA3 with h1 _ _; exact h1.symm
  subst hAA
  have B3 := hid (B2.out.grown HGR.out B2.out.size (fun k hk => by cases hk))
  have hmk := make_true 1 (some ⟨w2.heap.size, 0, none⟩) n (List.replicate n skZ) w3 (HG.out.below B3.out) hS (zeros_ok n) (by simp) (by simp; omega)
  rw [List.length_replicate] at hmk
  have hD := mkD_len true 1 (List.replicate n skZ)
  rw [List.length_replicate] at hD
  have HD := hid hD
  have HMK := hid hmk
  clear ho hT hA3 hc3 hS hmk hD HOW HGR
  refine HMK.out.mono ?_
  rintro e w4 ⟨hb, ⟨-, -, v, rfl, ho⟩ | ⟨hn, -⟩⟩
  rotate_left
  · exact absurd ⟨zeros_good _ n, by have := HD.out; simp only [Bool.false_eq_true, if_true, if_false] at this; omega⟩ hn
  obtain ⟨A4, c4, rfl, -, -, -⟩ := own_slice ho
  have B4 := hid (cthen B3.out hb)
  obtain ⟨D, hD⟩ : ∃ D, (mkD true 1 (List.replicate n skZ)).length = D := ⟨_, rfl⟩
  have hDn : D = 4 + 8 * n := by have := HD.out; simp only [Bool.false_eq_true, if_true, if_false] at this; omega
  have hN := HN.out
  have h1 : 4 + (D : Int) ≤ size := by omega
  have h2 : size < 4 + (D : Int) + 8 := by omega
  have hDb : D ≤ 65531 := by omega
  rw [hD]
  clear hb ho HMK HD hD hN hDn hne
  simp only [mkT, Bool.false_eq_true, if_true, if_false]
  have hcs := hid (fun W => csize_nil 194 0 A4 none D c4 0 W (by omega))
  go_wp2_with fail
  refine (hcs.out _).mono ?_
  rintro e w5 ⟨rfl, hb⟩
  have B5 := hid (cthen (below_alloc B4.out _) hb)
  have K5 := hid (new_blk hb)
  obtain ⟨⟨x0, x1, x2, x3⟩, -⟩ := four K5.out
  clear hb
  go_wp2_with fail
  refine (hcs.out _).mono ?_
  rintro e w6 ⟨rfl, hb⟩
  have B6 := hid (cthen B5.out hb)
  clear hb
  go_wp2_with fail
  go_ret
  exact ⟨rfl, B6.out⟩
set_option maxRecDepth 100000 in
set_option maxHeartbeats 4000000 in
theorem law4_true_small (size : Int) (w : World) (h0 : 0 ≤ size) (hhi : size < 8 + 8) (hg : GTab w) : Calls Tryz.prog 4 #[.bool true, .int .u16 size] w (IsPost (.bool true) w) := by
  have hz : ∀ m : Nat, m < 8 + 8 → mx (wrap64 (Int.tdiv (wrap64 ((m : Int) - 8)) 8)) 0 = 0 := by decide +kernel
  have hM := fun W => most_calls true size 0 W (by
    obtain ⟨m, rfl⟩ := Int.eq_ofNat_of_zero_le h0
    simp only [Bool.false_eq_true, if_true, if_false]
    exact (hz m (by omega)).symm)
  clear hz
  have hA := awake_any w hg
  have HM := hid hM
  clear hM hg
  go_enter Tryz.func4, Tryz.ntmps4
  go_wp2_with fail
  refine hA.mono ?_
  rintro e w1 ⟨rfl, hb⟩
  have B1 := hid hb
  clear hb hA
  go_wp2_with fail
  refine (HM.out _).mono ?_
  rintro e w2 ⟨rfl, hb⟩
  have B2 := hid (cthen B1.out hb)
  clear hb
  go_wp2_with fail
  go_ret
  exact ⟨by simp; omega, B2.out⟩
theorem law4_any (inter : Bool) (size : Int) (w : World) (h0 : 0 ≤ size) (h1 : size ≤ 65535) (hg : GTab w) : Calls Tryz.prog 4 #[.bool inter, .int .u16 size] w (IsPost (.bool true) w) := by
  cases inter
  · rcases Int.lt_or_le size 12 with h | h
    · exact law4_false_small size w h0 h hg
    · exact law4_false_big size w h h1 hg
  · rcases Int.lt_or_le size 16 with h | h
    · exact law4_true_small size w h0 h hg
    · exact law4_true_big size w h h1 hg
end Go.Proofs.YtcjcgehhmjnlcaaGreatDoor
