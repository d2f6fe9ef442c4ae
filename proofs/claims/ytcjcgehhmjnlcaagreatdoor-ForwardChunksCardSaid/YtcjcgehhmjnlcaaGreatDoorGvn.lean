/- 'given' and 'back' of the law's package: skips from one package's type to the other's. -/
import Derived.Test.YtcjcgehhmjnlcaaGreatDoorMi
import Derived.Test.YtcjcgehhmjnlcaaGreatDoorMf
set_option linter.unusedVariables false
set_option linter.unusedSimpArgs false
namespace Go.Proofs.YtcjcgehhmjnlcaaGreatDoor
open Go.RowKit Go.Shelf Go.Proofs.YtcjcgehhmjnlcaaGreatDoor.It Go.Proofs.YtcjcgehhmjnlcaaGreatDoorW.PrintWords Go.Proofs.YtcjcgehhmjnlcaaGreatDoorW.PrintLast Go.Proofs.YtcjcgehhmjnlcaaGreatDoorW.PrintMore PForwardMatchesReference

theorem infoR : (Tryz.prog.info? 25).map (fun i => (i.zero, i.size, i.bytes)) = some (some (.agg #[.int .u16 0, .bool false, .int .u32 0]), 3, 8) := by kernel_rfl
/-- Skips of a type in a row of the call's own. -/
def OwnT (t : Nat) (w : World) (base : Nat) (v : Value) (l : List Sk) : Prop := w.ownsRow base t 3 v l.length (l.flatMap Sk.cells)
theorem ownT_form {t : Nat} {w : World} {base : Nat} {v : Value} {l : List Sk} (h : OwnT t w base v l) : ∃ A c, v = .slice A l.length c := by
  rcases h with ⟨-, ⟨rfl, h0⟩ | ⟨g, cap, cur, rfl, -⟩⟩
  · exact ⟨none, 0, by rw [h0]⟩
  · exact ⟨_, _, rfl⟩
theorem flat_take (l : List Sk) (t j : Nat) (ht : t < l.length) (hj : j < 3) : (l.flatMap Sk.cells)[t * 3 + j]? = (l.getD t skZ).cells[j]? := by
  induction l generalizing t with
  | nil => simp at ht
  | cons s l ih =>
    rw [List.flatMap_cons]
    rcases t with _ | t
    · rw [List.getElem?_append_left (by simp [Sk.cells]; omega)]
      simp
    · rw [List.getElem?_append_right (by simp [Sk.cells]; omega)]
      have := ih t (by simpa using ht)
      rw [show (t + 1) * 3 + j - s.cells.length = t * 3 + j by simp [Sk.cells]; omega, this]
      simp
theorem ownT_read {t : Nat} {w : World} {base : Nat} {v : Value} {l : List Sk} (h : OwnT t w base v l) : ∃ A c, v = .slice A l.length c ∧ l.length ≤ c ∧ SkC w A l := by
  have hz := h.1
  rcases h.2 with ⟨rfl, h0⟩ | ⟨g, cap, cur, rfl, hb, hg, hcap, hmax, hcur, hpre⟩
  · exact ⟨none, 0, by rw [h0], by omega, .inl (List.eq_nil_of_length_eq_zero h0)⟩
  · refine ⟨_, _, rfl, hcap, .inr ⟨g, 0, rfl, fun t ht => ?_⟩⟩
    have hc : ∀ j, j < 3 → w.cell? ⟨g, 0 + t * 3 + j, none⟩ = (l.getD t skZ).cells[j]? := fun j hj => by
      rw [← flat_take l t j ht hj, ← hpre, List.getElem?_take_of_lt (by omega)]
      unfold World.cell?
      rw [hg]
      simp
    exact ⟨hc 0 (by omega), hc 1 (by omega), hc 2 (by omega)⟩
theorem skc_of_kc {w : World} {A : Option Addr} {n : Nat} {xs : List S25} (h : Kd.C k25 w A n xs) : SkC w A (xs.map toSk) := by
  rcases xs with _ | ⟨x, xs⟩
  · exact .inl rfl
  · have hn : 0 < n := by have := h.1; simp at this; omega
    obtain ⟨ad, rfl, hc⟩ := h.2.2 hn
    obtain ⟨c, -, hk, hcell⟩ := hc 0 x rfl
    rw [k25_open hk] at hcell
    have h0 := World.cell?_spot (hcell 0 _ rfl)
    simp [Addr.add] at h0
    obtain ⟨b, off, sp⟩ := ad
    subst h0
    refine .inr ⟨b, off, rfl, fun t ht => ?_⟩
    have ht' : t < (x :: xs).length := by simpa using ht
    obtain ⟨c, -, hk, hcell⟩ := hc t _ (List.getElem?_eq_getElem ht')
    rw [k25_open hk] at hcell
    have e : ((x :: xs).map toSk).getD t skZ = toSk ((x :: xs)[t]) := by
      rw [List.getD_eq_getElem?_getD, List.getElem?_map, List.getElem?_eq_getElem ht']
      rfl
    rw [e]
    have g := fun j u hu => by
      have := hcell j u hu
      rw [Go.WideShapes.add_plain] at this
      exact this
    exact ⟨g 0 _ rfl, g 1 _ rfl, g 2 _ rfl⟩
theorem kc_of_skc {w : World} {A : Option Addr} {l : List Sk} (h : SkC w A l) (hl : l.length ≤ 9223372036854775807) : Kd.C k25 w A l.length (l.map ofSk') := by
  refine ⟨by simp, hl, fun hn => ?_⟩
  rcases h with h | ⟨b, off, rfl, hc⟩
  · rw [h] at hn; simp at hn
  · refine ⟨_, rfl, fun j p hp => ?_⟩
    rw [List.getElem?_map, Option.map_eq_some_iff] at hp
    obtain ⟨s, hs, rfl⟩ := hp
    have hj : j < l.length := (List.getElem?_eq_some_iff.1 hs).1
    obtain ⟨h0, h1, h2⟩ := hc j hj
    rw [List.getD_eq_getElem?_getD, hs] at h0 h1 h2
    refine ⟨_, rfl, k25_mk w (ofSk' s), fun i u hu => ?_⟩
    rw [Go.WideShapes.add_plain]
    match i with
    | 0 => simp at hu; subst hu; exact h0
    | 1 => simp at hu; subst hu; exact h1
    | 2 => simp at hu; subst hu; exact h2
    | i + 3 => simp at hu
theorem ownT_alloc {t : Nat} {w : World} {base : Nat} {v : Value} {l : List Sk} (h : OwnT t w base v l) (o : Obj) : OwnT t (w.alloc o) base v l := World.ownsRow.alloc h o
theorem ownT_join {t : Nat} {w : World} {base : Nat} {v : Value} {l : List Sk} {i : Nat} {s : Sk} (hi : i < l.length) (hs : l.getD i skZ = s) (h : w.ownsRow base t 3 v ((l.take i).length + 1) ((l.take i).flatMap Sk.cells ++ s.cells)) : OwnT t w base v (l.take (i + 1)) := by
  unfold OwnT
  rw [take_step hi hs]
  simpa using h
theorem news_t (t : Nat) (w : World) (s : Sk) : ∀ j u, s.cells[j]? = some u → (w.alloc (.cells s.cells.toArray t)).cell? ((⟨w.heap.size, 0, none⟩ : Addr).add j) = some u := by
  intro j u hu
  rw [Go.WideShapes.add_plain]
  unfold World.cell?
  rw [show (w.alloc (.cells s.cells.toArray t)).heap[w.heap.size]? = _ from blk_new w _]
  simpa using hu
def GvPost (t : Nat) (l : List Sk) (w : World) (e : Ending) (w' : World) : Prop := ∃ v, e = .returned v ∧ OwnT t w' w.heap.size v l ∧ Below w.heap.size w w'
set_option maxRecDepth 100000 in
set_option maxHeartbeats 2000000 in
theorem given_any (A : Option Addr) (c : Nat) (l : List Sk) (w : World) (hS : SkC w A l) (hc : l.length ≤ c) (hl : l.length ≤ 1000000) :
    Calls Tryz.prog 37 #[.slice A l.length c] w (GvPost 28 l w) := by
  have HS := hid hS
  have HL := hid hl
  clear hS hc
  obtain ⟨i0, hi0, hz0, hz1, hz2⟩ := info_parts infoS
  go_enter Tryz.func37, Tryz.ntmps37
  go_wp2_with fail
  go_loopw [3, 4] (fun sv iv W => ∃ i : Nat, iv = .int .i64 i ∧ i ≤ l.length ∧ (∃ A3 c3, sv = .slice A3 i c3) ∧ Hid (OwnT 28 W w.heap.size sv (l.take i)) ∧ Hid (Below w.heap.size w W)) (fun _ iv _ => l.length - (intOf iv).toNat)
  case atStart => exact ⟨0, rfl, by omega, ⟨none, 0, rfl⟩, hid (World.ownsRow_nil _ _ _ _), hid (Below.refl _ _)⟩
  case round =>
    obtain ⟨i, rfl, hi, ⟨A2, c2, rfl⟩, hO, hB⟩ := hrel
    by_cases hlt : i < l.length
    · rcases HS.out.below hB.out with h | ⟨b, off, rfl, hcl⟩
      · rw [h] at hlt; exact absurd hlt (by simp)
      · obtain ⟨k0, k1, k2⟩ := hcl i hlt
        clear hcl
        obtain ⟨s, hsd⟩ : ∃ s, l.getD i skZ = s := ⟨_, rfl⟩
        rw [hsd] at k0 k1 k2
        have HSD := hid hsd
        clear hsd
        have HO2 := hid (ownT_alloc hO.out (.cells s.cells.toArray 28))
        have HN := hid (news_t 28 wr s)
        have hln : (l.take i).length ≤ 1000000 := by rw [List.length_take]; omega
        have HLN := hid hln
        have HBS := hid (below_alloc hB.out (.cells s.cells.toArray 28))
        clear hln
        go_wp2_with (at_builtin; refine wpList_append_own _ rfl _ _ 38 rfl w.heap.size 28 i0 _ 3 8 Tryz.underlying38 hi0 hz0 hz1 hz2 rfl (by decide) _ _ _ rfl HO2.out ⟨wr.heap.size, 0, none⟩ 1 1 s.cells rfl rfl HN.out (by intro u hu; simp only [Sk.cells, List.mem_cons, List.not_mem_nil, or_false] at hu; rcases hu with rfl | rfl | rfl <;> rfl) (by have := HLN.out; unfold maxLen; omega) (by have := HLN.out; omega) HBS.out.size ?_; intro v' w9 hown' hgrow _; have HI9 := hid (ownT_join hlt HSD.out hown'); have HB9 := hid (HBS.out.grown hgrow HBS.out.size (fun k hk => (World.ownsRow.lt HO2.out k hk).1)); clear hown' hgrow)
        obtain ⟨A9, c9, hA9⟩ := ownT_form HI9.out
        refine ⟨⟨i + 1, by go_num, by omega, ⟨A9, c9, ?_⟩, HI9, HB9⟩, by simp [intOf]; omega⟩
        rw [hA9, List.length_take, Nat.min_eq_left (by omega)]
    · obtain rfl : i = l.length := by omega
      have hO2 := hO.out
      rw [List.take_length] at hO2
      have HO2 := hid hO2
      clear hO hO2
      go_wp2_with fail
      go_ret
      exact ⟨_, rfl, HO2.out, hB.out⟩
set_option maxRecDepth 100000 in
set_option maxHeartbeats 2000000 in
theorem back_any (A : Option Addr) (c : Nat) (l : List Sk) (w : World) (hS : SkC w A l) (hc : l.length ≤ c) (hl : l.length ≤ 1000000) :
    Calls Tryz.prog 42 #[.slice A l.length c] w (GvPost 25 l w) := by
  have HS := hid hS
  have HL := hid hl
  clear hS hc
  obtain ⟨i0, hi0, hz0, hz1, hz2⟩ := info_parts infoR
  go_enter Tryz.func42, Tryz.ntmps42
  go_wp2_with fail
  go_loopw [3, 4] (fun sv iv W => ∃ i : Nat, iv = .int .i64 i ∧ i ≤ l.length ∧ (∃ A3 c3, sv = .slice A3 i c3) ∧ Hid (OwnT 25 W w.heap.size sv (l.take i)) ∧ Hid (Below w.heap.size w W)) (fun _ iv _ => l.length - (intOf iv).toNat)
  case atStart => exact ⟨0, rfl, by omega, ⟨none, 0, rfl⟩, hid (World.ownsRow_nil _ _ _ _), hid (Below.refl _ _)⟩
  case round =>
    obtain ⟨i, rfl, hi, ⟨A2, c2, rfl⟩, hO, hB⟩ := hrel
    by_cases hlt : i < l.length
    · rcases HS.out.below hB.out with h | ⟨b, off, rfl, hcl⟩
      · rw [h] at hlt; exact absurd hlt (by simp)
      · obtain ⟨k0, k1, k2⟩ := hcl i hlt
        clear hcl
        obtain ⟨s, hsd⟩ : ∃ s, l.getD i skZ = s := ⟨_, rfl⟩
        rw [hsd] at k0 k1 k2
        have HSD := hid hsd
        clear hsd
        have HO2 := hid (ownT_alloc hO.out (.cells s.cells.toArray 25))
        have HN := hid (news_t 25 wr s)
        have hln : (l.take i).length ≤ 1000000 := by rw [List.length_take]; omega
        have HLN := hid hln
        have HBS := hid (below_alloc hB.out (.cells s.cells.toArray 25))
        clear hln
        go_wp2_with (at_builtin; refine wpList_append_own _ rfl _ _ 71 rfl w.heap.size 25 i0 _ 3 8 Tryz.underlying71 hi0 hz0 hz1 hz2 rfl (by decide) _ _ _ rfl HO2.out ⟨wr.heap.size, 0, none⟩ 1 1 s.cells rfl rfl HN.out (by intro u hu; simp only [Sk.cells, List.mem_cons, List.not_mem_nil, or_false] at hu; rcases hu with rfl | rfl | rfl <;> rfl) (by have := HLN.out; unfold maxLen; omega) (by have := HLN.out; omega) HBS.out.size ?_; intro v' w9 hown' hgrow _; have HI9 := hid (ownT_join hlt HSD.out hown'); have HB9 := hid (HBS.out.grown hgrow HBS.out.size (fun k hk => (World.ownsRow.lt HO2.out k hk).1)); clear hown' hgrow)
        obtain ⟨A9, c9, hA9⟩ := ownT_form HI9.out
        refine ⟨⟨i + 1, by go_num, by omega, ⟨A9, c9, ?_⟩, HI9, HB9⟩, by simp [intOf]; omega⟩
        rw [hA9, List.length_take, Nat.min_eq_left (by omega)]
    · obtain rfl : i = l.length := by omega
      have hO2 := hO.out
      rw [List.take_length] at hO2
      have HO2 := hid hO2
      clear hO hO2
      go_wp2_with fail
      go_ret
      exact ⟨_, rfl, HO2.out, hB.out⟩
end Go.Proofs.YtcjcgehhmjnlcaaGreatDoor
