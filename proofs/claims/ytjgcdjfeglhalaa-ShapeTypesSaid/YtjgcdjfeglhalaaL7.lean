import Derived.Test.YtjgcdjfeglhalaaL5
set_option linter.unusedVariables false
namespace Go.Proofs.Ytjgcdjfeglhalaa
open Go.RowKit Go.Proofs.YtjgcdjfeglhalaaW.PrintWords

/-- A slice of numbers, as a reader sees it. -/
def RowIs (w : World) (v : Value) (L : List Int) : Prop := (v = .slice none 0 0 ∧ L = []) ∨ ∃ g cap, v = .slice (some ⟨g, 0, none⟩) L.length cap ∧ ∀ t, t < L.length → w.cell? ⟨g, t, none⟩ = some (.int .u16 L[t]!)
theorem rowIs_of {w : World} {base : Nat} {v : Value} {L : List Int} (h : w.ownsRow base 23 1 v L.length (L.map (Value.int .u16))) : RowIs w v L := by
  rcases h.2 with ⟨rfl, h0⟩ | ⟨g, cap, cur, rfl, _, hb, _, _, _, hc⟩
  · exact .inl ⟨rfl, List.eq_nil_of_length_eq_zero h0⟩
  · have H := Srt.holds_block hb (ss := L) (by simpa using hc)
    exact .inr ⟨g, cap, rfl, fun t ht => by
      have := (H t (by simpa using ht)).1
      simpa using this⟩
set_option maxHeartbeats 1000000 in
theorem equal_same (v v' : Value) (L : List Int) (w : World) (h : RowIs w v L) (h' : RowIs w v' L) (hl : L.length < 1000000) : Calls Try.prog 19 #[v, v'] w (IsPost (.bool true) w) := by
  rcases h with ⟨rfl, rfl⟩ | ⟨g, cap, rfl, hc⟩
  · rcases h' with ⟨rfl, -⟩ | ⟨g', cap', rfl, -⟩
    all_goals
      go_enter Try.func19, Try.ntmps19
      go_wp2
      go_loopw [13] (fun vi W => vi = .int .i64 0 ∧ W = w) (fun vi _ => 0)
      case atStart => exact ⟨rfl, rfl⟩
      case round =>
        obtain ⟨rfl, rfl⟩ := hrel
        go_wp2
        go_ret
        exact ⟨rfl, Below.refl _ _⟩
  · rcases h' with ⟨rfl, rfl⟩ | ⟨g', cap', rfl, hc'⟩
    · go_enter Try.func19, Try.ntmps19
      go_wp2
      go_loopw [13] (fun vi W => vi = .int .i64 0 ∧ W = w) (fun vi _ => 0)
      case atStart => exact ⟨rfl, rfl⟩
      case round =>
        obtain ⟨rfl, rfl⟩ := hrel
        go_wp2
        go_ret
        exact ⟨rfl, Below.refl _ _⟩
    · obtain ⟨n, hn⟩ : ∃ n, L.length = n := ⟨_, rfl⟩
      obtain ⟨G, hG⟩ : ∃ G : Nat → Int, ∀ t, G t = L[t]! := ⟨fun t => L[t]!, fun _ => rfl⟩
      simp only [hn, ← hG] at hc hc'
      rw [hn] at hl
      rw [hn]
      clear hG hn
      go_enter Try.func19, Try.ntmps19
      go_wp2
      go_loopw [13] (fun vi W => ∃ (i q : Nat), vi = .int .i64 i ∧ i ≤ n ∧ W = w.drewN q) (fun vi _ => n - (intOf vi).toNat)
      case atStart => exact ⟨0, 0, rfl, by omega, rfl⟩
      case round =>
        obtain ⟨i, q, rfl, hi, hW⟩ := hrel
        by_cases hlt : i < n
        · have c1 : wr.cell? ⟨g, i, none⟩ = some (.int .u16 (G i)) := by rw [hW]; exact hc i hlt
          have c2 : wr.cell? ⟨g', i, none⟩ = some (.int .u16 (G i)) := by rw [hW]; exact hc' i hlt
          have HW := hid hW
          clear hW hc hc'
          go_wp2
          go_quiet (fail)
          go_wp2
          go_roundw
          case rel => exact ⟨i + 1, q + nq, by go_num, by omega, by rw [HW.out]; exact Go.Sort.ahead_ahead w q nq⟩
          case measure => simp [intOf]; omega
        · go_wp2
          go_ret
          exact ⟨rfl, ⟨rfl, rfl, rfl, Nat.le_refl _, fun _ _ => rfl⟩⟩

/-- What the law has gathered of the first rows. -/
def gath (c : Int) (l : List (Int × FR)) : List Int := (l.filter (fun p => p.1 == c)).map (fun p => p.2.ty)
theorem gath_all (c : Int) : gath c rRows = fTys c := by
  by_cases h : c = 1 ∨ c = 2
  · rcases h with rfl | rfl <;> decide
  · have hr : fRowsOf c = [] := by unfold fRowsOf; rw [if_neg (by omega), if_neg (by omega)]
    unfold gath fTys
    rw [hr]
    have : rRows.filter (fun p => p.1 == c) = [] := by
      rw [List.filter_eq_nil_iff]
      intro p hp
      have : p.1 = 1 ∨ p.1 = 2 := by
        unfold rRows at hp
        rw [List.mem_append, List.mem_map, List.mem_map] at hp
        rcases hp with ⟨_, _, rfl⟩ | ⟨_, _, rfl⟩ <;> simp
      simp
      omega
    rw [this]
    rfl
theorem gath_step {c k : Int} {r : FR} {i : Nat} (hr : rRows[i]? = some (k, r)) : gath c (rRows.take (i + 1)) = gath c (rRows.take i) ++ (if k = c then [r.ty] else []) := by
  unfold gath
  rw [List.take_add_one, hr, List.filter_append, List.map_append]
  by_cases h : k = c <;> simp [h]
theorem gath_len (c : Int) (i : Nat) : (gath c (rRows.take i)).length ≤ 46 := by
  unfold gath
  rw [List.length_map]
  refine Nat.le_trans (List.length_filter_le _ _) ?_
  rw [List.length_take, rRows_len]
  omega
theorem asc_eq {L M : List Int} (hL : Srt.Asc L) (hM : Srt.Asc M) (h : ∀ x, x ∈ L ↔ x ∈ M) : L = M := by
  have nd : ∀ {K : List Int}, Srt.Asc K → K.Nodup := fun hK => List.Pairwise.imp (fun hab => by omega) hK
  refine List.Perm.eq_of_pairwise (le := fun a b => a < b) (fun a b _ _ h1 h2 => by omega) hL hM ((List.perm_ext_iff_of_nodup (nd hL) (nd hM)).2 h)
theorem owns_below {w w' : World} {base : Nat} {v : Value} {n : Nat} {xs : List Value} (h : w.ownsRow base 23 1 v n xs) (hb : Below w.heap.size w w') : w'.ownsRow base 23 1 v n xs := by
  refine ⟨h.1, ?_⟩
  rcases h.2 with h | ⟨g, cap, cur, e, hg, hh, h⟩
  · exact .inl h
  · exact .inr ⟨g, cap, cur, e, hg, blk_below hh hb, h⟩
theorem sort_row {base : Nat} {v : Value} {L : List Int} {W : World} (h : W.ownsRow base 23 1 v L.length (L.map (Value.int .u16))) (hnd : L.Nodup) (hl : L.length ≤ 1000000) (hbs : base ≤ W.heap.size) :
    Calls Try.prog 18 #[v] W fun e w' => ∃ M : List Int, e = .returned (.tuple #[]) ∧ Srt.Asc M ∧ M.Perm L ∧ w'.ownsRow base 23 1 v M.length (M.map (Value.int .u16)) ∧ Below base W w' := by
  rcases h.2 with ⟨rfl, h0⟩ | ⟨g, cap, cur, rfl, hbase, hgb, r1, r2, r3, r4⟩
  · obtain rfl : L = [] := List.eq_nil_of_length_eq_zero h0
    refine (Srt.sort_nil W).mono ?_
    rintro e w' ⟨rfl, rfl⟩
    exact ⟨[], rfl, List.Pairwise.nil, List.Perm.refl _, h, Below.refl _ _⟩
  · have hH : Go.Sort.Holds Srt.encU W g 0 L.toArray := Srt.holds_block hgb (by simpa using r4)
    have hgl : g < W.heap.size := (Array.getElem?_eq_some_iff.1 hgb).1
    have cS := Srt.sort_calls g 0 cap L.toArray W hH hgl (by simp; omega)
    simp only [List.size_toArray] at cS
    refine cS.mono ?_
    rintro e w' ⟨rfl, d', hp, hs, hw'⟩
    have ha := Srt.asc_of (d := L.toArray) (d' := d') (by simpa using hp) (by simpa using hs) (by simpa using hnd)
    have hh := Srt.at_heap hgb hw'
    have hsz : d'.size = L.length := by have := hp.1; simpa using this
    refine ⟨d'.toList, rfl, ha.1, by simpa using ha.2, ?_, (Below.refl _ _).grown hh.2 hbs (fun j hj => by cases hj; exact hbase)⟩
    refine ⟨by simp, .inr ⟨g, cap, _, by simp [hsz], hbase, hh.1, by simp [hsz]; exact r1, r2, by simp [Go.Sort.putCells, r3], ?_⟩⟩
    rw [Nat.mul_one]
    simpa using Srt.take_put cur d' (by omega)
theorem infoE : (Try.prog.info? 23).map (fun i => (i.zero, i.size, i.bytes)) = some (some (.int .u16 0), 1, 2) := by kernel_rfl
set_option maxHeartbeats 4000000 in
theorem law7 (c : Int) (w : World) : Calls Try.prog 7 #[.int .i64 c] w (IsPost (.bool true) w) := by
  obtain ⟨i0, hi, hz0, hz1, hz2⟩ := info_parts infoE
  go_enter Try.func7, Try.ntmps7
  go_wp2_with fail
  refine (awake_any _).mono ?_
  rintro e w1 ⟨rfl, hb⟩
  have B1 := hid hb
  clear hb
  go_wp2_with fail
  refine (rtab_any _).mono ?_
  rintro e w2 ⟨b, hb0, rfl, hc, hB⟩
  have B2 := hid (cthen B1.out hB)
  have HC := hid hc
  have hbl : b < w2.heap.size := (Array.getElem?_eq_some_iff.1 hc).1
  clear hB hc
  go_wp2_with fail
  go_loopw [3, 5] (fun v vi W => ∃ i : Nat, vi = .int .i64 i ∧ i ≤ 46 ∧ W.ownsRow w2.heap.size 23 1 v (gath c (rRows.take i)).length ((gath c (rRows.take i)).map (Value.int .u16)) ∧ Below w2.heap.size w2 W) (fun _ vi _ => 46 - (intOf vi).toNat)
  case atStart => exact ⟨0, rfl, by omega, World.ownsRow_nil _ _ _ _, Below.refl _ _⟩
  case round =>
    obtain ⟨i, rfl, hi46, hrow, hW⟩ := hrel
    have hCW := hid (blk_below HC.out hW)
    by_cases hlt : i < 46
    · obtain ⟨k, r, hr⟩ : ∃ k r, rRows[i]? = some (k, r) := ⟨_, _, List.getElem?_eq_getElem (by rw [rRows_len]; exact hlt)⟩
      have cs := rrow_at hCW.out i k r hr
      have gs := hid (gath_step (c := c) hr)
      have gl := gath_len c i
      have hsz := hW.size
      clear hr
      by_cases hk : k = c
      · have hkb : (k == c) = true := by simp [hk]
        go_wp2_with (at_builtin; refine wpList_append_own _ rfl _ _ 41 rfl w2.heap.size 23 i0 (.int .u16 0) 1 2 Try.underlying41 hi hz0 hz1 hz2 rfl (by decide) _ _ _ rfl (hrow.alloc _) ⟨wr.heap.size, 0, none⟩ 1 1 [.int .u16 r.ty] rfl rfl (cell_one_new _ _ _) (by simp [Value.oneCell']) (by unfold maxLen; omega) (by omega) (by simp; omega) ?_; intro v' w3 hown3 hgrow3 _)
        refine ⟨⟨i + 1, by go_num, by omega, ?_, ?_⟩, by simp [intOf]; omega⟩
        · rw [gs.out, if_pos hk, List.length_append, List.map_append]
          exact hown3
        · exact (hW.alloc hsz _).grown hgrow3 (by simp; omega) (fun j e => ((hrow.alloc (.cells #[.int .u16 r.ty] 23)).lt j e).1)
      · have hkb : (k == c) = false := by simp [hk]
        go_wp2_with fail
        go_roundw
        case rel =>
          have g2 := gs.out
          rw [if_neg hk, List.append_nil] at g2
          exact ⟨i + 1, by go_num, by omega, by rw [g2]; exact hrow, hW⟩
        case measure => simp [intOf]; omega
    · obtain rfl : i = 46 := by omega
      have ht : rRows.take 46 = rRows := List.take_of_length_le (by rw [rRows_len]; exact Nat.le_refl _)
      rw [ht, gath_all] at hrow
      go_wp2_with fail
      refine (sort_row hrow (fRowsOf_nodup c) (by have := gath_len c 46; rw [ht, gath_all] at this; omega) hW.size).mono ?_
      rintro e w4 ⟨M, rfl, hM, hMp, hMr, hb⟩
      have B4 := hid (cthen B2.out (hW.trans hb))
      clear hb hrow
      go_wp2_with fail
      refine (types_any c _).mono ?_
      rintro e w5 ⟨v5, L, rfl, hL, hLm, hLr, hb⟩
      obtain rfl : L = M := asc_eq hL hM (fun x => by rw [hLm x]; exact (hMp.mem_iff (a := x)).symm)
      have B5 := hid (cthen B4.out hb)
      have r1 := rowIs_of hLr
      have r2 := rowIs_of (owns_below hMr hb)
      have hln : L.length < 1000000 := by have := gath_len c 46; rw [ht, gath_all] at this; have := hMp.length_eq; omega
      clear hb hLr hMr hLm hMp
      go_wp2_with fail
      refine (equal_same _ _ L _ r1 r2 hln).mono ?_
      rintro e w6 ⟨rfl, hb⟩
      have B6 := hid (cthen B5.out hb)
      clear hb
      go_wp2_with fail
      go_ret
      exact ⟨rfl, B6.out⟩
#print axioms law7
end Go.Proofs.Ytjgcdjfeglhalaa
