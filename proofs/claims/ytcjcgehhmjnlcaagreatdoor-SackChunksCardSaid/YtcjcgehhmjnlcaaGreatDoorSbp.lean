/- Joined: Bpl, Shm, Sad. -/
import Derived.Test.YtcjcgehhmjnlcaaGreatDoorSga
import Derived.Test.YtcjcgehhmjnlcaaGreatDoorSq
import Derived.Maps.OwnIn
import Derived.Maps.OwnOps
/- The plain law of building a sack's description. -/
set_option linter.unusedVariables false
set_option linter.unusedSimpArgs false
namespace Go.Proofs.YtcjcgehhmjnlcaaGreatDoor
namespace Sk14
theorem snoc_ind {α : Type} {P : List α → Prop} (h0 : P []) (h1 : ∀ l x, P l → P (l ++ [x])) (l : List α) : P l := by
  have h : ∀ l : List α, P l.reverse := by
    intro l
    induction l with
    | nil => simpa using h0
    | cons a l ih => rw [List.reverse_cons]; exact h1 _ _ ih
  have := h l.reverse
  rwa [List.reverse_reverse] at this
def dst (x cum : Int) : Int := (x - cum) % 4294967296
/-- One number that came: what is held, and the duplicates. -/
def bStep (cum : Int) (s : List Int × List Int) (x : Int) : List Int × List Int :=
  if dst x cum = 0 ∨ dst x cum > 2147483648 ∨ dst x cum ∈ s.1 then (s.1, s.2 ++ [x])
  else if dst x cum < 2147483648 then (s.1 ++ [dst x cum], s.2) else s
def bFold (cum : Int) (l : List Int) : List Int × List Int := l.foldl (bStep cum) ([], [])
theorem bFold_snoc (cum : Int) (l : List Int) (x : Int) : bFold cum (l ++ [x]) = bStep cum (bFold cum l) x := by simp [bFold, List.foldl_append]
theorem dst_nonneg (x cum : Int) : 0 ≤ dst x cum := by unfold dst; omega
theorem dst_lt (x cum : Int) : dst x cum < 4294967296 := by unfold dst; omega
theorem bFold_mem (cum : Int) (l : List Int) (y : Int) : y ∈ (bFold cum l).1 ↔ (∃ x ∈ l, dst x cum = y) ∧ 0 < y ∧ y < 2147483648 := by
  induction l using snoc_ind with
  | h0 => simp [bFold]
  | h1 l x ih =>
    rw [bFold_snoc]
    have h0 := dst_nonneg x cum
    unfold bStep
    by_cases h : dst x cum = 0 ∨ dst x cum > 2147483648 ∨ dst x cum ∈ (bFold cum l).1
    · rw [if_pos h]
      show y ∈ (bFold cum l).1 ↔ _
      rw [ih]
      constructor
      · rintro ⟨⟨z, hz, e⟩, h1, h2⟩
        exact ⟨⟨z, by simp [hz], e⟩, h1, h2⟩
      · rintro ⟨⟨z, hz, e⟩, h1, h2⟩
        rcases List.mem_append.1 hz with hz | hz
        · exact ⟨⟨z, hz, e⟩, h1, h2⟩
        · obtain rfl : z = x := by simpa using hz
          rcases h with h | h | h
          · omega
          · omega
          · rw [e] at h; exact ih.1 h
    · rw [if_neg h]
      rw [not_or, not_or] at h
      by_cases h3 : dst x cum < 2147483648
      · rw [if_pos h3]
        show y ∈ (bFold cum l).1 ++ [dst x cum] ↔ _
        rw [List.mem_append, ih]
        constructor
        · rintro (⟨⟨z, hz, e⟩, h1, h2⟩ | hy)
          · exact ⟨⟨z, by simp [hz], e⟩, h1, h2⟩
          · obtain rfl : y = dst x cum := by simpa using hy
            exact ⟨⟨x, by simp, rfl⟩, by omega, h3⟩
        · rintro ⟨⟨z, hz, e⟩, h1, h2⟩
          rcases List.mem_append.1 hz with hz | hz
          · exact .inl ⟨⟨z, hz, e⟩, h1, h2⟩
          · obtain rfl : z = x := by simpa using hz
            exact .inr (by simp [e])
      · rw [if_neg h3, ih]
        constructor
        · rintro ⟨⟨z, hz, e⟩, h1, h2⟩
          exact ⟨⟨z, by simp [hz], e⟩, h1, h2⟩
        · rintro ⟨⟨z, hz, e⟩, h1, h2⟩
          rcases List.mem_append.1 hz with hz | hz
          · exact ⟨⟨z, hz, e⟩, h1, h2⟩
          · obtain rfl : z = x := by simpa using hz
            omega
theorem bFold_len (cum : Int) (l : List Int) : (bFold cum l).1.length + (bFold cum l).2.length ≤ l.length := by
  induction l using snoc_ind with
  | h0 => simp [bFold]
  | h1 l x ih =>
    rw [bFold_snoc]
    unfold bStep
    split
    · simp; omega
    · split
      · simp; omega
      · simp; omega
/-- How far the first number moves. -/
def Mv (H : List Int) (m : Int) : Prop := 0 ≤ m ∧ (∀ i, 1 ≤ i → i ≤ m → i ∈ H) ∧ m + 1 ∉ H
theorem Mv.unique {H : List Int} {a b : Int} (ha : Mv H a) (hb : Mv H b) : a = b := by
  obtain ⟨a0, a1, a2⟩ := ha
  obtain ⟨b0, b1, b2⟩ := hb
  rcases Int.lt_trichotomy a b with h | h | h
  · exact absurd (b1 (a + 1) (by omega) (by omega)) a2
  · exact h
  · exact absurd (a1 (b + 1) (by omega) (by omega)) b2
/-- The offsets that gaps are made of. -/
def Near (H : List Int) (m : Int) (A : List Int) : Prop := Srt.Asc A ∧ ∀ y, y ∈ A ↔ m + y ∈ H ∧ 0 < y ∧ y ≤ 65535
theorem asc_eq {L M : List Int} (hL : Srt.Asc L) (hM : Srt.Asc M) (h : ∀ x, x ∈ L ↔ x ∈ M) : L = M := by
  have nd : ∀ {K : List Int}, Srt.Asc K → K.Nodup := fun hK => List.Pairwise.imp (fun hab => by omega) hK
  refine List.Perm.eq_of_pairwise (le := fun a b => a < b) (fun a b _ _ h1 h2 => by omega) hL hM ((List.perm_ext_iff_of_nodup (nd hL) (nd hM)).2 h)
theorem Near.unique {H : List Int} {m : Int} {A B : List Int} (ha : Near H m A) (hb : Near H m B) : A = B :=
  asc_eq ha.1 hb.1 fun x => (ha.2 x).trans (hb.2 x).symm
/-- An offset is added to gaps. -/
def gAdd (G : List Gp) (d : Int) : List Gp := if G ≠ [] ∧ (G.getLastD gpZ).f1 + 1 = d then G.dropLast ++ [⟨(G.getLastD gpZ).f0, d⟩] else G ++ [⟨d, d⟩]
def gOf (A : List Int) : List Gp := A.foldl gAdd []
theorem gOf_snoc (A : List Int) (d : Int) : gOf (A ++ [d]) = gAdd (gOf A) d := by simp [gOf, List.foldl_append]
theorem gAdd_len (G : List Gp) (d : Int) : (gAdd G d).length ≤ G.length + 1 := by
  unfold gAdd
  split
  · simp
  · simp
theorem gOf_len (A : List Int) : (gOf A).length ≤ A.length := by
  induction A using snoc_ind with
  | h0 => simp [gOf]
  | h1 l x ih =>
    rw [gOf_snoc]
    have := gAdd_len (gOf l) x
    simp
    omega
theorem last_split (G : List Gp) (h : G ≠ []) : G = G.dropLast ++ [G.getLastD gpZ] := by
  rcases List.eq_nil_or_concat G with rfl | ⟨B, d, rfl⟩
  · exact absurd rfl h
  · simp
theorem gOf_in (A : List Int) (hA : ∀ y ∈ A, 1 ≤ y ∧ y ≤ 65535) : (∀ g ∈ gOf A, 1 ≤ g.f0 ∧ g.f0 ≤ g.f1 ∧ g.f1 ≤ 65535) ∧ ∀ d, (∃ g ∈ gOf A, g.f0 ≤ d ∧ d ≤ g.f1) ↔ d ∈ A := by
  induction A using snoc_ind with
  | h0 => simp [gOf]
  | h1 l x ih =>
    obtain ⟨ih1, ih2⟩ := ih (fun y hy => hA y (by simp [hy]))
    have hx := hA x (by simp)
    rw [gOf_snoc]
    unfold gAdd
    by_cases h : gOf l ≠ [] ∧ ((gOf l).getLastD gpZ).f1 + 1 = x
    · rw [if_pos h]
      have hs := last_split (gOf l) h.1
      obtain ⟨g, hg⟩ : ∃ g, (gOf l).getLastD gpZ = g := ⟨_, rfl⟩
      obtain ⟨G, hG⟩ : ∃ G, (gOf l).dropLast = G := ⟨_, rfl⟩
      have h2 := h.2
      rw [hg] at h2 hs ⊢
      rw [hG] at hs ⊢
      rw [hs] at ih1 ih2
      have hgo := ih1 g (by simp)
      constructor
      · intro q hq
        rcases List.mem_append.1 hq with hq | hq
        · exact ih1 q (by simp [hq])
        · obtain rfl := List.mem_singleton.1 hq
          exact ⟨hgo.1, show g.f0 ≤ x by omega, hx.2⟩
      · intro d
        rw [List.mem_append, ← ih2 d]
        constructor
        · rintro ⟨q, hq, h1, h3⟩
          rcases List.mem_append.1 hq with hq | hq
          · exact .inl ⟨q, by simp [hq], h1, h3⟩
          · obtain rfl := List.mem_singleton.1 hq
            have h1 : g.f0 ≤ d := h1
            have h3 : d ≤ x := h3
            by_cases hd : d = x
            · exact .inr (by simp [hd])
            · exact .inl ⟨g, by simp, h1, by omega⟩
        · rintro (⟨q, hq, h1, h3⟩ | hd)
          · rcases List.mem_append.1 hq with hq | hq
            · exact ⟨q, by simp [hq], h1, h3⟩
            · obtain rfl := List.mem_singleton.1 hq
              exact ⟨⟨q.f0, x⟩, by simp, h1, show d ≤ x by omega⟩
          · obtain rfl : d = x := by simpa using hd
            exact ⟨⟨g.f0, d⟩, by simp, show g.f0 ≤ d by omega, Int.le_refl d⟩
    · rw [if_neg h]
      constructor
      · intro q hq
        rcases List.mem_append.1 hq with hq | hq
        · exact ih1 q hq
        · obtain rfl := List.mem_singleton.1 hq
          exact ⟨hx.1, Int.le_refl x, hx.2⟩
      · intro d
        rw [List.mem_append, ← ih2 d]
        constructor
        · rintro ⟨q, hq, h1, h3⟩
          rcases List.mem_append.1 hq with hq | hq
          · exact .inl ⟨q, hq, h1, h3⟩
          · obtain rfl := List.mem_singleton.1 hq
            have h1 : x ≤ d := h1
            have h3 : d ≤ x := h3
            exact .inr (by simp; omega)
        · rintro (⟨q, hq, h1, h3⟩ | hd)
          · exact ⟨q, by simp [hq], h1, h3⟩
          · obtain rfl : d = x := by simpa using hd
            exact ⟨⟨d, d⟩, by simp, Int.le_refl d, Int.le_refl d⟩
/-! ### A description that is built covers what came, and nothing else -/
section tells
variable {cum : Int} {cs : List Int} {m : Int} {A : List Int}
end tells
/-! ### The next offset, as the reference finds it -/
/-! ### The reference holds numbers where the package holds offsets -/
end Sk14
end Go.Proofs.YtcjcgehhmjnlcaaGreatDoor
/- The map of offsets that 'sack.Build' fills. -/
set_option linter.unusedVariables false
set_option linter.unusedSimpArgs false
namespace Go.Proofs.YtcjcgehhmjnlcaaGreatDoor
open Go.RowKit Go.Shelf Go.Maps Go.WideMaps Go.Proofs.YtcjcgehhmjnlcaaGreatDoorW.PrintWords
namespace Sk14
def hD (H : List Int) : DataW Value := H.foldl (fun m x => m.put (.int .u32 x) (.held (.bool true))) (.map [])
theorem hD_step (H : List Int) (x : Int) : hD (H ++ [x]) = (hD H).put (.int .u32 x) (.held (.bool true)) := by simp [hD, List.foldl_append]
theorem key_u (x : Int) : WideAt.IsKeyLit (.int .u32 x) := by simp [WideAt.IsKeyLit]
theorem hD_map (H : List Int) : IsMap (hD H) ∧ Tidy (hD H) := by
  have h : Tidy (hD H) := by
    unfold hD
    have := tidy_fold (.held (.bool true) : DataW Value) (H.map (fun x => Lit.int .u32 x)) (.map []) tidy_empty (by
      intro x hx
      obtain ⟨y, -, rfl⟩ := List.mem_map.1 hx
      exact key_u y)
    rw [List.foldl_map] at this
    exact this
  obtain ⟨es, e, hp⟩ := h
  exact ⟨⟨es, e⟩, ⟨es, e, hp⟩⟩
theorem lit_ne {x y : Int} (h : x ≠ y) : Lit.int .u32 x ≠ Lit.int .u32 y := by
  intro e
  injection e with _ e
  exact h e
theorem hD_has (H : List Int) (x : Int) : Maps.has (hD H) (.int .u32 x) = true ↔ x ∈ H := by
  induction H using snoc_ind with
  | h0 => simp [hD, Maps.has]
  | h1 H y ih =>
    rw [hD_step, List.mem_append]
    by_cases h : x = y
    · subst h
      rw [has_put_same (hD_map H).1 (key_u x)]
      simp
    · rw [has_put_other (lit_ne h), ih]
      simp [h]
theorem hD_at (H : List Int) (x : Int) (z : DataW Value) : (hD H).atKey (.int .u32 x) z = if x ∈ H then .held (.bool true) else z := by
  induction H using snoc_ind with
  | h0 => rfl
  | h1 H y ih =>
    rw [hD_step]
    by_cases h : x = y
    · subst h
      rw [atKey_put_same (hD_map H).1 (key_u x)]
      simp
    · rw [atKey_put_other (lit_ne h), ih]
      simp [h]
theorem hD_size (H : List Int) : Maps.size (hD H) ≤ H.length := by
  induction H using snoc_ind with
  | h0 => exact Nat.le_refl _
  | h1 H y ih =>
    rw [hD_step, size_put (hD_map H).2]
    simp
    split <;> omega
def heldE (v : Value) : Option (DataW Value × List MemPlace) := some (.held v, [])
theorem lawU : Keyed Tryz.prog 23 := int_keyed Tryz.underlying23
theorem keyU {x : Int} (h : 0 ≤ x ∧ x < 4294967296) : keyOf Tryz.prog 23 (.int .u32 x) = some (.int .u32 x) := keyOf_int_mk Tryz.underlying23 (WalkArith.wf_u32 (by omega))
/-- Offsets in a map of the call's own. -/
def OwnM (w : World) (b n : Nat) (H : List Int) : Prop := w.ownsMap Tryz.prog 23 heldE b n (hD H)
theorem zeroB (w : World) : (zeroValue 4).run Tryz.prog w = .ok (.bool false) w := by kernel_rfl
theorem ownM_look {w : World} {b n : Nat} {H : List Int} (h : OwnM w b n H) {x : Int} (hx : 0 ≤ x ∧ x < 4294967296) : (Instr.lookup 130 (.map (some b)) (.int .u32 x) false).run Tryz.prog w = .ok (.bool (decide (x ∈ H))) w := by
  obtain ⟨v, ps, hrun, hv⟩ := World.ownsMap.lookup h lawU Tryz.underlying130 (z := .bool false) (zd := .held (.bool false)) (zp := []) (zeroB w) rfl (keyU hx)
  rw [hD_at] at hv
  rw [hrun]
  have : v = .bool (decide (x ∈ H)) := by
    unfold heldE at hv
    by_cases hm : x ∈ H
    · rw [if_pos hm] at hv
      simp at hv
      rw [hv.1]; simp [hm]
    · rw [if_neg hm] at hv
      simp at hv
      rw [hv.1]; simp [hm]
  rw [this]
theorem ownM_put {w : World} {b n : Nat} {H : List Int} (h : OwnM w b n H) (hn : n ≤ 1000000) {x : Int} (hx : 0 ≤ x ∧ x < 4294967296) : ∃ w', (Instr.mapUpdate 130 (.map (some b)) (.int .u32 x) (.bool true)).run Tryz.prog w = .ok () w' ∧ OwnM w' b (n + 1) (H ++ [x]) ∧ w.grownBy w' (some b) := by
  obtain ⟨w', h1, h2, h3⟩ := World.ownsMap.update h lawU Tryz.underlying130 (by unfold maxLen; omega) (keyU hx) (show heldE (.bool true) = some (_, _) from rfl)
  refine ⟨w', h1, ?_, h3⟩
  unfold OwnM
  rw [hD_step]
  exact h2
theorem ownM_made (w : World) : OwnM (w.alloc (.map #[] 0)) w.heap.size 0 [] := World.ownsMap_made _ _ _ _
theorem ownM_kept {w w' : World} {b n : Nat} {H : List Int} {row : Option Nat} (h : OwnM w b n H) (hg : w.grownBy w' row) (hne : some b ≠ row) : OwnM w' b n H := World.ownsMap.kept h hg hne
end Sk14
end Go.Proofs.YtcjcgehhmjnlcaaGreatDoor
/- The closure of 'sack.Build' that adds an offset to the gaps. -/
set_option linter.unusedVariables false
set_option linter.unusedSimpArgs false
namespace Go.Proofs.YtcjcgehhmjnlcaaGreatDoor
open Go.RowKit Go.Shelf Go.Proofs.YtcjcgehhmjnlcaaGreatDoor.It Go.Proofs.YtcjcgehhmjnlcaaGreatDoorW.PrintWords Go.Proofs.YtcjcgehhmjnlcaaGreatDoorW.PrintLast Go.Proofs.YtcjcgehhmjnlcaaGreatDoorW.PrintMore
namespace Sk14
/-- What a step that writes one block and rows of one type leaves. -/
structure Kpt (tg p : Nat) (W W' : World) : Prop where
  bel : Below p W W'
  keep : ∀ k o, W.heap[k]? = some o → k ≠ p → (∀ cs fr, o ≠ .cells cs tg fr) → W'.heap[k]? = some o
theorem Kpt.row {tg p : Nat} {W W' : World} (h : Kpt tg p W W') {t z base n : Nat} {v : Value} {xs : List Value} (hr : W.ownsRow base t z v n xs) (ht : t ≠ tg) {cs : Array Value} {ts : Nat} (hp : W.heap[p]? = some (.cells cs ts (0, 0))) (hts : ts ≠ t) : W'.ownsRow base t z v n xs := by
  refine ⟨hr.1, ?_⟩
  rcases hr.2 with h2 | ⟨g, cap, cur, h3, h4, h5, h6⟩
  · exact .inl h2
  · refine .inr ⟨g, cap, cur, h3, h4, h.keep g _ h5 ?_ ?_, h6⟩
    · rintro rfl
      rw [hp] at h5
      injection h5 with h5
      injection h5 with _ h5
      exact hts h5
    · intro cs' fr e
      injection e with _ e
      exact ht e
theorem kpt_blk {tg ts p B : Nat} {W W' : World} {X0 X1 v u : Value} {l : List Gp} {cs : Array Value} (hts : ts ≠ tg) (h2 : W.heap[p]? = some (.cells #[X0, X1, v, u] ts (0, 0))) (hr : OwnG tg W B v l) (hg : (W.alloc (.cells cs tg)).grownBy W' v.ownBlock) : W'.heap[p]? = some (.cells #[X0, X1, v, u] ts (0, 0)) := by
  have k2 := blk_below h2 (below_alloc (Below.refl W.heap.size W) (.cells cs tg))
  rw [hg.block _ (Array.getElem?_eq_some_iff.1 k2).1 (row_apart hr hts h2)]; exact k2
/-- The gaps grow by one, and the struct is told. -/
theorem kpt_app {tg ts p B n : Nat} {W W' : World} {X0 X1 v v' u : Value} {l : List Gp} {g : Gp} {cs : Array Value} (hts : ts ≠ tg) (hp : p < B) (hpW : p < W.heap.size) (h2 : W.heap[p]? = some (.cells #[X0, X1, v, u] ts (0, 0))) (hn : l.length = n) (hr : OwnG tg W B v l) (hg : (W.alloc (.cells cs tg)).grownBy W' v.ownBlock) (ho : W'.ownsRow B tg 2 v' (n + 1) (l.flatMap gcells ++ gcells g)) :
    (W'.setCell ⟨p, 2, none⟩ v').heap[p]? = some (.cells #[X0, X1, v', u] ts (0, 0)) ∧ OwnG tg (W'.setCell ⟨p, 2, none⟩ v') B v' (l ++ [g]) ∧ Kpt tg p W (W'.setCell ⟨p, 2, none⟩ v') := by
  have ha := below_alloc (Below.refl W.heap.size W) (.cells cs tg)
  have n2 := row_apart hr hts h2
  have k2 := blk_below h2 ha
  have hl : ∀ j, v.ownBlock = some j → B ≤ j := fun j hj => by
    rcases hr with ⟨-, ⟨rfl, -⟩ | ⟨g, cap, cur, rfl, hgb, -⟩⟩
    · simp [Value.ownBlock] at hj
    · simp [Value.ownBlock] at hj; omega
  have k3 : W'.heap[p]? = some (.cells #[X0, X1, v, u] ts (0, 0)) := by
    rw [hg.block _ (Array.getElem?_eq_some_iff.1 k2).1 n2]; exact k2
  have hoG : OwnG tg W' B v' (l ++ [g]) := by
    unfold OwnG
    rw [List.length_append, List.flatMap_append, hn]
    simpa using ho
  refine ⟨set_blk' k3 2 v', ownsRow_setCell_other hoG (Ne.symm (row_apart hoG hts k3)) _, ?_, ?_⟩
  · exact Below.setCell (((Below.refl p W).alloc (Nat.le_of_lt hpW) _).grown hg (by simp; omega) (fun j hj => by have := hl j hj; omega)) (Nat.le_refl _) _
  · intro k o hk hkp hko
    have hk2 := (Array.getElem?_eq_some_iff.1 hk).1
    rw [Below.heap_setCell W' ⟨p, 2, none⟩ v' k hkp]
    rw [hg.block k (by simp; omega) ?_]
    · exact (Below.block ha k hk2).trans hk
    · intro e
      rcases hr with ⟨-, ⟨rfl, -⟩ | ⟨g, cap, cur, rfl, -, hgb, -⟩⟩
      · simp [Value.ownBlock] at e
      · simp [Value.ownBlock] at e
        subst e
        rw [hk] at hgb
        injection hgb with hgb
        exact hko _ _ hgb
theorem take_set_lt {α : Type} (l : List α) (k n : Nat) (x : α) (h : k < n) : (l.set k x).take n = (l.take n).set k x := by
  apply List.ext_getElem?
  intro i
  rw [List.getElem?_set]
  by_cases hi : i < n
  · rw [List.getElem?_take_of_lt hi, List.getElem?_take_of_lt hi, List.getElem?_set]
    by_cases hik : k = i
    · subst hik
      have : (k < l.length) = (k < min n l.length) := by apply propext; omega
      simp [this]
    · simp [hik]
  · rw [List.getElem?_take_eq_none (by omega), List.getElem?_take_eq_none (by omega)]
    have : k ≠ i := by omega
    simp [this]
theorem flat_set_to (G : List Gp) (g : Gp) (d : Int) : ((G ++ [g]).flatMap gcells).set (G.length * 2 + 1) (.int .u16 d) = (G ++ [(⟨g.f0, d⟩ : Gp)]).flatMap gcells := by
  have hl : ∀ G : List Gp, (G.flatMap gcells).length = G.length * 2 := by
    intro G
    induction G with
    | nil => rfl
    | cons g G ih => rw [List.flatMap_cons, List.length_append, ih]; simp [gcells]; omega
  rw [List.flatMap_append, List.flatMap_append, List.set_append_right _ _ (by rw [hl]; omega), hl, show G.length * 2 + 1 - G.length * 2 = 1 by omega]
  rfl
/-- The last gap is made longer. -/
theorem kpt_to {tg ts p B : Nat} {W : World} {X0 X1 u : Value} {b c : Nat} {G : List Gp} {g : Gp} {d : Int} (hts : ts ≠ tg) (hp : p < B) (h2 : W.heap[p]? = some (.cells #[X0, X1, .slice (some ⟨b, 0, none⟩) (G.length + 1) c, u] ts (0, 0))) (hr : OwnG tg W B (.slice (some ⟨b, 0, none⟩) (G.length + 1) c) (G ++ [g])) :
    (W.setCell ⟨b, G.length * 2 + 1, none⟩ (.int .u16 d)).heap[p]? = some (.cells #[X0, X1, .slice (some ⟨b, 0, none⟩) (G.length + 1) c, u] ts (0, 0)) ∧ OwnG tg (W.setCell ⟨b, G.length * 2 + 1, none⟩ (.int .u16 d)) B (.slice (some ⟨b, 0, none⟩) (G.length + 1) c) (G ++ [⟨g.f0, d⟩]) ∧ Kpt tg p W (W.setCell ⟨b, G.length * 2 + 1, none⟩ (.int .u16 d)) := by
  unfold OwnG at hr
  obtain ⟨hr1, ⟨h0, -⟩ | ⟨b', cap, cur, he, hB, hb, hcap, hmax, hcur, hpre⟩⟩ := hr
  · cases h0
  · injection he with he1 he2 he3
    injection he1 with he1
    injection he1 with he1 _ _
    subst he1
    subst he3
    have hne : b ≠ p := by
      rintro rfl
      rw [h2] at hb
      injection hb with hb
      injection hb with _ hb
      exact hts hb
    refine ⟨?_, ⟨?_, .inr ⟨b, c, cur.setIfInBounds (G.length * 2 + 1) (.int .u16 d), ?_, hB, set_blk' hb _ _, ?_, hmax, ?_, ?_⟩⟩, ?_, ?_⟩
    · rw [Below.heap_setCell W ⟨b, G.length * 2 + 1, none⟩ _ p (fun e => hne e.symm)]
      exact h2
    · have := hr1
      rw [← flat_set_to G g d, List.length_set]
      simpa using this
    · simp
    · simpa using hcap
    · simpa using hcur
    · rw [Array.toList_setIfInBounds]
      have hl : (G ++ [(⟨g.f0, d⟩ : Gp)]).length = (G ++ [g]).length := by simp
      rw [hl]
      rw [← flat_set_to G g d, ← hpre]
      exact take_set_lt _ _ _ _ (by simp; omega)
    · exact Below.setCell (Below.refl p W) (by show p ≤ b; omega) _
    · intro k o hk hkp hko
      rw [Below.heap_setCell W ⟨b, G.length * 2 + 1, none⟩ _ k ?_]
      · exact hk
      · intro e
        have e : k = b := e
        subst e
        rw [hk] at hb
        injection hb with hb
        exact hko _ _ hb
def AddPost (p B : Nat) (X0 X1 u : Value) (G : List Gp) (d : Int) (W : World) (e : Ending) (W' : World) : Prop := e = .returned (.tuple #[]) ∧ ∃ v', W'.heap[p]? = some (.cells #[X0, X1, v', u] 49 (0, 0)) ∧ OwnG 93 W' B v' (gAdd G d) ∧ Kpt 93 p W W'
theorem one_gcells (g : Gp) : ∀ u ∈ gcells g, Value.oneCell' u = true := by
  intro u hu
  simp only [gcells, List.mem_cons, List.not_mem_nil, or_false] at hu
  rcases hu with rfl | rfl <;> rfl
theorem own_last {t base b c : Nat} {W : World} {G : List Gp} {g : Gp} (hr : OwnG t W base (.slice (some ⟨b, 0, none⟩) (G.length + 1) c) (G ++ [g])) : W.cell? ⟨b, G.length * 2 + 1, none⟩ = some (.int .u16 g.f1) := by
  obtain ⟨A, c', e, -, h, -⟩ := ownG_read hr
  injection e with e1 e2 e3
  subst e1
  rcases h with h | ⟨b', off, e, hc⟩
  · simp at h
  · injection e with e
    injection e with e0 e1 _
    subst e0
    subst e1
    have := (hc G.length (by simp)).2
    simpa using this
theorem own_fro {t base b c n j : Nat} {W : World} {l : List Gp} (hr : OwnG t W base (.slice (some ⟨b, 0, none⟩) n c) l) : W.frozen? ⟨b, j, none⟩ = false := by
  rcases hr.2 with ⟨h, -⟩ | ⟨g, cap, cur, e, -, hg, -⟩
  · cases h
  · injection e with e _ _
    injection e with e
    injection e with e _ _
    subst e
    simp [World.frozen?, hg]
theorem gadd_nil (d : Int) : gAdd [] d = [⟨d, d⟩] := by simp [gAdd]
theorem gadd_no (G : List Gp) (d : Int) (h : (G.getLastD gpZ).f1 + 1 ≠ d) : gAdd G d = G ++ [⟨d, d⟩] := by
  unfold gAdd
  rw [if_neg (fun hh => h hh.2)]
theorem gadd_yes (G : List Gp) (g : Gp) (d : Int) (h : g.f1 + 1 = d) : gAdd (G ++ [g]) d = G ++ [⟨g.f0, d⟩] := by
  unfold gAdd
  rw [if_pos (by simp [h])]
  simp
set_option maxRecDepth 100000 in
set_option maxHeartbeats 4000000 in
theorem add_nil (p B c : Nat) (A0 : Option Addr) (X0 X1 u : Value) (d : Int) (W : World) (hd : 1 ≤ d ∧ d ≤ 65535) (hp : p < B) (hB : B ≤ W.heap.size) (h2 : W.heap[p]? = some (.cells #[X0, X1, .slice A0 0 c, u] 49 (0, 0))) (hr : OwnG 93 W B (.slice A0 0 c) []) :
    Calls Tryz.prog 82 #[.int .u32 d, .pointer (some ⟨p, 0, none⟩)] W (AddPost p B X0 X1 u [] d W) := by
  obtain ⟨i0, hi0, hz0, hz1, hz2⟩ := info_parts infoG
  have hwd : IntKind.u16.wrap d = d := by show d % 65536 = d; omega
  have HOW := hid (World.ownsRow.alloc hr (.cells (gcells ⟨d, d⟩).toArray 93))
  have HOG := hid hr
  have HNW := hid (news_g 93 W ⟨d, d⟩)
  have H2 := hid h2
  have HB := hid hB
  have HP := hid hp
  have HP3 := hid (show p < W.heap.size by omega)
  have HB2 := hid (show B ≤ (W.alloc (.cells (gcells ⟨d, d⟩).toArray 93)).heap.size by rw [World.size_alloc]; omega)
  have HON := hid (one_gcells ⟨d, d⟩)
  obtain ⟨⟨q0, q1, q2, q3⟩, ⟨r0, r1, r2, r3⟩⟩ := four h2
  clear h2 hr hp hB hd
  go_enter Tryz.func82, Tryz.ntmps82
  go_wp2_with (at_builtin; go_loud (refine wpList_append_own _ rfl _ _ 47 rfl B 93 i0 _ 2 4 Tryz.underlying47 hi0 hz0 hz1 hz2 rfl (by decide) _ _ _ rfl HOW.out ⟨W.heap.size, 0, none⟩ 1 1 (gcells ⟨d, d⟩) rfl rfl HNW.out HON.out (by decide) (by decide) HB2.out ?_; intro v' w9 hown' hgrow _; have hK := hid (kpt_app (by decide) HP.out HP3.out H2.out rfl HOG.out hgrow hown'); have hxx := kpt_blk (by decide) H2.out HOG.out hgrow; obtain ⟨A9, c9, rfl⟩ := ownsRow_form hown'; clear q0 q1 q2 q3 r0 r1 r2 r3; obtain ⟨⟨q0, q1, q2, q3⟩, ⟨r0, r1, r2, r3⟩⟩ := four hxx; clear hxx))
  go_end0
  refine ⟨rfl, _, hK.out.1, ?_, hK.out.2.2⟩
  rw [gadd_nil]
  exact hK.out.2.1
set_option maxRecDepth 100000 in
set_option maxHeartbeats 4000000 in
theorem add_more (p B b c : Nat) (X0 X1 u : Value) (G : List Gp) (g : Gp) (d : Int) (W : World) (hd : 1 ≤ d ∧ d ≤ 65535) (hg0 : 0 ≤ g.f1 ∧ g.f1 ≤ 65535) (hl : G.length ≤ 100000) (hp : p < B) (hB : B ≤ W.heap.size) (h2 : W.heap[p]? = some (.cells #[X0, X1, .slice (some ⟨b, 0, none⟩) (G.length + 1) c, u] 49 (0, 0))) (hr : OwnG 93 W B (.slice (some ⟨b, 0, none⟩) (G.length + 1) c) (G ++ [g])) :
    Calls Tryz.prog 82 #[.int .u32 d, .pointer (some ⟨p, 0, none⟩)] W (AddPost p B X0 X1 u (G ++ [g]) d W) := by
  obtain ⟨i0, hi0, hz0, hz1, hz2⟩ := info_parts infoG
  have hwd : IntKind.u16.wrap d = d := by show d % 65536 = d; omega
  have hcell : W.cell? ⟨b, G.length * 2 + 1, none⟩ = some (.int .u16 g.f1) := own_last hr
  have hfro : W.frozen? ⟨b, G.length * 2 + 1, none⟩ = false := own_fro hr
  obtain ⟨n, hn⟩ : ∃ n, G.length + 1 = n := ⟨_, rfl⟩
  have hn0 : wrap64 ((n : Int) - 1) = (G.length : Int) := by unfold wrap64; omega
  have hn1 : (0 : Int) < (n : Int) := by omega
  have hn2 : (0 : Int) ≤ (G.length : Int) := by omega
  have hn3 : (G.length : Int) < (n : Int) := by omega
  have HOG := hid hr
  have HNW := hid (news_g 93 W ⟨d, d⟩)
  have H2 := hid h2
  have HB := hid hB
  have HP := hid hp
  have HP3 := hid (show p < W.heap.size by omega)
  have HB2 := hid (show B ≤ (W.alloc (.cells (gcells ⟨d, d⟩).toArray 93)).heap.size by rw [World.size_alloc]; omega)
  have HON := hid (one_gcells ⟨d, d⟩)
  have HNL := hid (show (n : Int) ≤ 100001 by omega)
  have HN := hid hn
  have HOW : Hid ((W.alloc (.cells (gcells ⟨d, d⟩).toArray 93)).ownsRow B 93 2 (.slice (some ⟨b, 0, none⟩) n c) n ((G ++ [g]).flatMap gcells)) := hid (by
    have := World.ownsRow.alloc hr (.cells (gcells ⟨d, d⟩).toArray 93)
    rw [← hn]
    simpa using this)
  obtain ⟨⟨q0, q1, q2, q3⟩, ⟨r0, r1, r2, r3⟩⟩ := four h2
  have hu : IntKind.u32.wrap (g.f1 % 4294967296 + 1) = g.f1 + 1 := by show (g.f1 % 4294967296 + 1) % 4294967296 = g.f1 + 1; omega
  have hv : IntKind.u16.wrap (g.f1 + 1) = (g.f1 + 1) % 65536 := rfl
  rw [hn] at q2
  have HD := hid hd
  have HG0 := hid hg0
  by_cases heq : g.f1 + 1 = d
  · have hT := hid (kpt_to (d := d) (by decide) hp h2 hr)
    have hvv : IntKind.u16.wrap (g.f1 + 1) = d := by rw [heq]; exact hwd
    clear h2 hr hp hB hd hn hg0 hl hv hvv
    go_enter Tryz.func82, Tryz.ntmps82
    go_wp2_with fail
    refine bodyPost_ret (results_none rfl _ _ _) rfl ?_
    refine ⟨rfl, _, hT.out.1, ?_, hT.out.2.2⟩
    rw [gadd_yes _ _ _ heq]
    exact hT.out.2.1
  · clear h2 hr hp hB hd hn hg0 hl hv
    go_enter Tryz.func82, Tryz.ntmps82
    go_wp2_with (at_builtin; go_loud (refine wpList_append_own _ rfl _ _ 47 rfl B 93 i0 _ 2 4 Tryz.underlying47 hi0 hz0 hz1 hz2 rfl (by decide) _ _ _ rfl HOW.out ⟨W.heap.size, 0, none⟩ 1 1 (gcells ⟨d, d⟩) rfl rfl HNW.out HON.out (by have := HNL.out; unfold maxLen; omega) (by have := HNL.out; omega) HB2.out ?_; intro v' w9 hown' hgrow _; have hK := hid (kpt_app (by decide) HP.out HP3.out H2.out (by rw [List.length_append]; exact HN.out) HOG.out (by rw [HN.out]; exact hgrow) hown'); have hxx := kpt_blk (by decide) H2.out HOG.out (by rw [HN.out]; exact hgrow); rw [HN.out] at hxx; obtain ⟨A9, c9, rfl⟩ := ownsRow_form hown'; clear q0 q1 q2 q3 r0 r1 r2 r3; obtain ⟨⟨q0, q1, q2, q3⟩, ⟨r0, r1, r2, r3⟩⟩ := four hxx; clear hxx))
    go_end0
    refine ⟨rfl, _, by have := hK.out.1; exact this, ?_, hK.out.2.2⟩
    rw [gadd_no _ _ (by simpa using heq)]
    exact hK.out.2.1
/-- The closure, whatever the gaps are. -/
theorem add_any (p B : Nat) (X0 X1 v u : Value) (G : List Gp) (d : Int) (W : World) (hd : 1 ≤ d ∧ d ≤ 65535) (hg0 : ∀ g ∈ G, 0 ≤ g.f1 ∧ g.f1 ≤ 65535) (hl : G.length ≤ 100000) (hp : p < B) (hB : B ≤ W.heap.size) (h2 : W.heap[p]? = some (.cells #[X0, X1, v, u] 49 (0, 0))) (hr : OwnG 93 W B v G) :
    Calls Tryz.prog 82 #[.int .u32 d, .pointer (some ⟨p, 0, none⟩)] W (AddPost p B X0 X1 u G d W) := by
  rcases List.eq_nil_or_concat G with rfl | ⟨G', g, rfl⟩
  · obtain ⟨A0, c0, rfl⟩ := ownsRow_form hr
    exact add_nil p B c0 A0 X0 X1 u d W hd hp hB h2 hr
  · rw [List.concat_eq_append] at hr hl hg0 ⊢
    rcases hr.2 with ⟨rfl, h0⟩ | ⟨b, cap, cur, rfl, h⟩
    · simp at h0
    · rw [show (G' ++ [g]).length = G'.length + 1 by simp] at hr h2
      exact add_more p B b cap X0 X1 u G' g d W hd (hg0 g (by simp)) (by simp at hl; omega) hp hB h2 hr
end Sk14
end Go.Proofs.YtcjcgehhmjnlcaaGreatDoor
