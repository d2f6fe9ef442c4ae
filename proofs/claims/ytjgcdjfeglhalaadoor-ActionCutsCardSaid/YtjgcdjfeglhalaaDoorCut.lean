/- 'append(l[:len(l):len(l)], more...)': the slice without spare room, whatever is appended. -/
import Derived.Test.YtjgcdjfeglhalaaDoorL4
import Derived.ArgAppend
namespace Go.Proofs.YtjgcdjfeglhalaaDoor
open Go.RowKit Go.Proofs.YtjgcdjfeglhalaaDoorW.PrintWords
theorem info3 : (Tryd.prog.info? 3).map (fun i => (i.zero, i.size, i.bytes)) = some (some (.int .i64 0), 1, 8) := by kernel_rfl
theorem append_none_run (W : World) (A : Option Addr) (n : Nat) (A1 : Option Addr) (c1 : Nat) (ty : TypeId) : (Builtin.append_ #[29, 29] ty #[.slice A n n, .slice A1 0 c1]).run Tryd.prog W = .ok (.slice A n n) W := by
  obtain ⟨i, hi, hz⟩ := Option.map_eq_some_iff.1 info3
  simp only [Prod.mk.injEq] at hz
  have hfc : (Builtin.firstCells 1 0 (.slice A1 0 c1)).run Tryd.prog W = .ok #[] W := by
    cases A1 with
    | none => simp [Builtin.firstCells]
    | some a => exact run_firstCells_some (P := Tryd.prog) W 1 0 a 0 c1 [] rfl (fun j u h => by simp at h)
  have ht := Tryd.underlying29
  cases A with
  | none => simp [Builtin.append_, run_underlying ht, sizeOf, typeInfo, hi, Builtin.lenOf, hz, hfc]
  | some a => simp [Builtin.append_, run_underlying ht, sizeOf, typeInfo, hi, Builtin.lenOf, hz, hfc, storeCells]
theorem C_cells {W : World} {A : Option Addr} {n : Nat} {l : List Int} (h : Kd.C (Kd.int .i64) W A n l) (a : Addr) (hA : A = some a) : ∀ j u, (nums .i64 l)[j]? = some u → W.cell? (a.add j) = some u := by
  intro j u hu
  have hj : j < l.length := by have := (List.getElem?_eq_some_iff.1 hu).1; simpa [nums] using this
  obtain ⟨ad, e, hc⟩ := h.2.2 (by have := h.1; omega)
  obtain rfl : ad = a := by rw [hA] at e; cases e; rfl
  obtain ⟨cs, hl, hk, hcell⟩ := hc j l[j] (List.getElem?_eq_getElem hj)
  have e2 : u = .int .i64 l[j] := by
    have : (nums .i64 l)[j]? = some (.int .i64 l[j]) := by simp [nums, hj]
    rw [this] at hu
    cases hu
    rfl
  have hk' : cs = [.int .i64 l[j]] := hk
  have := hcell 0 u (by rw [hk', e2]; rfl)
  simpa [Kd.int, Kd.scalar] using this
section
variable {ops : Array Oper} {rest : List Oper} {o : Oper} {a : Act} {Q : Exit → Act → World → Prop}
theorem append_cut (W : World) (hg : o.guard = none) (s x : Operand) (hop : o.op = Op.call { callee := Callee.builtin Builtin.append, args := #[s, x], argTypes := #[29, 29] })
    (A : Option Addr) (l : List Int) (hs : a.eval s = .slice A l.length l.length) (hC : Kd.C (Kd.int .i64) W A l.length l) (A1 : Option Addr) (m : List Int) (c1 : Nat) (hx : a.eval x = .slice A1 m.length c1) (hC1 : Kd.C (Kd.int .i64) W A1 m.length m) (hb : l.length ≤ 200 ∧ m.length ≤ 200)
    (hK : ∀ A' c' w', (l ++ m).length ≤ c' → Kd.C (Kd.int .i64) w' A' (l ++ m).length (l ++ m) → Below W.heap.size W w' → wpList Tryd.prog ops Q rest (a.put o.dst (.slice A' (l ++ m).length c')) w') :
    wpList Tryd.prog ops Q (o :: rest) a W := by
  by_cases hm : m = []
  · subst hm
    rw [List.length_nil] at hx
    refine Kd.event_run (v := .slice A l.length l.length) (w1 := W) hg ?_ ?_
    · simp [execOp, hop, resolve, invoke, builtin, hs, hx, append_none_run]
    · have := hK A l.length W (by simp) (by simpa using hC) (Below.refl _ _)
      simpa using this
  · have hml : 0 < m.length := List.length_pos_iff.2 hm
    obtain ⟨ad, rfl, _⟩ := hC1.2.2 hml
    obtain ⟨i, hi, hz⟩ := Option.map_eq_some_iff.1 info3
    simp only [Prod.mk.injEq] at hz
    refine wpList_append_grows W hg s x 29 hop 3 i (.int .i64 0) 1 8 Tryd.underlying29 hi hz.1 hz.2.1 hz.2.2 rfl (by decide) A l.length l.length (nums .i64 l) hs ?_ (by simp [nums]) (fun b e => C_cells hC b e) ad m.length c1 (nums .i64 m) hx (by simp [nums]) (C_cells hC1 ad rfl) ?_ (by omega) (by unfold maxLen; omega) (by omega) ?_
    · intro e
      rcases Nat.eq_zero_or_pos l.length with h0 | h0
      · exact ⟨h0, h0⟩
      · obtain ⟨ad', e', _⟩ := hC.2.2 h0
        rw [e] at e'
        cases e'
    · intro u hu
      obtain ⟨z, _, rfl⟩ := List.mem_map.1 hu
      rfl
    · intro v' w' hown hgrow
      have hown' : w'.ownsRow W.heap.size 3 1 v' (l ++ m).length (nums .i64 (l ++ m)) := by rw [nums_append]; simpa using hown
      obtain ⟨A', c', rfl, hr⟩ := own_reads hown'
      have hcc : (l ++ m).length ≤ c' := by
        rcases hown'.2 with ⟨e, h0⟩ | ⟨g, cap, cur, e, _, _, hnc, _⟩
        · simp only [Value.slice.injEq] at e; omega
        · simp only [Value.slice.injEq] at e; omega
      have hBelow : Below W.heap.size W w' := (Below.refl _ _).grown hgrow (Nat.le_refl _) (fun k e => by cases e)
      refine hK A' c' w' hcc ⟨rfl, hr.2.1, fun h => ?_⟩ hBelow
      obtain ⟨ad', e', hc⟩ := hr.2.2 h
      refine ⟨ad', e', fun j p hj => ⟨[.int .i64 p], rfl, rfl, fun i u hu => ?_⟩⟩
      cases i with
      | zero =>
        simp only [List.getElem?_cons_zero, Option.some.injEq] at hu
        subst hu
        have hj2 := (List.getElem?_eq_some_iff.1 hj).1
        have := hc j hj2
        rw [List.getD_eq_getElem?_getD, hj] at this
        simpa [Kd.int, Kd.scalar] using this
      | succ i => simp at hu
end
/-! ### the plain law of a cut -/
theorem cut_take : ∀ (l : List Int) (i : Int), (playS (l.take (stopS l i - i).toNat) i).1 = (playS l i).1 ∧ (playS (l.take (stopS l i - i).toNat) i).2.2 = false ∧ ∃ t, (playS l i).2.1 = (playS (l.take (stopS l i - i).toNat) i).2.1 ++ t
  | [], i => by simp [playS, stopS]
  | b :: l, i => by
    rw [stopS_cons]
    by_cases c : b = 0 ∨ b = 1
    · rw [if_pos c, Int.sub_self]
      rcases c with rfl | rfl <;> simp [playS]
    · rw [if_neg c]
      obtain ⟨h1, h2, t, h3⟩ := cut_take l (i + 1)
      have hge := stopS_ge l (i + 1)
      have e : (stopS l (i + 1) - i).toNat = (stopS l (i + 1) - (i + 1)).toNat + 1 := by omega
      rw [e, List.take_succ_cons]
      generalize l.take (stopS l (i + 1) - (i + 1)).toNat = q at h1 h2 h3
      unfold playS
      have c1 : ¬ b = 1 := fun e => c (.inr e)
      have c0 : ¬ b = 0 := fun e => c (.inl e)
      by_cases c4 : b = 4
      · simp only [if_pos c4]
        exact ⟨by rw [h1], h2, t, h3⟩
      · by_cases c3 : b = 3
        · simp only [if_neg c4, if_pos c3]
          exact ⟨h1, h2, t, by rw [h3]; rfl⟩
        · simp only [if_neg c4, if_neg c3, if_neg c1, if_neg c0]
          exact ⟨h1, h2, t, h3⟩
theorem cut_more (m : List Int) : ∀ (l : List Int) (i : Int), (playS l i).2.2 = true → playS (l ++ m) i = playS l i
  | [], i, h => by simp [playS] at h
  | b :: l, i, h => by
    rw [List.cons_append]
    unfold playS at h ⊢
    by_cases c4 : b = 4
    · simp only [if_pos c4] at h ⊢
      rw [cut_more m l (i + 1) h]
    · by_cases c3 : b = 3
      · simp only [if_neg c4, if_pos c3] at h ⊢
        rw [cut_more m l (i + 1) h]
      · by_cases c1 : b = 1
        · simp only [if_neg c4, if_neg c3, if_pos c1]
        · by_cases c0 : b = 0
          · simp only [if_neg c4, if_neg c3, if_neg c1, if_pos c0]
          · simp only [if_neg c4, if_neg c3, if_neg c1, if_neg c0] at h ⊢
            exact cut_more m l (i + 1) h
end Go.Proofs.YtjgcdjfeglhalaaDoor
