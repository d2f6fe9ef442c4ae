/- The plain law of merging: the reference implementation's list is the sorted one. -/
import Derived.Test.YtcjcgehhmjnlcaaGreatDoorMh
set_option linter.unusedVariables false
set_option linter.unusedSimpArgs false
namespace Go.Proofs.YtcjcgehhmjnlcaaGreatDoor
open Go.RowKit Go.Shelf Go.Maps Go.WideMaps Go.Proofs.YtcjcgehhmjnlcaaGreatDoor.It
/-- One skip put in its place (the flag: it is placed already). -/
def insS (s : Sk) : List Sk → Bool → List Sk
  | [], p => if p = true then [] else [s]
  | o :: r, p => (if p = false ∧ cmpS s o < 0 then [s] else []) ++ ((if cmpS s o = 0 then [] else [o]) ++ insS s r (p || decide (cmpS s o < 0)))
def mergeR (l : List Sk) : List Sk := l.foldl (fun out s => insS s out false) []
theorem cmpS_zero {a b : Sk} : cmpS a b = 0 ↔ a.st = b.st ∧ a.un = b.un := by
  unfold cmpS orI c3 ofB
  constructor
  · intro h
    cases ha : a.un <;> cases hb : b.un <;> rw [ha, hb] at h <;> simp at h ⊢ <;> (repeat' split at h) <;> omega
  · rintro ⟨h1, h2⟩
    rw [h1, h2]
    simp
theorem skLt_trans {a b c : Sk} (h : skLt a b) (k : skLt b c) : skLt a c := by unfold skLt at *; omega
theorem skLt_same {a b c : Sk} (h : cmpS a b = 0) (k : skLt b c) : skLt a c := by
  obtain ⟨h1, h2⟩ := cmpS_zero.1 h
  unfold skLt at *
  rw [h1, h2]
  exact k
theorem cmpS_pos {a b : Sk} (h1 : cmpS a b ≠ 0) (h2 : ¬ cmpS a b < 0) : skLt b a := by
  rw [← cmpS_neg]
  have : cmpS b a = - cmpS a b := by
    unfold cmpS orI c3
    repeat' split
    all_goals omega
  omega
theorem insS_true (s : Sk) : ∀ r : List Sk, insS s r true = r.filter (fun o => decide (cmpS s o ≠ 0))
  | [] => rfl
  | o :: r => by
    unfold insS
    rw [show (true || decide (cmpS s o < 0)) = true from rfl, insS_true s r]
    by_cases h : cmpS s o = 0 <;> simp [h]
theorem above_all {s : Sk} {r : List Sk} (h : ∀ x ∈ r, skLt s x) : r.filter (fun o => decide (cmpS s o ≠ 0)) = r := by
  rw [List.filter_eq_self]
  intro x hx
  have := cmpS_neg.2 (h x hx)
  simp
  omega
theorem insS_len (s : Sk) : ∀ (r : List Sk) (p : Bool), (insS s r p).length ≤ r.length + 1
  | [], p => by unfold insS; split <;> simp
  | o :: r, p => by
    unfold insS
    have h1 := insS_len s r (p || decide (cmpS s o < 0))
    have h2 := insS_true s r
    have h3 : (insS s r true).length ≤ r.length := by rw [h2]; exact List.length_filter_le _ _
    by_cases hp : p = false ∧ cmpS s o < 0
    · have hne : cmpS s o ≠ 0 := by omega
      rw [show (p || decide (cmpS s o < 0)) = true by simp [hp.2]]
      simp [hp, hne]
      omega
    · simp only [hp, if_false, List.nil_append, List.length_append, List.length_cons]
      split <;> simp <;> omega
theorem fold_len : ∀ (l out : List Sk), (l.foldl (fun out s => insS s out false) out).length ≤ out.length + l.length
  | [], out => by simp
  | s :: l, out => by
    have h1 := fold_len l (insS s out false)
    have h2 := insS_len s out false
    simp only [List.foldl_cons, List.length_cons]
    omega
theorem mergeR_len (l : List Sk) : (mergeR l).length ≤ l.length := by
  have := fold_len l []
  simpa [mergeR] using this
theorem insS_mem (s : Sk) : ∀ {out : List Sk}, out.Pairwise skLt → ∀ x, x ∈ insS s out false ↔ x = s ∨ (x ∈ out ∧ cmpS s x ≠ 0)
  | [], _, x => by simp [insS]
  | o :: r, h, x => by
    rw [List.pairwise_cons] at h
    have ih := insS_mem s h.2 x
    unfold insS
    by_cases h1 : cmpS s o < 0
    · have hall : ∀ y ∈ r, skLt s y := fun y hy => skLt_trans (cmpS_neg.1 h1) (h.1 y hy)
      have hne : cmpS s o ≠ 0 := by omega
      have hy : ∀ y ∈ r, cmpS s y ≠ 0 := fun y hy => by have := cmpS_neg.2 (hall y hy); omega
      rw [show (false || decide (cmpS s o < 0)) = true by simp [h1], insS_true, above_all hall]
      simp only [h1, hne, and_self, if_true, if_false, List.mem_append, List.mem_cons, List.not_mem_nil, or_false]
      constructor
      · rintro (rfl | rfl | hx)
        · exact .inl rfl
        · exact .inr ⟨.inl rfl, hne⟩
        · exact .inr ⟨.inr hx, hy x hx⟩
      · rintro (rfl | ⟨rfl | hx, _⟩)
        · exact .inl rfl
        · exact .inr (.inl rfl)
        · exact .inr (.inr hx)
    · rw [show (false || decide (cmpS s o < 0)) = false by simp [h1]]
      by_cases h2 : cmpS s o = 0
      · simp only [h2, Int.lt_irrefl, and_false, if_true, if_false, List.mem_append, List.mem_cons, List.not_mem_nil, or_false, false_or, ih]
        constructor
        · rintro (rfl | ⟨hx, hn⟩)
          · exact .inl rfl
          · exact .inr ⟨.inr hx, hn⟩
        · rintro (rfl | ⟨rfl | hx, hn⟩)
          · exact .inl rfl
          · exact absurd h2 hn
          · exact .inr ⟨hx, hn⟩
      · simp only [h1, h2, and_false, if_false, List.mem_append, List.mem_cons, List.not_mem_nil, or_false, false_or, ih]
        constructor
        · rintro (rfl | rfl | ⟨hx, hn⟩)
          · exact .inr ⟨.inl rfl, h2⟩
          · exact .inl rfl
          · exact .inr ⟨.inr hx, hn⟩
        · rintro (rfl | ⟨rfl | hx, hn⟩)
          · exact .inr (.inl rfl)
          · exact .inl rfl
          · exact .inr (.inr ⟨hx, hn⟩)
theorem insS_sorted (s : Sk) : ∀ {out : List Sk}, out.Pairwise skLt → (insS s out false).Pairwise skLt
  | [], _ => by simp [insS]
  | o :: r, h => by
    have h0 := h
    rw [List.pairwise_cons] at h
    have ih := insS_sorted s h.2
    unfold insS
    by_cases h1 : cmpS s o < 0
    · have hlt := cmpS_neg.1 h1
      have hall : ∀ y ∈ r, skLt s y := fun y hy => skLt_trans hlt (h.1 y hy)
      have hne : cmpS s o ≠ 0 := by omega
      rw [show (false || decide (cmpS s o < 0)) = true by simp [h1], insS_true, above_all hall]
      simp only [h1, hne, and_self, if_true, if_false, List.cons_append, List.nil_append, List.pairwise_cons]
      exact ⟨fun y hy => by
        rcases List.mem_cons.1 hy with rfl | hy
        · exact hlt
        · exact hall y hy, h⟩
    · rw [show (false || decide (cmpS s o < 0)) = false by simp [h1]]
      by_cases h2 : cmpS s o = 0
      · simpa only [h2, Int.lt_irrefl, and_false, if_true, if_false, List.nil_append] using ih
      · have hgt := cmpS_pos h2 h1
        simp only [h1, h2, and_false, if_false, List.cons_append, List.nil_append, List.pairwise_cons]
        exact ⟨fun y hy => by
          rcases (insS_mem s h.2 y).1 hy with rfl | ⟨hy, _⟩
          · exact hgt
          · exact h.1 y hy, ih⟩
theorem key_iff {a b : Sk} (ha : a.ok) (hb : b.ok) : a.key.sameKey b.key = true ↔ cmpS a b = 0 := by
  rw [cmpS_zero]
  constructor
  · intro h
    have h1 := key_of a ha
    have h2 := key_of b hb
    rw [WideAt.sameKey_eq h] at h1
    have := lawK.inj h1 h2
    simp at this
    refine ⟨this.1, ?_⟩
    have h3 := this.2
    revert h3
    unfold ofB
    cases a.un <;> cases b.un <;> simp
  · rintro ⟨h1, h2⟩
    unfold Sk.key
    rw [h1, h2]
    simp [Lit.sameKey]
theorem lastIn_snoc (l : List Sk) (s : Sk) (k : Lit) : lastIn (l ++ [s]) k = if s.key.sameKey k = true then some s else lastIn l k := by
  unfold lastIn
  rw [List.reverse_append]
  simp [List.find?_cons]
  split <;> simp_all
theorem ok_mem {l : List Sk} {k : Lit} {s : Sk} (h : lastIn l k = some s) : s ∈ l := lastIn_mem h
/-- The list so far is that of what has been put in. -/
def MInv (pre out : List Sk) : Prop := out.Pairwise skLt ∧ ∀ s, s ∈ out ↔ lastIn pre s.key = some s
theorem MInv.step {pre out : List Sk} {s : Sk} (h : MInv pre out) (hp : ∀ x ∈ pre, x.ok) (hs : s.ok) : MInv (pre ++ [s]) (insS s out false) := by
  refine ⟨insS_sorted s h.1, fun x => ?_⟩
  rw [insS_mem s h.1 x, lastIn_snoc, h.2 x]
  constructor
  · rintro (rfl | ⟨hx, hn⟩)
    · rw [if_pos ((key_iff hs hs).2 (cmpS_zero.2 ⟨rfl, rfl⟩))]
    · rw [if_neg (fun e => hn ((key_iff hs (hp x (lastIn_mem hx))).1 e))]
      exact hx
  · intro hx
    by_cases e : s.key.sameKey x.key = true
    · rw [if_pos e] at hx
      exact .inl (Option.some.inj hx).symm
    · rw [if_neg e] at hx
      exact .inr ⟨hx, fun hz => e ((key_iff hs (hp x (lastIn_mem hx))).2 hz)⟩
theorem MInv.fold : ∀ (l pre out : List Sk), MInv pre out → (∀ x ∈ pre, x.ok) → (∀ x ∈ l, x.ok) → MInv (pre ++ l) (l.foldl (fun out s => insS s out false) out)
  | [], pre, out, h, _, _ => by simpa using h
  | s :: l, pre, out, h, hp, hl => by
    have := MInv.fold l (pre ++ [s]) (insS s out false) (h.step hp (hl s (by simp))) (fun x hx => by
      rcases List.mem_append.1 hx with hx | hx
      · exact hp x hx
      · rw [List.mem_singleton.1 hx]; exact hl s (by simp)) (fun x hx => hl x (by simp [hx]))
    simpa using this
theorem merge_inv (l : List Sk) (hok : ∀ s ∈ l, s.ok) : MInv l (mergeR l) := by
  have := MInv.fold l [] [] ⟨List.Pairwise.nil, fun s => by simp [lastIn]⟩ (fun x hx => by cases hx) hok
  unfold mergeR
  simpa using this
theorem strict_nodup {d : List Sk} (h : d.Pairwise skLt) (hok : ∀ s ∈ d, s.ok) : (d.map Sk.key).Nodup := by
  rw [List.Nodup, List.pairwise_map]
  refine List.Pairwise.imp_of_mem ?_ h
  intro a b ha hb hab e
  have hz := (key_iff (hok a ha) (hok b hb)).1 (by rw [e]; simp [Lit.sameKey, Sk.key])
  have := cmpS_neg.2 hab
  omega
theorem minv_srtd {l d : List Sk} (h : MInv l d) (hok : ∀ s ∈ l, s.ok) : Srtd l d :=
  ⟨⟨strict_nodup h.1 (fun s hs => hok s (lastIn_mem ((h.2 s).1 hs))), h.2⟩, h.1.imp (fun hab => skLt_asy hab)⟩
/-- The sorted list of the program is that of the reference implementation. -/
theorem srtd_mergeR {l d : List Sk} (h : Srtd l d) (hok : ∀ s ∈ l, s.ok) : d = mergeR l := srtd_unique h (minv_srtd (merge_inv l hok) hok)
theorem mergeR_ok {l : List Sk} (hok : ∀ s ∈ l, s.ok) : ∀ s ∈ mergeR l, s.ok := fun s hs => hok s (lastIn_mem (((merge_inv l hok).2 s).1 hs))
/-- Of a strictly ascending list nothing changes. -/
theorem lastIn_self {d : List Sk} (h : (d.map Sk.key).Nodup) (s : Sk) : s ∈ d ↔ lastIn d s.key = some s := by
  constructor
  · intro hs
    cases hf : lastIn d s.key with
    | none =>
      unfold lastIn at hf
      have := List.find?_eq_none.1 hf s (by simpa using hs)
      simp [Lit.sameKey, Sk.key] at this
    | some x =>
      have hk := lastIn_key hf
      have hx := lastIn_mem hf
      have : x = s := by
        obtain ⟨i, hi, rfl⟩ := List.getElem_of_mem hx
        obtain ⟨j, hj, rfl⟩ := List.getElem_of_mem hs
        have := (List.getElem_inj (h₀ := by simpa using hi) (h₁ := by simpa using hj) h).1 (by simpa using hk)
        subst this
        rfl
      rw [this]
  · exact fun h => lastIn_mem h
theorem srtd_self {d : List Sk} (h : d.Pairwise skLt) (hok : ∀ s ∈ d, s.ok) : Srtd d d :=
  ⟨⟨strict_nodup h hok, lastIn_self (strict_nodup h hok)⟩, h.imp (fun hab => skLt_asy hab)⟩
theorem again_same {l d d' : List Sk} (h : Srtd l d) (hok : ∀ s ∈ l, s.ok) (h' : Srtd d d') : d' = d :=
  srtd_unique h' (srtd_self (srtd_strict h) (fun s hs => hok s (lastIn_mem ((h.1.2 s).1 hs))))
end Go.Proofs.YtcjcgehhmjnlcaaGreatDoor
