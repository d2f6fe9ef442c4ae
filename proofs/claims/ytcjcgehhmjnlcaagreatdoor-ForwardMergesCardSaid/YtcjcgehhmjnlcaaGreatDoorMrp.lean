/- The printed merging of the reference implementation is the plain one. -/
import Derived.Test.YtcjcgehhmjnlcaaGreatDoorMrl
import Derived.Test.YtcjcgehhmjnlcaaGreatDoorQmg
set_option linter.unusedVariables false
set_option linter.unusedSimpArgs false
namespace Go.Proofs.YtcjcgehhmjnlcaaGreatDoor.PForwardMerges
open Go.RowKit Go.Proofs.YtcjcgehhmjnlcaaGreatDoorW.PrintWords Go.Proofs.YtcjcgehhmjnlcaaGreatDoorW.PrintLast Go.Proofs.YtcjcgehhmjnlcaaGreatDoorW.PrintMore
abbrev toR (s : Sk) : S25 := ⟨s.st, s.un, s.sq⟩
theorem rd_map (l : List Sk) (i : Nat) (h : i < l.length) : rd_T25 (l.map toR) (i : Int) = toR (l.getD i skZ) := by
  unfold rd_T25
  simp [List.getD_eq_getElem?_getD, List.getElem?_eq_getElem h]
theorem cmp_f (a b : Sk) : wharfref16_Compare.f a.st a.un a.sq b.st b.un b.sq = some (cmpS a b) := by
  unfold wharfref16_Compare.f cmpS orI c3 ofB
  cases a.un <;> cases b.un <;> simp <;> (repeat' split) <;> first | rfl | omega
theorem wrap_step (i : Nat) (h : i ≤ 1000000) : wrap64 ((i : Int) + 1) = ((i + 1 : Nat) : Int) := by unfold wrap64; omega
/-- The inner loop from place j on. -/
theorem l1_ev (l out nx : List Sk) (i : Nat) (r : List S25) (hi : i < l.length) (hl : l.length ≤ 1000000) (ho : out.length ≤ 1000000) : ∀ (d j : Nat) (nx : List Sk) (p : Bool), out.length - j = d → j ≤ out.length → nx.length ≤ 2 * j →
    Ev (fun k => wharfref16_Merge.l0 k (l.map toR) ((nx ++ insS (l.getD i skZ) (out.drop j) p).map toR) ((i + 1 : Nat) : Int)) r →
    Ev (fun k => wharfref16_Merge.l1 k (l.map toR) (out.map toR) (i : Int) (nx.map toR) p (j : Int)) r := by
  intro d
  induction d with
  | zero =>
    intro j nx p hd hj hn h
    have hj' : j = out.length := by omega
    have hdr : out.drop j = [] := by rw [hj']; simp
    rw [hdr] at h
    refine Ev.step (fun k => ?_) h
    simp only [wharfref16_Merge.l1]
    rw [if_neg (by simp; omega)]
    have hw := wrap_step i (by omega)
    cases p
    · rw [if_neg (by simp), if_pos (by omega), if_pos (by simp; omega), if_pos (by simp; omega), rd_map l i hi, hw]
      simp [insS, toR]
    · rw [if_pos rfl, hw]
      simp [insS]
  | succ d ih =>
    intro j nx p hd hj hn h
    have hjl : j < out.length := by omega
    have hdr : out.drop j = out.getD j skZ :: out.drop (j + 1) := by
      rw [List.drop_eq_getElem_cons hjl]
      simp [List.getD_eq_getElem?_getD, List.getElem?_eq_getElem hjl]
    obtain ⟨s, hs⟩ : ∃ s, s = l.getD i skZ := ⟨_, rfl⟩
    obtain ⟨o, ho'⟩ : ∃ o, o = out.getD j skZ := ⟨_, rfl⟩
    rw [hdr, ← hs, ← ho'] at h
    have hw := wrap_step j (by omega)
    have hc0 : (0 : Int) ≤ (i : Int) := by omega
    have hc1 : (i : Int) < ((l.map toR).length : Int) := by simp; omega
    have hc2 : (0 : Int) ≤ (j : Int) := by omega
    have hc3 : (j : Int) < ((out.map toR).length : Int) := by simp; omega
    have hri := rd_map l i hi
    have hrj := rd_map out j hjl
    rw [← hs] at hri ih
    rw [← ho'] at hrj
    -- the second part of a round: the element itself
    have tail : ∀ (nx' : List Sk) (p' : Bool), nx'.length ≤ 2 * j + 1 → (p' = true ∨ ¬ cmpS s o < 0) →
        Ev (fun k => wharfref16_Merge.l0 k (l.map toR) ((nx' ++ ((if cmpS s o = 0 then [] else [o]) ++ insS s (out.drop (j + 1)) p')).map toR) ((i + 1 : Nat) : Int)) r →
        Ev (fun k => (if cmpS s o = 0 then (wharfref16_Merge.l1 k (l.map toR) (out.map toR) (i : Int) (nx'.map toR) p' ((j + 1 : Nat) : Int)) else (if (nx'.map toR).length < 17592186044416 then (wharfref16_Merge.l1 k (l.map toR) (out.map toR) (i : Int) (nx'.map toR ++ [toR o]) p' ((j + 1 : Nat) : Int)) else none))) r := by
      intro nx' p' hn' _ h'
      by_cases hz : cmpS s o = 0
      · simp only [hz, if_true, List.nil_append] at h' ⊢
        exact ih (j + 1) nx' p' (by omega) (by omega) (by omega) h'
      · simp only [hz, if_false] at h' ⊢
        have hlt : (nx'.map toR).length < 17592186044416 := by simp; omega
        simp only [hlt, if_true]
        have := ih (j + 1) (nx' ++ [o]) p' (by omega) (by omega) (by simp; omega) (by simpa using h')
        simpa using this
    have j2 : ∀ (b : Bool), (b = true ↔ (p = false ∧ cmpS s o < 0)) → Ev (fun k => wharfref16_Merge.j2 k (l.map toR) (out.map toR) (i : Int) (nx.map toR) p (j : Int) b) r := by
      intro b hb
      by_cases hbt : b = true
      · subst hbt
        obtain ⟨hp, hlt⟩ := hb.1 rfl
        subst hp
        have h2 := tail (nx ++ [s]) true (by simp; omega) (.inl rfl) (by simpa [insS, hlt] using h)
        refine Ev.step (fun k => ?_) h2
        simp only [wharfref16_Merge.j2]
        have hln : (nx.map toR).length < 17592186044416 := by simp; omega
        rw [if_pos True.intro, if_pos hc0, if_pos hc1, if_pos hln, hri]
        simp only [Option.bind_some]
        rw [if_pos hc2, if_pos hc3, hrj, hw]
        simp only [toR]
        rw [cmp_f s o]
        simp [toR]
      · have hbf : b = false := by simpa using hbt
        subst hbf
        have hnn : ¬ (p = false ∧ cmpS s o < 0) := fun e => by have := hb.2 e; simp at this
        have hp' : (p || decide (cmpS s o < 0)) = p := by
          cases p
          · have : ¬ cmpS s o < 0 := fun e => hnn ⟨rfl, e⟩
            simp [this]
          · rfl
        have h2 := tail nx p (by omega) (by
          cases p
          · exact .inr fun e => hnn ⟨rfl, e⟩
          · exact .inl rfl) (by
          unfold insS at h
          rw [if_neg hnn, hp', List.nil_append] at h
          exact h)
        refine Ev.step (fun k => ?_) h2
        simp only [wharfref16_Merge.j2]
        rw [if_neg (by simp), if_pos hc0, if_pos hc1, if_pos hc2, if_pos hc3, hri, hrj, hw]
        simp only [toR]
        rw [cmp_f s o]
        simp [toR]
    cases p
    · have h2 := j2 (decide (cmpS s o < 0)) (by simp)
      refine Ev.step (fun k => ?_) h2
      simp only [wharfref16_Merge.l1]
      rw [if_pos hc3, if_neg (by simp), if_pos hc0, if_pos hc1, if_pos hc2, hri, hrj]
      simp only [toR]
      rw [cmp_f s o]
      simp
    · have h2 := j2 false (by simp)
      refine Ev.step (fun k => ?_) h2
      simp only [wharfref16_Merge.l1]
      rw [if_pos hc3, if_pos True.intro]
theorem l0_ev (l : List Sk) (hl : l.length ≤ 1000000) : ∀ (d i : Nat) (out : List Sk), l.length - i = d → i ≤ l.length → out.length ≤ i →
    Ev (fun k => wharfref16_Merge.l0 k (l.map toR) (out.map toR) (i : Int)) (((l.drop i).foldl (fun out s => insS s out false) out).map toR) := by
  intro d
  induction d with
  | zero =>
    intro i out hd hi ho
    have : l.drop i = [] := by rw [show i = l.length by omega]; simp
    rw [this]
    refine Ev.step (f := fun _ => some (out.map toR)) (fun k => ?_) (Ev.now _)
    simp only [wharfref16_Merge.l0]
    rw [if_neg (by simp; omega)]
  | succ d ih =>
    intro i out hd hi ho
    have hil : i < l.length := by omega
    have hdr : l.drop i = l.getD i skZ :: l.drop (i + 1) := by
      rw [List.drop_eq_getElem_cons hil]
      simp [List.getD_eq_getElem?_getD, List.getElem?_eq_getElem hil]
    rw [hdr, List.foldl_cons]
    have hln := insS_len (l.getD i skZ) out false
    have h1 := ih (i + 1) (insS (l.getD i skZ) out false) (by omega) (by omega) (by omega)
    have h2 := l1_ev l out [] i _ hil hl (by omega) out.length 0 [] false (by omega) (by omega) (by simp) (by simpa using h1)
    refine Ev.step (fun k => ?_) h2
    simp only [wharfref16_Merge.l0]
    rw [if_pos (by simp; omega)]
    rfl
theorem merge_f (l : List Sk) (hl : l.length ≤ 1000000) : ∃ k, wharfref16_Merge.f k (l.map toR) = some ((mergeR l).map toR) := by
  have := l0_ev l hl l.length 0 [] (by omega) (by omega) (by simp)
  simpa [wharfref16_Merge.f, mergeR] using this.rounds
theorem same_ev (l : List Sk) (hl : l.length ≤ 1000000) : ∀ (d i : Nat), l.length - i = d → i ≤ l.length → Ev (fun k => wharfref16_Same.l0 k (l.map toR) (l.map toR) (i : Int)) true := by
  intro d
  induction d with
  | zero =>
    intro i hd hi
    refine Ev.step (f := fun _ => some true) (fun k => ?_) (Ev.now _)
    simp only [wharfref16_Same.l0]
    rw [if_neg (by simp; omega)]
  | succ d ih =>
    intro i hd hi
    refine Ev.step (fun k => ?_) (ih (i + 1) (by omega) (by omega))
    simp only [wharfref16_Same.l0]
    have hw := wrap_step i (by omega)
    rw [if_pos (by simp; omega), if_pos (by omega), if_pos (by simp; omega), if_neg (by simp), hw]
theorem same_f (l : List Sk) (hl : l.length ≤ 1000000) : ∃ k, wharfref16_Same.f k (l.map toR) (l.map toR) = some true := by
  have := (same_ev l hl l.length 0 (by omega) (by omega)).rounds
  simpa [wharfref16_Same.f] using this
end Go.Proofs.YtcjcgehhmjnlcaaGreatDoor.PForwardMerges
