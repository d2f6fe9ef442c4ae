/- A list of skips that came in, opened. -/
import Derived.Test.YtcjcgehhmjnlcaaGreatDoorGvn
set_option linter.unusedVariables false
namespace Go.Proofs.YtcjcgehhmjnlcaaGreatDoor
open Go.ChangeShapes Go.WideShapes Go.RowKit Go.Joins Go.Deep Go.Proofs.YtcjcgehhmjnlcaaGreatDoorW.PrintWords PForwardMatchesReference
section
variable {H : Type} {enc : TypeId × Value → H} {w : World} {base : Nat} {sp : Nat → Bool} {held : Bool}
set_option maxRecDepth 100000 in
theorem sks_open {A : Option Addr} {n c : Nat} {d : DataW H} {ps : List MemPlace} (h : DataW.Trod enc Tryz.prog w base sp held 71 (.slice A n c) d ps) : ∃ l : List Sk, n = l.length ∧ SkC w A l ∧ (∀ s ∈ l, s.ok) ∧ l.length ≤ c := by
  obtain ⟨fuel, hf⟩ := h
  obtain ⟨xs, ⟨A', c', he, hl, hC⟩, hg⟩ := opens_slice (E := 0) Tryz.underlying71 (by kernel_rfl) (fun m _ => opens_sk m) _ _ hf
  simp [Value.cells] at he
  obtain ⟨rfl, rfl, rfl⟩ := he
  refine ⟨xs.map toSk, by simp, skc_of_kc hC, fun s hs => ?_, by simpa using hl⟩
  obtain ⟨x, hx, rfl⟩ := List.mem_map.1 hs
  exact hg x hx
end
end Go.Proofs.YtcjcgehhmjnlcaaGreatDoor
