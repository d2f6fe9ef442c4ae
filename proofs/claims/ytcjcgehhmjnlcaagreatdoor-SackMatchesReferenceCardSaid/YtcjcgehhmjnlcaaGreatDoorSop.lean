/- What came in to the statements of layer 14, opened: a description of the reference, and lists of numbers. -/
import Derived.Test.YtcjcgehhmjnlcaaGreatDoorMi
import Derived.Test.YtcjcgehhmjnlcaaGreatDoorSga
set_option linter.unusedVariables false
namespace Go.Proofs.YtcjcgehhmjnlcaaGreatDoor
open Go.ChangeShapes Go.WideShapes Go.RowKit Go.Joins Go.Deep Go.Proofs.YtcjcgehhmjnlcaaGreatDoorW.PrintWords PSackMatchesReference
namespace Sk14
section
variable {H : Type} {enc : TypeId × Value → H} {w : World} {base : Nat} {sp : Nat → Bool} {held : Bool}
theorem opens_gr (n : Nat) : Opens enc Tryz.prog w base sp held k94 (fun s => (toG s).ok) 94 n := by
  intro cs x h
  obtain ⟨hl, m, hm, hf⟩ := one_fields Tryz.underlying94 (by kernel_rfl) (by kernel_rfl) h
  match cs, hl with
  | [v0, v1], _ =>
    obtain ⟨y0, h0⟩ := hf 0 _ v0 rfl rfl
    obtain ⟨y1, h1⟩ := hf 1 _ v1 rfl rfl
    obtain ⟨a, hc0, _, w0⟩ := DataW.trod_int Tryz.underlying22 h0
    obtain ⟨b, hc1, _, w1⟩ := DataW.trod_int Tryz.underlying22 h1
    simp at hc0 hc1
    subst hc0 hc1
    have B0 := bounds_u16 w0
    have B1 := bounds_u16 w1
    exact ⟨⟨a, b⟩, k94_mk w ⟨a, b⟩, B0.1, B0.2, B1.1, B1.2⟩
theorem opens_us (n : Nat) : Opens enc Tryz.prog w base sp held (Kd.slice 5 (Kd.int .u32)) (fun l => ∀ a ∈ l, (Lit.int .u32 a).wf = true) 42 n :=
  opens_slice Tryz.underlying42 (by kernel_rfl) (fun m _ => opens_int Tryz.underlying23)
theorem opens_hs (n : Nat) : Opens enc Tryz.prog w base sp held (Kd.slice 5 (Kd.int .u16)) (fun l => ∀ a ∈ l, (Lit.int .u16 a).wf = true) 69 n :=
  opens_slice Tryz.underlying69 (by kernel_rfl) (fun m _ => opens_int Tryz.underlying22)
theorem u32_lt {a : Int} (h : (Lit.int .u32 a).wf = true) : 0 ≤ a ∧ a < 4294967296 := by have := bounds_u32 h; omega
set_option maxRecDepth 100000 in
theorem us_open {A : Option Addr} {n c : Nat} {d : DataW H} {ps : List MemPlace} (h : DataW.Trod enc Tryz.prog w base sp held 42 (.slice A n c) d ps) : ∃ l : List Int, n = l.length ∧ UC w A l ∧ (∀ x ∈ l, 0 ≤ x ∧ x < 4294967296) ∧ l.length ≤ c ∧ (l.length : Int) ≤ 9223372036854775807 := by
  obtain ⟨fuel, hf⟩ := h
  obtain ⟨xs, ⟨A', c', he, hl, hC⟩, hg⟩ := opens_us _ _ _ hf
  simp [Value.cells] at he
  obtain ⟨rfl, rfl, rfl⟩ := he
  exact ⟨xs, rfl, hC, fun x hx => u32_lt (hg x hx), hl, by have := hC.2.1; omega⟩
set_option maxRecDepth 100000 in
theorem hs_open {A : Option Addr} {n c : Nat} {d : DataW H} {ps : List MemPlace} (h : DataW.Trod enc Tryz.prog w base sp held 69 (.slice A n c) d ps) : ∃ l : List Int, n = l.length ∧ Kd.C (Kd.int .u16) w A l.length l ∧ (∀ x ∈ l, 0 ≤ x ∧ x ≤ 65535) ∧ l.length ≤ c ∧ (l.length : Int) ≤ 9223372036854775807 := by
  obtain ⟨fuel, hf⟩ := h
  obtain ⟨xs, ⟨A', c', he, hl, hC⟩, hg⟩ := opens_hs _ _ _ hf
  simp [Value.cells] at he
  obtain ⟨rfl, rfl, rfl⟩ := he
  exact ⟨xs, rfl, hC, fun x hx => bounds_u16 (hg x hx), hl, by have := hC.2.1; omega⟩
set_option maxRecDepth 100000 in
theorem sack_open {r : Reach} {b0 : Nat} {v : Value} {d : DataW H} {ps : List MemPlace} (hv : Value.okWide Tryz.prog w r b0 44 v) (h : DataW.Trod enc Tryz.prog w base sp held 44 v d ps) :
    ∃ (cu wi : Int) (A B : Option Addr) (c e : Nat) (l : List Gr) (D : List Int), v = .agg #[.int .u32 cu, .int .u32 wi, .slice A l.length c, .slice B D.length e] ∧ (0 ≤ cu ∧ cu < 4294967296) ∧ (0 ≤ wi ∧ wi < 4294967296) ∧ Kd.C k94 w A l.length l ∧ l.length ≤ c ∧ UC w B D ∧ D.length ≤ e ∧ (∀ x ∈ D, 0 ≤ x ∧ x < 4294967296) ∧ ∀ g ∈ l.map toG, g.ok := by
  obtain ⟨fuel, hf⟩ := h
  obtain ⟨cs, rfl, -⟩ := okWide_struct Tryz.underlying44 hv
  obtain ⟨hl, m, hm, hg⟩ := one_fields Tryz.underlying44 (by kernel_rfl) (by kernel_rfl) hf
  obtain ⟨l⟩ := cs
  match l, hl with
  | [v0, v1, v2, v3], _ =>
    obtain ⟨y0, h0⟩ := hg 0 _ v0 rfl rfl
    obtain ⟨y1, h1⟩ := hg 1 _ v1 rfl rfl
    obtain ⟨y2, h2⟩ := hg 2 _ v2 rfl rfl
    obtain ⟨y3, h3⟩ := hg 3 _ v3 rfl rfl
    obtain ⟨cu, e0, _, w0⟩ := DataW.trod_int Tryz.underlying23 h0
    obtain ⟨wi, e1, _, w1⟩ := DataW.trod_int Tryz.underlying23 h1
    obtain ⟨xs, ⟨A, c, e2, b2, g2⟩, hok⟩ := opens_slice (E := 0) Tryz.underlying41 (by kernel_rfl) (fun m _ => opens_gr m) _ _ h2
    obtain ⟨D, ⟨B, e, e3, b3, g3⟩, hD⟩ := opens_us _ _ _ h3
    simp at e0 e1 e2 e3
    subst e0 e1 e2 e3
    exact ⟨cu, wi, A, B, c, e, xs, D, rfl, u32_lt w0, u32_lt w1, g2, b2, g3, b3, fun x hx => u32_lt (hD x hx), fun g hg => by
      obtain ⟨s, hs, rfl⟩ := List.mem_map.1 hg
      exact hok s hs⟩
end
end Sk14
end Go.Proofs.YtcjcgehhmjnlcaaGreatDoor
