/- A chunk that came in, opened: its bytes and its nodes. -/
import Derived.Test.YtcjcgehhmjnlcaaGreatDoorMi
import Derived.Test.YtcjcgehhmjnlcaaGreatDoorMc
import Derived.Test.YtcjcgehhmjnlcaaGreatDoorPForwardChunksx0
set_option linter.unusedVariables false
namespace Go.Proofs.YtcjcgehhmjnlcaaGreatDoor
open Go.ChangeShapes Go.WideShapes Go.RowKit Go.Joins Go.Deep Go.Proofs.YtcjcgehhmjnlcaaGreatDoorW.PrintWords PForwardChunks
section
variable {H : Type} {enc : TypeId × Value → H} {w : World} {base : Nat} {sp : Nat → Bool} {held : Bool}
theorem opens_bytes (n : Nat) : Opens enc Tryz.prog w base sp held (Kd.slice 5 (Kd.int .u8)) (fun l => ∀ a ∈ l, (Lit.int .u8 a).wf = true) 32 n :=
  opens_slice Tryz.underlying32 (by kernel_rfl) (fun m _ => opens_int Tryz.underlying5)
set_option maxRecDepth 100000 in
theorem opens_node : ∀ (k n : Nat), n ≤ k → Opens enc Tryz.prog w base sp held k114 (fun _ => True) 114 n := by
  intro k
  induction k with
  | zero =>
    intro n hn cs x h
    obtain ⟨-, m, hm, -⟩ := one_fields Tryz.underlying114 (by kernel_rfl) (by kernel_rfl) h
    omega
  | succ k ih =>
    intro n hn cs x h
    obtain ⟨hl, m, hm, hf⟩ := one_fields Tryz.underlying114 (by kernel_rfl) (by kernel_rfl) h
    match cs, hl with
    | [v0, v1, v2], _ =>
      obtain ⟨y0, h0⟩ := hf 0 _ v0 rfl rfl
      obtain ⟨y1, h1⟩ := hf 1 _ v1 rfl rfl
      obtain ⟨y2, h2⟩ := hf 2 _ v2 rfl rfl
      obtain ⟨a, hc0, _, w0⟩ := DataW.trod_int Tryz.underlying22 h0
      obtain ⟨l1, ⟨A1, c1, e1, b1, g1⟩, -⟩ := opens_bytes _ _ _ h1
      obtain ⟨l2, ⟨A2, c2, e2, b2, g2⟩, -⟩ := opens_slice (E := 0) Tryz.underlying33 (by kernel_rfl) (fun m' hm' => ih m' (by omega)) _ _ h2
      simp at hc0 e1 e2
      subst hc0 e1 e2
      exact ⟨⟨a, l1, l2⟩, k114_mk w ⟨a, l1, l2⟩ b1 g1 b2 g2, trivial⟩
set_option maxRecDepth 100000 in
theorem ch_open {r : Reach} {b0 : Nat} {v : Value} {d : DataW H} {ps : List MemPlace} (hv : Value.okWide Tryz.prog w r b0 35 v) (h : DataW.Trod enc Tryz.prog w base sp held 35 v d ps) :
    ∃ (t f : Int) (A K : Option Addr) (c e : Nat) (D : List Int) (xs : List S114), v = ckV t f A D.length c K xs.length e ∧ (0 ≤ t ∧ t ≤ 255) ∧ (0 ≤ f ∧ f ≤ 255) ∧ BC w A D ∧ Byt D ∧ D.length ≤ c ∧ Kd.C k114 w K xs.length xs ∧ xs.length ≤ e := by
  obtain ⟨fuel, hf⟩ := h
  obtain ⟨cs, rfl, -⟩ := okWide_struct Tryz.underlying35 hv
  obtain ⟨hl, m, hm, hg⟩ := one_fields Tryz.underlying35 (by kernel_rfl) (by kernel_rfl) hf
  obtain ⟨l⟩ := cs
  match l, hl with
  | [v0, v1, v2, v3], _ =>
    obtain ⟨y0, h0⟩ := hg 0 _ v0 rfl rfl
    obtain ⟨y1, h1⟩ := hg 1 _ v1 rfl rfl
    obtain ⟨y2, h2⟩ := hg 2 _ v2 rfl rfl
    obtain ⟨y3, h3⟩ := hg 3 _ v3 rfl rfl
    obtain ⟨t, e0, _, w0⟩ := DataW.trod_int Tryz.underlying5 h0
    obtain ⟨f, e1, _, w1⟩ := DataW.trod_int Tryz.underlying5 h1
    obtain ⟨D, ⟨A, c, e2, b2, g2⟩, hB⟩ := opens_bytes _ _ _ h2
    obtain ⟨xs, ⟨K, e, e3, b3, g3⟩, -⟩ := opens_slice (E := 0) Tryz.underlying33 (by kernel_rfl) (fun m' hm' => opens_node m' m' (Nat.le_refl _)) _ _ h3
    simp at e0 e1 e2 e3
    subst e0 e1 e2 e3
    exact ⟨t, f, A, K, c, e, D, xs, rfl, bounds_u8 w0, bounds_u8 w1, g2, fun x hx => bounds_u8 (hB x hx), b2, g3, b3⟩
end
end Go.Proofs.YtcjcgehhmjnlcaaGreatDoor
