/- A chunk that came in, opened: its bytes and its nodes. -/
import Derived.Test.YtcjcgehhmjnlcaaGreatDoorMi
import Derived.Test.YtcjcgehhmjnlcaaGreatDoorMc
import Derived.Test.YtcjcgehhmjnlcaaGreatDoorPForwardChunksx0
import Derived.Test.YtcjcgehhmjnlcaaGreatDoorSch
import Derived.Test.YtcjcgehhmjnlcaaGreatDoorTie
import Derived.Test.YtcjcgehhmjnlcaaGreatDoorCards
import Derived.ProofKit
import Derived.OpenShut
import Derived.ShutString
import Derived.ChangeOld
import Derived.Below
import Derived.LaidMore
import Derived.Stop.Joined
import Derived.SevenTiedAt
set_option linter.unusedVariables false
namespace Go.Proofs.YtcjcgehhmjnlcaaGreatDoor
open Go.ChangeShapes Go.WideShapes Go.RowKit Go.Joins Go.Deep Go.Proofs.YtcjcgehhmjnlcaaGreatDoorW.PrintWords PForwardChunks
section
variable {H : Type} {enc : TypeId × Value → H} {w : World} {base : Nat} {sp : Nat → Bool} {held : Bool}
theorem opens_bytes (n : Nat) : Opens enc Tryz.prog w base sp held (Kd.slice 5 (Kd.int .u8)) (fun l => ∀ a ∈ l, (Lit.int .u8 a).wf = true) 32 n :=
  opens_slice Tryz.underlying32 (by kernel_rfl) (fun m _ => opens_int Tryz.underlying5)
set_option maxRecDepth 100000 in
theorem opens_node : ∀ (k n : Nat), n ≤ k → Opens enc Tryz.prog w base sp held k114 (fun _ => True) 114 n := by
  intro k
  induction k with
  | zero =>
    intro n hn cs x h
    obtain ⟨-, m, hm, -⟩ := one_fields Tryz.underlying114 (by kernel_rfl) (by kernel_rfl) h
    omega
  | succ k ih =>
    intro n hn cs x h
    obtain ⟨hl, m, hm, hf⟩ := one_fields Tryz.underlying114 (by kernel_rfl) (by kernel_rfl) h
    match cs, hl with
    | [v0, v1, v2], _ =>
      obtain ⟨y0, h0⟩ := hf 0 _ v0 rfl rfl
      obtain ⟨y1, h1⟩ := hf 1 _ v1 rfl rfl
      obtain ⟨y2, h2⟩ := hf 2 _ v2 rfl rfl
      obtain ⟨a, hc0, _, w0⟩ := DataW.trod_int Tryz.underlying22 h0
      obtain ⟨l1, ⟨A1, c1, e1, b1, g1⟩, -⟩ := opens_bytes _ _ _ h1
      obtain ⟨l2, ⟨A2, c2, e2, b2, g2⟩, -⟩ := opens_slice (E := 0) Tryz.underlying33 (by kernel_rfl) (fun m' hm' => ih m' (by omega)) _ _ h2
      simp at hc0 e1 e2
      subst hc0 e1 e2
      exact ⟨⟨a, l1, l2⟩, k114_mk w ⟨a, l1, l2⟩ b1 g1 b2 g2, trivial⟩
set_option maxRecDepth 100000 in
theorem ch_open {r : Reach} {b0 : Nat} {v : Value} {d : DataW H} {ps : List MemPlace} (hv : Value.okWide Tryz.prog w r b0 35 v) (h : DataW.Trod enc Tryz.prog w base sp held 35 v d ps) :
    ∃ (t f : Int) (A K : Option Addr) (c e : Nat) (D : List Int) (xs : List S114), v = ckV t f A D.length c K xs.length e ∧ (0 ≤ t ∧ t ≤ 255) ∧ (0 ≤ f ∧ f ≤ 255) ∧ BC w A D ∧ Byt D ∧ D.length ≤ c ∧ Kd.C k114 w K xs.length xs ∧ xs.length ≤ e := by
  obtain ⟨fuel, hf⟩ := h
  obtain ⟨cs, rfl, -⟩ := okWide_struct Tryz.underlying35 hv
  obtain ⟨hl, m, hm, hg⟩ := one_fields Tryz.underlying35 (by kernel_rfl) (by kernel_rfl) hf
  obtain ⟨l⟩ := cs
  match l, hl with
  | [v0, v1, v2, v3], _ =>
    obtain ⟨y0, h0⟩ := hg 0 _ v0 rfl rfl
    obtain ⟨y1, h1⟩ := hg 1 _ v1 rfl rfl
    obtain ⟨y2, h2⟩ := hg 2 _ v2 rfl rfl
    obtain ⟨y3, h3⟩ := hg 3 _ v3 rfl rfl
    obtain ⟨t, e0, _, w0⟩ := DataW.trod_int Tryz.underlying5 h0
    obtain ⟨f, e1, _, w1⟩ := DataW.trod_int Tryz.underlying5 h1
    obtain ⟨D, ⟨A, c, e2, b2, g2⟩, hB⟩ := opens_bytes _ _ _ h2
    obtain ⟨xs, ⟨K, e, e3, b3, g3⟩, -⟩ := opens_slice (E := 0) Tryz.underlying33 (by kernel_rfl) (fun m' hm' => opens_node m' m' (Nat.le_refl _)) _ _ h3
    simp at e0 e1 e2 e3
    subst e0 e1 e2 e3
    exact ⟨t, f, A, K, c, e, D, xs, rfl, bounds_u8 w0, bounds_u8 w1, g2, fun x hx => bounds_u8 (hB x hx), b2, g3, b3⟩
end
end Go.Proofs.YtcjcgehhmjnlcaaGreatDoor
/- 'wharf/wharflaw14.SackChunks' returns true for every input: any chunk has the description of the reference implementation, exactly if it is a right sack, whose chunk it is; its row, and the tied card. Conditions: the three listed package-level variables read as the program's text lays them. -/
namespace Go.Proofs.YtcjcgehhmjnlcaaGreatDoor.Law6
open Go.ChangeShapes Go.WideShapes Go.ChangeAt Go.WideMaps Go.WideElems Go.RowKit
open Go.ChangeMaps (open_string shut_string)
set_option linter.unusedVariables false
theorem own : ownKnob Tryz.prog.godebug = none := by kernel_rfl
theorem laidOut : laidOutB Tryz.prog = true := by kernel_rfl
theorem door_met (os : Os) (args : Array Value) : laidMetH Tryz.prog laidRow ((World.doorLaid Tryz.prog 55 os).forCall (fun _ _ => 0) ⟨#[], args, []⟩).memory :=
  laidMetH_of_parts3 (fuel := 8) (laidMet_of_run' 8 (by kernel_rfl) (by kernel_rfl)) (by kernel_rfl) (by kernel_rfl)

set_option maxRecDepth 100000 in
theorem lifted (os : Os) (started : os.Started) (H : Type) (enc : TypeId × Value → H) :
    ReturnsInHanded {} Tryz.checked os 6 .any (fun w args => (Rows.sackChunksSpec.pre enc Tryz.prog Tryz.f6 [] false w args ∧ laidMetH Tryz.prog laidRow w) ∧ sizedMet enc Tryz.prog Tryz.f6 (OpenSpec.ofChange Rows.sackChunksSpec) false w args)
      (Rows.sackChunksSpec.post enc Tryz.prog Tryz.f6 false true false false) := by
  refine returnsInHanded_of_change_and (C := Tryz.checked) (X := fun w _ => laidMetH Tryz.prog laidRow w) (fun _ _ _ hh h => h.of_heap hh) own started (by kernel_rfl) Tryz.func6
    (ChangeSpec.witness_shaped (enc := enc) (C := Tryz.checked) (os := os) (X := fun w _ => laidMetH Tryz.prog laidRow w) false (World.doorLaid Tryz.prog 55 os) #[.agg #[.int .u8 0, .int .u8 0, .slice none 0 0, .slice none 0 0]] 8 rfl (World.shaped_of_RefB (by kernel_rfl) (by kernel_rfl)) (by kernel_rfl) (by kernel_rfl) (by kernel_rfl) (door_met os _)) ?_
  intro W base args ds gs before hval0 hW _ _ hL _
  have hval : ∀ (j : Nat) t v, Tryz.f6.params[j]? = some t → args[j]? = some v → Value.okWide Tryz.prog W .any base t v := hval0
  have hW' := hW
  obtain ⟨p, q, hA0, hV, rfl, hfz, hnd⟩ := hW
  have hA : DataW.TrodAll enc Tryz.prog W 0 (fun _ => true) true Tryz.f6.params.toList args.toList ds p := hA0
  rw [Tryz.params6] at hA hval
  obtain ⟨v0, vs0, d0, ds0, p0, q0, hargs, rfl, rfl, h0, r0⟩ := trodAll_cons hA
  obtain ⟨rfl, rfl, rfl⟩ := trodAll_nil r0
  obtain rfl : args = #[v0] := by cases args; simp_all
  obtain ⟨rfl, rfl⟩ := trodVars_none hV
  have k0 := h0
  have lt0 : ∀ x ∈ p0, x.block < W.heap.size := by obtain ⟨m, hm⟩ := k0; exact DataW.trod_lt m _ _ _ hm
  obtain ⟨t0, f0, A0, K0, c0, e0, D0, xs0, rfl, ht0, hf0, hC0, hB0, hc0, hK0, he0⟩ := ch_open (hval 0 35 v0 rfl rfl) h0
  clear hA0 hval0
  have hG := of_laid hL
  refine (Sk14.law6_any t0 f0 A0 K0 c0 e0 D0 xs0 W hf0.1 hf0.2 hC0 hB0 hc0 hK0 he0 hG).mono fun e W' ⟨he, bel⟩ => ?_
  subst he
  exact ⟨_, rfl, _, _, _, [], _, [], hW', trodAll_mk1 (shut_bool Tryz.underlying4 _), (trodAll_cons_mk (Below.trod laidOut (by kernel_rfl) (of_decide_eq_true (by kernel_rfl)) k0 bel lt0) trodAll_mk0), rfl, bel.frame _, fun h => by cases h⟩
theorem row_holds : Rows.SackChunksSaid :=
  OpenClaim.holds_of_wide 6 Tryz.f6 rfl rfl rfl rfl rfl rfl rfl ⟨rfl, rfl, rfl, rfl, rfl⟩ rfl rfl rfl rfl rfl (by kernel_rfl) Tryz.func6 (by kernel_rfl)
    (of_decide_eq_true (by kernel_rfl)) (by unfold Func.isWrapper; first | (rw [if_pos (by decide +kernel)]; kernel_rfl) | (rw [if_neg (by decide +kernel)]; exact ⟨rfl, rfl⟩))
    (fun os started H enc _ => lifted os started H enc)
theorem card_holds : Rows.SackChunksCardSaid :=
  Claim7.holds_tied_plain_at .later [] [.handle, .widerDeep, .data] true (true, "1beeadd4e3437c391bb6bde177c196d6af0ac440a4e5abb6191358b7d65eb30f") true
    row_holds (fun _ h => by cases h) (by kernel_rfl) (fun _ h => by cases h) sackChunks_row_tie rfl ⟨rfl, rfl⟩ (by kernel_rfl) rfl
    (fun f fn hf hfn => by
      obtain rfl : f = 6 := Option.some.inj ((show Tryz.prog.funcNamed "wharf/wharflaw14.SackChunks" = some 6 by kernel_rfl).symm.trans hf) |>.symm
      obtain rfl : fn = Tryz.f6 := (Option.some.inj (Tryz.func6.symm.trans hfn)).symm
      exact ⟨by kernel_rfl, fun j t ht => by
        rw [Tryz.params6] at ht
        have hm : t ∈ [35] := by simpa using Array.mem_of_getElem? ht
        have hall : ([35].all fun u => !Tryz.prog.wantsStandIn u) = true := by kernel_rfl
        exact (show Tryz.prog.wantsStandIn t = false by simpa using List.all_eq_true.1 hall t hm)⟩)
    (by kernel_rfl)
#print axioms card_holds
end Go.Proofs.YtcjcgehhmjnlcaaGreatDoor.Law6
