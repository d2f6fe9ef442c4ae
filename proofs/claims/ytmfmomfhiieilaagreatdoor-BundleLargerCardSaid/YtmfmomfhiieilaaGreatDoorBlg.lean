/- The walk of the law 'BundleGreedy'. -/
import Derived.Test.YtmfmomfhiieilaaGreatDoorBaw
import Derived.Test.YtmfmomfhiieilaaGreatDoorBfw
set_option linter.unusedVariables false
set_option linter.unusedSimpArgs false
namespace Go.Proofs.YtmfmomfhiieilaaGreatDoor
open Go.RowKit Go.Shelf Go.Proofs.YtmfmomfhiieilaaGreatDoor.It Go.Proofs.YtmfmomfhiieilaaGreatDoorW.PrintWords Go.Proofs.YtmfmomfhiieilaaGreatDoorW.PrintLast Go.Proofs.YtmfmomfhiieilaaGreatDoorW.PrintMore
namespace Bn
open PBundleSorted
/-- The numbers of a chunk are those of their types. -/
structure CkR (x : Ck) : Prop where
  t0 : 0 ≤ x.f0
  t1 : x.f0 ≤ 255
  g0 : 0 ≤ x.f1
  g1 : x.f1 ≤ 255
  byt : Byt x.f2
  nds : okL x.f3
theorem ckOk_of {x : Ck} (h : CkR x) (hf : fewC x) : CkOk x := ⟨h.t0, h.t1, h.g0, h.g1, h.byt, h.nds, by have := hf.1; omega, by have := hf.2; omega⟩
theorem fstBad_ne : ∀ (l : List Ck) (i : Nat) (er : Int × Option Int), fstBad i l = some er → er.1 ≠ 0
  | [], i, er, h => by rw [fstBad] at h; cases h
  | x :: l, i, er, h => by
    rw [fstBad] at h
    split at h
    · exact fstBad_ne l (i + 1) er h
    · next h0 => injection h with h; subst h; exact h0
theorem ofErr_ne {M : Int} {l : List Ck} {er : Int × Option Int} (h : ofErr M l = some er) : er.1 ≠ 0 := by
  unfold ofErr at h
  split at h
  · injection h with h; subst h; decide
  · split at h
    · injection h with h; subst h; decide
    · exact fstBad_ne _ _ _ h
theorem field_code (v1 v2 : Option Addr) (a b c d : Nat) (x y : Int) (w : World) : (Instr.field 35 (.agg #[.slice v1 a b, .slice v2 c d, .int .i64 x, .int .i64 y]) 2).run Tryz.prog w = .ok (.int .i64 x) w := by kernel_rfl
end Bn
end Go.Proofs.YtmfmomfhiieilaaGreatDoor
