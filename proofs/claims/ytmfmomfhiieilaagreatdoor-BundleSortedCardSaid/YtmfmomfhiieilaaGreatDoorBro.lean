/- 'wharfref11.Of' and 'wharfref07.Of' as functions, out of their contracts: what the printed parts call. -/
import Derived.Test.YtmfmomfhiieilaaGreatDoorPBundleSortedx0
import Derived.Test.YtmfmomfhiieilaaGreatDoorRtb
import Derived.Test.YtmfmomfhiieilaaGreatDoorBrs
set_option linter.unusedVariables false
namespace Go.Proofs.YtmfmomfhiieilaaGreatDoor.PBundleSorted
open Go.RowKit Go.Proofs.YtmfmomfhiieilaaGreatDoorW.PrintWords Go.Proofs.YtmfmomfhiieilaaGreatDoorW.PrintLast Go.Proofs.YtmfmomfhiieilaaGreatDoorW.PrintMore
/-- The form of a chunk with a type, of the reference implementation. -/
def kOf (t : Int) : KR := (kRows.find? (kIs t)).getD kZ
def kHas (t : Int) : Bool := (kRows.find? (kIs t)).isSome
def wharfref11_Of.f (k : Nat) (a0 : Int) : Option (Int × ByteArray × Int × Int × Int × Int × Int × Bool) := some ((kOf a0).ty, (kOf a0).nm, (kOf a0).mask, (kOf a0).least, (kOf a0).most, (kOf a0).unit, (kOf a0).kids, kHas a0)
theorem wharfref11_Of.calls (k : Nat) (a0 : Int) (r1 : Int) (r2 : ByteArray) (r3 : Int) (r4 : Int) (r5 : Int) (r6 : Int) (r7 : Int) (r8 : Bool) (w : World) (h : wharfref11_Of.f k a0 = some (r1, r2, r3, r4, r5, r6, r7, r8)) :
    Calls Tryz.prog 57 #[.int .u8 a0] w fun e w' => e = .returned (.tuple #[.agg #[.int .u8 r1, .string r2, .int .u8 r3, .int .i64 r4, .int .i64 r5, .int .i64 r6, .int .i64 r7], .bool r8]) ∧ Below w.heap.size w w' := by
  refine (rof_any a0 w).mono ?_
  rintro e w' ⟨r, b, rfl, rfl, rfl, hb⟩
  unfold wharfref11_Of.f kOf kHas at h
  simp only [Option.some.injEq, Prod.mk.injEq] at h
  obtain ⟨h1, h2, h3, h4, h5, h6, h7, h8⟩ := h
  rw [← h1, ← h2, ← h3, ← h4, ← h5, ← h6, ← h7, ← h8]
  exact ⟨rfl, hb⟩
end Go.Proofs.YtmfmomfhiieilaaGreatDoor.PBundleSorted
