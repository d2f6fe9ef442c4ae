/- 'wharfref16.Same' of the same skips. -/
import Derived.Test.YtcjcgehhmjnlcaaGreatDoorGvn
import Derived.Test.YtcjcgehhmjnlcaaGreatDoorQfm
import Derived.Test.YtcjcgehhmjnlcaaGreatDoorSam
set_option linter.unusedVariables false
set_option linter.unusedSimpArgs false
namespace Go.Proofs.YtcjcgehhmjnlcaaGreatDoor
open Go.RowKit Go.Shelf Go.Proofs.YtcjcgehhmjnlcaaGreatDoor.It Go.Proofs.YtcjcgehhmjnlcaaGreatDoorW.PrintWords Go.Proofs.YtcjcgehhmjnlcaaGreatDoorW.PrintLast Go.Proofs.YtcjcgehhmjnlcaaGreatDoorW.PrintMore PForwardMatchesReference
theorem rd_skf (l : List Sk) (i : Nat) (h : i < l.length) : rd_T25 (l.map ofSk') (i : Int) = ofSk' (l.getD i skZ) := by
  unfold rd_T25
  simp [List.getD_eq_getElem?_getD, List.getElem?_eq_getElem h]
theorem fsame_ev (l : List Sk) (hl : l.length ≤ 1000000) : ∀ (d i : Nat), l.length - i = d → i ≤ l.length → Ev (fun k => wharfref16_Same.l0 k (l.map ofSk') (l.map ofSk') (i : Int)) true := by
  intro d
  induction d with
  | zero =>
    intro i hd hi
    refine Ev.step (f := fun _ => some true) (fun k => ?_) (Ev.now _)
    simp only [wharfref16_Same.l0]
    rw [if_neg (by simp; omega)]
  | succ d ih =>
    intro i hd hi
    refine Ev.step (fun k => ?_) (ih (i + 1) (by omega) (by omega))
    simp only [wharfref16_Same.l0]
    have hw := wrap_next i (by omega)
    rw [if_pos (by simp; omega), if_pos (by omega), if_pos (by simp; omega), if_neg (by simp), hw]
theorem fsame_any (A B : Option Addr) (c d : Nat) (l : List Sk) (w : World) (hA : SkC w A l) (hB : SkC w B l) (hc : l.length ≤ c) (hd : l.length ≤ d) (hl : l.length ≤ 1000000) :
    Calls Tryz.prog 41 #[.slice A l.length c, .slice B l.length d] w (IsPost (.bool true) w) := by
  obtain ⟨k, hk⟩ := (fsame_ev l hl l.length 0 (by omega) (by omega)).rounds
  have hC := kc_of_skc hA (by omega)
  have hD := kc_of_skc hB (by omega)
  have h := wharfref16_Same.calls k A c (l.map ofSk') B d (l.map ofSk') true w (by simpa using hC) (by simpa using hc) (by simpa using hD) (by simpa using hd) (by simpa [wharfref16_Same.f] using hk)
  simp only [List.length_map] at h
  exact h.mono (fun e w' h => ⟨h.1, h.2.below⟩)
end Go.Proofs.YtcjcgehhmjnlcaaGreatDoor
