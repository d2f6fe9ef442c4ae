/- 'wharfref12.Same' of two chunks with the same bytes and no nodes. -/
import Derived.Test.YtcjcgehhmjnlcaaGreatDoorMc
import Derived.Test.YtcjcgehhmjnlcaaGreatDoorPForwardMatchesReferencex4
set_option linter.unusedVariables false
set_option linter.unusedSimpArgs false
namespace Go.Proofs.YtcjcgehhmjnlcaaGreatDoor
open Go.RowKit Go.Shelf Go.Proofs.YtcjcgehhmjnlcaaGreatDoor.It Go.Proofs.YtcjcgehhmjnlcaaGreatDoorW.PrintWords Go.Proofs.YtcjcgehhmjnlcaaGreatDoorW.PrintLast Go.Proofs.YtcjcgehhmjnlcaaGreatDoorW.PrintMore PForwardMatchesReference
theorem wrap_next (i : Nat) (h : i ≤ 4000000000000) : wrap64 ((i : Int) + 1) = ((i + 1 : Nat) : Int) := by unfold wrap64; omega
theorem same01_ev (l : List Int) (hl : l.length ≤ 1099511627776) : ∀ (d i : Nat), l.length - i = d → i ≤ l.length → Ev (fun k => wharfref01_Same.l0 k l l (i : Int)) true := by
  intro d
  induction d with
  | zero =>
    intro i hd hi
    refine Ev.step (f := fun _ => some true) (fun k => ?_) (Ev.now _)
    simp only [wharfref01_Same.l0]
    rw [if_neg (by omega)]
  | succ d ih =>
    intro i hd hi
    refine Ev.step (fun k => ?_) (ih (i + 1) (by omega) (by omega))
    simp only [wharfref01_Same.l0]
    have hw := wrap_next i (by omega)
    rw [if_pos (by omega), if_pos (by omega), if_pos (by omega), if_pos True.intro, hw]
theorem same01_any (A B : Option Addr) (c d : Nat) (l : List Int) (w : World) (hA : BC w A l) (hB : BC w B l) (hc : l.length ≤ c) (hd : l.length ≤ d) (hl : l.length ≤ 1099511627776) :
    Calls Tryz.prog 54 #[.slice A l.length c, .slice B l.length d] w (IsPost (.bool true) w) := by
  obtain ⟨k, hk⟩ := (same01_ev l hl l.length 0 (by omega) (by omega)).rounds
  exact (wharfref01_Same.calls k A c l B d l true w hA hc hB hd (by simpa [wharfref01_Same.f] using hk)).mono (fun e w' h => ⟨h.1, h.2.below⟩)
set_option maxHeartbeats 1000000 in
theorem same08_nil (A B : Option Addr) (c d : Nat) (w : World) : Calls Tryz.prog 55 #[.slice A 0 c, .slice B 0 d] w (IsPost (.bool true) w) := by
  go_enter Tryz.func55, Tryz.ntmps55
  go_wp2_with fail
  go_loopw [5] (fun vi W => vi = .int .i64 0 ∧ W = w) (fun vi _ => 0)
  case atStart => exact ⟨rfl, rfl⟩
  case round =>
    obtain ⟨rfl, rfl⟩ := hrel
    go_wp2_with fail
    go_ret
    exact ⟨rfl, Below.refl _ _⟩
set_option maxHeartbeats 1000000 in
theorem same12_any (t f : Int) (A B K K' : Option Addr) (c d e e' : Nat) (l : List Int) (w : World) (hA : BC w A l) (hB : BC w B l) (hc : l.length ≤ c) (hd : l.length ≤ d) (hl : l.length ≤ 1099511627776) :
    Calls Tryz.prog 24 #[ckV t f A l.length c K 0 e, ckV t f B l.length d K' 0 e'] w (IsPost (.bool true) w) := by
  have B0 : Below w.heap.size w ((w.alloc (.cells #[.int .u8 t, .int .u8 f, .slice A l.length c, .slice K 0 e] 35)).alloc (.cells #[.int .u8 t, .int .u8 f, .slice B l.length d, .slice K' 0 e'] 35)) := below_alloc (below_alloc (Below.refl _ _) _) _
  have HB0 := hid B0
  have hS := same01_any A B c d l _ (hA.below B0) (hB.below B0) hc hd hl
  have K0 := hid (blk_alloc (x := .cells #[.int .u8 t, .int .u8 f, .slice B l.length d, .slice K' 0 e'] 35) (blk_new w (.cells #[.int .u8 t, .int .u8 f, .slice A l.length c, .slice K 0 e] 35)))
  have K1 : Hid (((w.alloc (.cells #[.int .u8 t, .int .u8 f, .slice A l.length c, .slice K 0 e] 35)).alloc (.cells #[.int .u8 t, .int .u8 f, .slice B l.length d, .slice K' 0 e'] 35)).heap[w.heap.size + 1]? = some (.cells #[.int .u8 t, .int .u8 f, .slice B l.length d, .slice K' 0 e'] 35 (0, 0))) := hid (by
    have := blk_new (w.alloc (.cells #[.int .u8 t, .int .u8 f, .slice A l.length c, .slice K 0 e] 35)) (.cells #[.int .u8 t, .int .u8 f, .slice B l.length d, .slice K' 0 e'] 35)
    rwa [World.size_alloc] at this)
  clear B0 hA hB hc hd hl
  unfold ckV
  go_enter Tryz.func24, Tryz.ntmps24
  go_wp2_with fail
  refine hS.mono ?_
  rintro x w1 ⟨rfl, hb⟩
  have B1 := hid (cthen HB0.out hb)
  obtain ⟨⟨x0, x1, x2, x3⟩, -⟩ := four (blk_below K0.out hb)
  obtain ⟨⟨y0, y1, y2, y3⟩, -⟩ := four (blk_below K1.out hb)
  clear hS hb K0 K1 HB0
  go_wp2_with fail
  refine (same08_nil _ _ _ _ _).mono ?_
  rintro x w2 ⟨rfl, hb⟩
  have B2 := hid (cthen B1.out hb)
  clear hb
  go_wp2_with fail
  go_ret
  exact ⟨rfl, B2.out⟩
end Go.Proofs.YtcjcgehhmjnlcaaGreatDoor
