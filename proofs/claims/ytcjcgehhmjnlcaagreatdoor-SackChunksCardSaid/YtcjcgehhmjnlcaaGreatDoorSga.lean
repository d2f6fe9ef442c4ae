/- Joined: Ofa, Ofb, Ofc. -/
import Derived.Test.YtcjcgehhmjnlcaaGreatDoorMe
import Derived.Test.YtcjcgehhmjnlcaaGreatDoorMi
import Derived.Test.YtcjcgehhmjnlcaaGreatDoorPSackMatchesReferencex2
/- 'forward.Of': what its rounds keep. -/
set_option linter.unusedVariables false
set_option linter.unusedSimpArgs false
namespace Go.Proofs.YtcjcgehhmjnlcaaGreatDoor
open Go.RowKit Go.Shelf Go.Proofs.YtcjcgehhmjnlcaaGreatDoor.It Go.Proofs.YtcjcgehhmjnlcaaGreatDoorW.PrintWords

theorem below_grown {w W W' : World} {b : Nat} (h : Below w.heap.size w W) (hg : W.grownBy W' (some b)) (hb : w.heap.size ≤ b) : Below w.heap.size w W' := h.grown hg h.size (fun k hk => by cases hk; exact hb)
end Go.Proofs.YtcjcgehhmjnlcaaGreatDoor
/- Joined: Sgp, Sro, Scv. -/
/- Gaps: pairs of 16-bit numbers in a row, of the package's type and of the reference's; rows of 32-bit numbers. -/
set_option linter.unusedVariables false
set_option linter.unusedSimpArgs false
namespace Go.Proofs.YtcjcgehhmjnlcaaGreatDoor
open Go.RowKit Go.Shelf Go.Proofs.YtcjcgehhmjnlcaaGreatDoor.It Go.Proofs.YtcjcgehhmjnlcaaGreatDoorW.PrintWords Go.Proofs.YtcjcgehhmjnlcaaGreatDoorW.PrintLast Go.Proofs.YtcjcgehhmjnlcaaGreatDoorW.PrintMore
namespace Sk14
open PSackMatchesReference

abbrev Gp := S93
def gpZ : Gp := ⟨0, 0⟩
def gcells (g : Gp) : List Value := [.int .u16 g.f0, .int .u16 g.f1]
def Gp.ok (g : Gp) : Prop := 0 ≤ g.f0 ∧ g.f0 ≤ 65535 ∧ 0 ≤ g.f1 ∧ g.f1 ≤ 65535
/-- Gaps that can be read at A. -/
def GpC (w : World) (A : Option Addr) (l : List Gp) : Prop := l = [] ∨ ∃ b off, A = some ⟨b, off, none⟩ ∧ ∀ t, t < l.length → w.cell? ⟨b, off + t * 2, none⟩ = some (.int .u16 (l.getD t gpZ).f0) ∧ w.cell? ⟨b, off + t * 2 + 1, none⟩ = some (.int .u16 (l.getD t gpZ).f1)
theorem GpC.below {w w' : World} {A : Option Addr} {l : List Gp} (h : GpC w A l) (hb : Below w.heap.size w w') : GpC w' A l := by
  rcases h with h | ⟨b, off, e, hc⟩
  · exact .inl h
  · refine .inr ⟨b, off, e, fun t ht => ?_⟩
    obtain ⟨h0, h1⟩ := hc t ht
    exact ⟨(hb.cell (World.block_lt_of_cell? w _ h0)).trans h0, (hb.cell (World.block_lt_of_cell? w _ h1)).trans h1⟩
theorem kc_of_gen {S : Type} {k : Kd S} (f : Gp → S) (hz : k.sz = 2) (hmk : ∀ (w : World) (x : Gp), k.K w (f x) [.int .u16 x.f0, .int .u16 x.f1]) {w : World} {A : Option Addr} {l : List Gp} (h : GpC w A l) (hl : l.length ≤ 9223372036854775807) : Kd.C k w A l.length (l.map f) := by
  refine ⟨by simp, hl, fun hn => ?_⟩
  rcases h with h | ⟨b, off, rfl, hc⟩
  · rw [h] at hn; simp at hn
  · refine ⟨_, rfl, fun j p hp => ?_⟩
    rw [List.getElem?_map, Option.map_eq_some_iff] at hp
    obtain ⟨s, hs, rfl⟩ := hp
    have hj : j < l.length := (List.getElem?_eq_some_iff.1 hs).1
    obtain ⟨h0, h1⟩ := hc j hj
    rw [List.getD_eq_getElem?_getD, hs] at h0 h1
    refine ⟨_, by rw [hz]; rfl, hmk w s, fun i u hu => ?_⟩
    rw [Go.WideShapes.add_plain, hz]
    match i with
    | 0 => simp at hu; subst hu; exact h0
    | 1 => simp at hu; subst hu; exact h1
    | i + 2 => simp at hu
theorem kc_of_gpc {w : World} {A : Option Addr} {l : List Gp} (h : GpC w A l) (hl : l.length ≤ 9223372036854775807) : Kd.C k93 w A l.length l := by
  have := kc_of_gen (k := k93) id rfl (fun w x => k93_mk w x) h hl
  simpa using this
theorem infoG : (Tryz.prog.info? 93).map (fun i => (i.zero, i.size, i.bytes)) = some (some (.agg #[.int .u16 0, .int .u16 0]), 2, 4) := by kernel_rfl
theorem infoGr : (Tryz.prog.info? 94).map (fun i => (i.zero, i.size, i.bytes)) = some (some (.agg #[.int .u16 0, .int .u16 0]), 2, 4) := by kernel_rfl
theorem infoU : (Tryz.prog.info? 23).map (fun i => (i.zero, i.size, i.bytes)) = some (some (.int .u32 0), 1, 4) := by kernel_rfl
/-- Gaps of a type in a row of the call's own. -/
def OwnG (t : Nat) (w : World) (base : Nat) (v : Value) (l : List Gp) : Prop := w.ownsRow base t 2 v l.length (l.flatMap gcells)
/-- Numbers in a row of the call's own. -/
def OwnU (w : World) (base : Nat) (v : Value) (l : List Int) : Prop := w.ownsRow base 23 1 v l.length (l.map (Value.int .u32))
/-- Numbers that can be read at A. -/
def UC (w : World) (A : Option Addr) (l : List Int) : Prop := Kd.C (Kd.int .u32) w A l.length l
theorem UC.below {w w' : World} {A : Option Addr} {l : List Int} (h : UC w A l) (hb : Below w.heap.size w w') : UC w' A l := Kd.C_below h hb
theorem ownsRow_form {t z : Nat} {w : World} {base n : Nat} {v : Value} {xs : List Value} (h : w.ownsRow base t z v n xs) : ∃ A c, v = .slice A n c := by
  rcases h with ⟨-, ⟨rfl, h0⟩ | ⟨g, cap, cur, rfl, -⟩⟩
  · exact ⟨none, 0, by rw [h0]⟩
  · exact ⟨_, _, rfl⟩
theorem gflat_take (l : List Gp) (t j : Nat) (ht : t < l.length) (hj : j < 2) : (l.flatMap gcells)[t * 2 + j]? = (gcells (l.getD t gpZ))[j]? := by
  induction l generalizing t with
  | nil => simp at ht
  | cons s l ih =>
    rw [List.flatMap_cons]
    rcases t with _ | t
    · rw [List.getElem?_append_left (by simp [gcells]; omega)]
      simp
    · rw [List.getElem?_append_right (by simp [gcells]; omega)]
      have := ih t (by simpa using ht)
      rw [show (t + 1) * 2 + j - (gcells s).length = t * 2 + j by simp [gcells]; omega, this]
      simp
theorem ownG_read {t : Nat} {w : World} {base : Nat} {v : Value} {l : List Gp} (h : OwnG t w base v l) : ∃ A c, v = .slice A l.length c ∧ l.length ≤ c ∧ GpC w A l ∧ ∀ ad, A = some ad → base ≤ ad.block ∧ ad.block < w.heap.size := by
  have hz := h.1
  rcases h.2 with ⟨rfl, h0⟩ | ⟨g, cap, cur, rfl, hb, hg, hcap, hmax, hcur, hpre⟩
  · exact ⟨none, 0, by rw [h0], by omega, .inl (List.eq_nil_of_length_eq_zero h0), fun ad e => by cases e⟩
  · refine ⟨_, _, rfl, hcap, .inr ⟨g, 0, rfl, fun t ht => ?_⟩, fun ad e => by cases e; exact ⟨hb, (Array.getElem?_eq_some_iff.1 hg).1⟩⟩
    have hc : ∀ j, j < 2 → w.cell? ⟨g, 0 + t * 2 + j, none⟩ = (gcells (l.getD t gpZ))[j]? := fun j hj => by
      rw [← gflat_take l t j ht hj, ← hpre, List.getElem?_take_of_lt (by omega)]
      unfold World.cell?
      rw [hg]
      simp
    exact ⟨hc 0 (by omega), hc 1 (by omega)⟩
theorem ownU_read {w : World} {base : Nat} {v : Value} {l : List Int} (h : OwnU w base v l) : ∃ A c, v = .slice A l.length c ∧ l.length ≤ c ∧ UC w A l := by
  have hR : Kd.R (Kd.int .u32) 23 w base (fun _ => True) v l := Kd.R_of_own h (fun _ _ => trivial)
  exact Kd.R_reads hR
theorem ownG_lower {t : Nat} {w : World} {b0 b1 : Nat} {v : Value} {l : List Gp} (h : OwnG t w b1 v l) (hb : b0 ≤ b1) : OwnG t w b0 v l := by
  rcases h with ⟨h1, h2 | ⟨g, cap, cur, h3, h4, h5⟩⟩
  · exact ⟨h1, .inl h2⟩
  · exact ⟨h1, .inr ⟨g, cap, cur, h3, Nat.le_trans hb h4, h5⟩⟩
theorem ownU_lower {w : World} {b0 b1 : Nat} {v : Value} {l : List Int} (h : OwnU w b1 v l) (hb : b0 ≤ b1) : OwnU w b0 v l := by
  rcases h with ⟨h1, h2 | ⟨g, cap, cur, h3, h4, h5⟩⟩
  · exact ⟨h1, .inl h2⟩
  · exact ⟨h1, .inr ⟨g, cap, cur, h3, Nat.le_trans hb h4, h5⟩⟩
theorem row_kept {t z : Nat} {w w' : World} {base n : Nat} {v : Value} {xs : List Value} (h : w.ownsRow base t z v n xs) (hb : Below w.heap.size w w') : w'.ownsRow base t z v n xs :=
  ⟨h.1, by
    rcases h.2 with h2 | ⟨g, cap, cur, h3, h4, h5, h6⟩
    · exact .inl h2
    · exact .inr ⟨g, cap, cur, h3, h4, (hb.block g (Array.getElem?_eq_some_iff.1 h5).1).trans h5, h6⟩⟩
theorem news_g (t : Nat) (w : World) (s : Gp) : ∀ j u, (gcells s)[j]? = some u → (w.alloc (.cells (gcells s).toArray t)).cell? ((⟨w.heap.size, 0, none⟩ : Addr).add j) = some u := by
  intro j u hu
  rw [Go.WideShapes.add_plain]
  unfold World.cell?
  rw [show (w.alloc (.cells (gcells s).toArray t)).heap[w.heap.size]? = _ from blk_new w _]
  simpa using hu
end Sk14
end Go.Proofs.YtcjcgehhmjnlcaaGreatDoor
/- Rows of the call's own beside a block of another type. -/
set_option linter.unusedVariables false
set_option linter.unusedSimpArgs false
namespace Go.Proofs.YtcjcgehhmjnlcaaGreatDoor
open Go.RowKit Go.Shelf Go.Proofs.YtcjcgehhmjnlcaaGreatDoor.It Go.Proofs.YtcjcgehhmjnlcaaGreatDoorW.PrintWords Go.Proofs.YtcjcgehhmjnlcaaGreatDoorW.PrintLast Go.Proofs.YtcjcgehhmjnlcaaGreatDoorW.PrintMore
namespace Sk14
def reZ : Obj := .cells #[.int .u32 0, .int .u32 0, .slice none 0 0, .slice none 0 0] 44 (0, 0)
def saZ : Obj := .cells #[.int .u32 0, .int .u32 0, .slice none 0 0, .slice none 0 0] 49 (0, 0)
theorem row_apart {t z t2 : Nat} {w : World} {base n : Nat} {v : Value} {xs : List Value} {b : Nat} {cs : Array Value} (h : w.ownsRow base t z v n xs) (ht : t2 ≠ t) (hb : w.heap[b]? = some (.cells cs t2 (0, 0))) : some b ≠ v.ownBlock := by
  rcases h with ⟨-, ⟨rfl, -⟩ | ⟨g, cap, cur, rfl, -, hg, -⟩⟩
  · simp [Value.ownBlock]
  · intro e
    simp [Value.ownBlock] at e
    subst e
    rw [hb] at hg
    injection hg with hg
    injection hg with _ hg
    exact ht hg
theorem set_blk' {W : World} {b t : Nat} {cs : Array Value} {fr : Nat × Nat} (h : W.heap[b]? = some (.cells cs t fr)) (j : Nat) (v : Value) : (W.setCell ⟨b, j, none⟩ v).heap[b]? = some (.cells (cs.setIfInBounds j v) t fr) := by
  simp [World.setCell, Array.getElem?_modify, h]
end Sk14
end Go.Proofs.YtcjcgehhmjnlcaaGreatDoor
/- 'sack.Covers', with 'slices.ContainsFunc' over its closure. -/
set_option linter.unusedVariables false
set_option linter.unusedSimpArgs false
namespace Go.Proofs.YtcjcgehhmjnlcaaGreatDoor
open Go.RowKit Go.Shelf Go.Proofs.YtcjcgehhmjnlcaaGreatDoor.It Go.Proofs.YtcjcgehhmjnlcaaGreatDoorW.PrintWords Go.Proofs.YtcjcgehhmjnlcaaGreatDoorW.PrintLast Go.Proofs.YtcjcgehhmjnlcaaGreatDoorW.PrintMore
namespace Sk14
open PSackMatchesReference

def inGap (d : Int) (g : Gp) : Bool := decide (d ≥ g.f0 % 4294967296) && decide (d ≤ g.f1 % 4294967296)
set_option maxRecDepth 100000 in
set_option maxHeartbeats 2000000 in
theorem cov1_any (g : Gp) (p : Nat) (d : Int) (w : World) (hp : w.heap[p]? = some (.cells #[.int .u32 d] 23 (0, 0))) :
    Calls Tryz.prog 81 #[.agg #[.int .u16 g.f0, .int .u16 g.f1], .pointer (some ⟨p, 0, none⟩)] w (IsPost (.bool (inGap d g)) w) := by
  have hc : (w.alloc (.cells #[.int .u16 g.f0, .int .u16 g.f1] 93)).cell? ⟨p, 0, none⟩ = some (.int .u32 d) := by
    unfold World.cell?
    rw [show (w.alloc (.cells #[.int .u16 g.f0, .int .u16 g.f1] 93)).heap[p]? = _ from blk_alloc hp]
    rfl
  have hb := hid (below_alloc (Below.refl w.heap.size w) (.cells #[.int .u16 g.f0, .int .u16 g.f1] 93))
  clear hp
  go_enter Tryz.func81, Tryz.ntmps81
  by_cases c1 : d ≥ g.f0 % 4294967296
  · have hv : inGap d g = decide (d ≤ g.f1 % 4294967296) := by unfold inGap; simp [c1]
    rw [hv]
    go_wp2_with fail
    go_ret
    exact ⟨rfl, hb.out⟩
  · have hv : inGap d g = false := by unfold inGap; simp [c1]
    rw [hv]
    go_wp2_with fail
    go_ret
    exact ⟨rfl, hb.out⟩
def IdxPost (b : Bool) (w : World) (e : Ending) (w' : World) : Prop := ∃ r : Int, e = .returned (.int .i64 r) ∧ decide (r ≥ 0) = b ∧ Below w.heap.size w w'
theorem any_take {l : List Gp} {f : Gp → Bool} {i : Nat} (h : i < l.length) (hn : (l.take i).any f = false) (hb : f (l.getD i gpZ) = false) : (l.take (i + 1)).any f = false := by
  rw [List.take_succ_eq_append_getElem h, List.any_append, hn]
  rw [List.getD_eq_getElem?_getD, List.getElem?_eq_getElem h] at hb
  simpa using hb
theorem any_here {l : List Gp} {f : Gp → Bool} {i : Nat} (h : i < l.length) (hb : f (l.getD i gpZ) = true) : l.any f = true := by
  rw [List.getD_eq_getElem?_getD, List.getElem?_eq_getElem h] at hb
  exact List.any_eq_true.2 ⟨_, List.getElem_mem h, by simpa using hb⟩
set_option maxRecDepth 100000 in
set_option maxHeartbeats 2000000 in
theorem index_any (A : Option Addr) (c : Nat) (l : List Gp) (p : Nat) (d : Int) (w : World) (hS : GpC w A l) (hc : l.length ≤ c) (hl : l.length ≤ 1000000) (hp : w.heap[p]? = some (.cells #[.int .u32 d] 23 (0, 0))) :
    Calls Tryz.prog 112 #[.slice A l.length c, .func (.func 81) #[] #[.pointer (some ⟨p, 0, none⟩)]] w (IdxPost (l.any (inGap d)) w) := by
  have HS := hid hS
  have HP := hid hp
  clear hS hp
  go_enter Tryz.func112, Tryz.ntmps112
  go_wp2_with fail
  go_loopw [8] (fun iv W => ∃ i : Nat, iv = .int .i64 i ∧ i ≤ l.length ∧ (l.take i).any (inGap d) = false ∧ Hid (Below w.heap.size w W)) (fun iv _ => l.length - (intOf iv).toNat)
  case atStart => exact ⟨0, rfl, by omega, by simp, hid (Below.refl _ _)⟩
  case round =>
    obtain ⟨i, rfl, hi, ha, hB⟩ := hrel
    by_cases hlt : i < l.length
    · rcases HS.out.below hB.out with h | ⟨b, off, rfl, hcl⟩
      · rw [h] at hlt; exact absurd hlt (by simp)
      · obtain ⟨k0, k1⟩ := hcl i hlt
        clear hcl
        obtain ⟨s, hs⟩ : ∃ s, l.getD i gpZ = s := ⟨_, rfl⟩
        rw [hs] at k0 k1
        have HSD := hid hs
        clear hs
        go_wp2_with fail
        refine (cov1_any s p d wr (blk_below HP.out hB.out)).mono ?_
        rintro e w2 ⟨rfl, hb⟩
        have HB := hid (cthen hB.out hb)
        clear hb
        obtain ⟨q, hq⟩ : ∃ q, inGap d s = q := ⟨_, rfl⟩
        rw [hq]
        rw [← HSD.out] at hq
        have HQ := hid hq
        clear hq
        cases q with
        | true =>
          have hany := any_here hlt HQ.out
          go_wp2_with fail
          go_ret
          exact ⟨i, rfl, by rw [hany]; simp, HB.out⟩
        | false =>
          have hnext := any_take hlt ha HQ.out
          go_wp2_with fail
          exact ⟨⟨i + 1, by go_num, by omega, hnext, HB⟩, by simp [intOf]; omega⟩
    · obtain rfl : i = l.length := by omega
      rw [List.take_length] at ha
      go_wp2_with fail
      go_ret
      exact ⟨-1, rfl, by rw [ha]; rfl, hB.out⟩
set_option maxRecDepth 100000 in
set_option maxHeartbeats 2000000 in
theorem contains_any (A : Option Addr) (c : Nat) (l : List Gp) (p : Nat) (d : Int) (w : World) (hS : GpC w A l) (hc : l.length ≤ c) (hl : l.length ≤ 1000000) (hp : w.heap[p]? = some (.cells #[.int .u32 d] 23 (0, 0))) :
    Calls Tryz.prog 80 #[.slice A l.length c, .func (.func 81) #[] #[.pointer (some ⟨p, 0, none⟩)]] w (IsPost (.bool (l.any (inGap d))) w) := by
  have H := hid (index_any A c l p d w hS hc hl hp)
  clear hS hp
  go_enter Tryz.func80, Tryz.ntmps80
  go_wp2_with (refine H.out.mono ?_; rintro e w1 ⟨r, rfl, hr, hb⟩)
  go_ret
  exact ⟨by simp [← hr], hb⟩
def covV (cum : Int) (l : List Gp) (x : Int) : Bool := ((x - cum) % 4294967296 == 0) || decide ((x - cum) % 4294967296 > 2147483648) || l.any (inGap ((x - cum) % 4294967296))
set_option maxRecDepth 100000 in
set_option maxHeartbeats 2000000 in
theorem covers_any (cum win x : Int) (A B : Option Addr) (c m q : Nat) (l : List Gp) (w : World) (hS : GpC w A l) (hc : l.length ≤ c) (hl : l.length ≤ 1000000) :
    Calls Tryz.prog 33 #[.agg #[.int .u32 cum, .int .u32 win, .slice A l.length c, .slice B m q], .int .u32 x] w (IsPost (.bool (covV cum l x)) w) := by
  have HS := hid hS
  clear hS
  obtain ⟨d, hd⟩ : ∃ d, (x - cum) % 4294967296 = d := ⟨_, rfl⟩
  have hv : covV cum l x = ((d == 0) || decide (d > 2147483648) || l.any (inGap d)) := by unfold covV; rw [hd]
  rw [hv]
  clear hv
  have hd2 : IntKind.u32.wrap (x - cum) = d := hd
  have HB0 := hid (below_alloc (Below.refl w.heap.size w) (.cells #[.int .u32 cum, .int .u32 win, .slice A l.length c, .slice B m q] 49))
  have HB1 := hid (below_alloc HB0.out (.cells #[.int .u32 d] 23))
  have HP := hid (blk_new (w.alloc (.cells #[.int .u32 cum, .int .u32 win, .slice A l.length c, .slice B m q] 49)) (.cells #[.int .u32 d] 23))
  rw [show (w.alloc (.cells #[.int .u32 cum, .int .u32 win, .slice A l.length c, .slice B m q] 49)).heap.size = w.heap.size + 1 by simp] at HP
  by_cases c1 : d = 0
  · subst c1
    have hz : ((0 : Int) == 0) = true := rfl
    rw [hz, Bool.true_or, Bool.true_or]
    go_enter Tryz.func33, Tryz.ntmps33
    go_wp2_with fail
    all_goals (go_ret; exact ⟨rfl, HB1.out⟩)
  · by_cases c2 : d > 2147483648
    · have hz : decide (d > 2147483648) = true := by simp [c2]
      rw [hz, Bool.or_true, Bool.true_or]
      go_enter Tryz.func33, Tryz.ntmps33
      go_wp2_with fail
      all_goals (first | (go_ret; exact ⟨rfl, HB1.out⟩) | (exfalso; omega) | (exfalso; simp_all))
    · have hz : decide (d > 2147483648) = false := by simp [c2]
      have hz1 : (d == 0) = false := by simp [c1]
      rw [hz, hz1, Bool.false_or, Bool.false_or]
      go_enter Tryz.func33, Tryz.ntmps33
      go_wp2_with (first | (refine (contains_any A c l _ d _ (HS.out.below HB1.out) hc hl HP.out).mono ?_; rintro e w1 ⟨rfl, hb⟩))
      all_goals (first | (go_ret; exact ⟨rfl, cthen HB1.out hb⟩) | (exfalso; omega) | (exfalso; simp_all))
end Sk14
end Go.Proofs.YtcjcgehhmjnlcaaGreatDoor
