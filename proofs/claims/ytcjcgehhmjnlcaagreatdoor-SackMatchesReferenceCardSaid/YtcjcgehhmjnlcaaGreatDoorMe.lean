/- Joined: Jn, Mk, Mkl, Mkr. -/
import Derived.Test.YtcjcgehhmjnlcaaGreatDoorMc
import Derived.Lib.AppendZerosOnto
import Derived.Lib.Walk
import Derived.Lib.SliceRun
import Derived.Test.YtcjcgehhmjnlcaaGreatDoorMd
import Derived.Test.YtcjcgehhmjnlcaaGreatDoorQfp
import Derived.Deep.RegionHeld3
import Derived.OneCell
import Derived.Deep.CutRange
import Derived.Deep.DeepCutAuto
/- 'wire.Join' of two slices of four bytes: 'slices.Grow', 'slices.Concat'. -/
set_option linter.unusedVariables false
namespace Go.Proofs.YtcjcgehhmjnlcaaGreatDoor
open Go.RowKit Go.Shelf Go.Proofs.YtcjcgehhmjnlcaaGreatDoor.It Go.Proofs.YtcjcgehhmjnlcaaGreatDoorW.PrintWords

def GrowPost (w : World) (e : Ending) (w' : World) : Prop := ∃ v : Value, e = .returned v ∧ OwnB w' w.heap.size v [] ∧ Below w.heap.size w w'
set_option maxRecDepth 100000 in
set_option maxHeartbeats 2000000 in
theorem grow_new (n : Nat) (w : World) (h0 : 0 < n) (hn : n ≤ 1099511627776) : Calls Tryz.prog 120 #[.slice none 0 0, .int .i64 n] w (GrowPost w) := by
  obtain ⟨i0, hi, hz0, hz1, hz2⟩ := info_parts infoB
  have h1 : ¬ ((n : Int) < 0) := by omega
  have h3 : wrap64 ((n : Int) - 0) = (n : Int) := by unfold wrap64; omega
  have h4 : (n : Int) > 0 := by omega
  have z25 : ∀ w, (Go.sizeOf 5).run Tryz.prog w = .ok 1 w := fun w => by simp [Go.sizeOf, typeInfo, hi, hz1]
  have hold : (Builtin.firstCells i0.size 0 (.slice none 0 0)).run Tryz.prog w.drew = .ok (#[] : Array Value) w.drew := by
    have := run_firstCells_none (P := Tryz.prog) w.drew i0.size 0 0 0
    exact this
  have hrz : ∀ ty, (Builtin.append_ #[32, 3] ty #[.slice none 0 0, .int .i64 n]).run Tryz.prog w =
      .ok (.slice (some ⟨w.heap.size, 0, none⟩) n (grownCap w n 0 5)) (w.drew.alloc (.cells ((#[] : Array Value) ++ Builtin.zeroCells (Value.int .u8 0).cells n ++ Builtin.zeroCells (Value.int .u8 0).cells (grownCap w n 0 5 - n)) 5)) := fun ty => by
    have h := Lib.run_append_grow_zeros w 32 3 ty 5 i0 (.int .u8 0) .i64 .i64 Tryz.underlying32 Tryz.underlying3 hi hz0 none 0 0 [] hold n h0 (by omega) (by omega) (by omega) (by rw [hz2]; omega)
      (by rw [Nat.zero_add, hz2]; exact growslice_fits (by omega) (by omega))
    rw [Nat.zero_add] at h
    exact h
  have hGn : n ≤ grownCap w n 0 5 := grownCap_ge w _ _ _
  have hG63 : grownCap w n 0 5 ≤ maxLen := grownCap_le_maxLen w n 0 5 (by unfold maxLen; omega)
  obtain ⟨G, hG⟩ : ∃ G, G = grownCap w n 0 5 := ⟨_, rfl⟩
  rw [← hG] at hrz hGn hG63
  have hg := hid hG63
  have hg2 := hid hGn
  have hg3 : G ≤ 9223372036854775807 := hG63
  clear hold hG hG63
  go_enter Tryz.func120, Tryz.ntmps120
  go_wp2_with (at_builtin; refine Lib.wpList_append_run _ rfl _ _ _ _ rfl _ _ rfl rfl _ _ (hrz _) ?_)
  go_ret
  refine ⟨_, rfl, ⟨rfl, .inr ⟨w.heap.size, G, _, rfl, Nat.le_refl _, blk_new _ _, Nat.zero_le _, hg.out, ?_, rfl⟩⟩, (below_drew (Below.refl w.heap.size w) 1).alloc (Nat.le_refl _) _⟩
  have := hg2.out
  simp [Builtin.zeroCells]
  omega

def catL (l1 l2 : List Int) : Nat → List Int
  | 0 => []
  | 1 => l1
  | _ => l1 ++ l2
/-- Where the second loop of 'Concat' stands. -/
structure CatI (w : World) (b : Nat) (A1 A2 : Option Addr) (c1 c2 : Nat) (l1 l2 l : List Int) (v : Value) (W : World) : Prop where
  bel : Below w.heap.size w W
  own : OwnB W w.heap.size v l
  k0 : W.cell? ⟨b, 0, none⟩ = some (.slice A1 4 c1)
  k1 : W.cell? ⟨b, 1, none⟩ = some (.slice A2 4 c2)
  r1 : BC W A1 l1
  r2 : BC W A2 l2
theorem CatI.of {w w1 : World} {b : Nat} {A1 A2 : Option Addr} {c1 c2 : Nat} {l1 l2 l : List Int} {v : Value} (k0 : w.cell? ⟨b, 0, none⟩ = some (.slice A1 4 c1)) (k1 : w.cell? ⟨b, 1, none⟩ = some (.slice A2 4 c2)) (r1 : BC w A1 l1) (r2 : BC w A2 l2) (hb : Below w.heap.size w w1) (ho : OwnB w1 w.heap.size v l) : CatI w b A1 A2 c1 c2 l1 l2 l v w1 :=
  ⟨hb, ho, (hb.cell (p := ⟨b, 0, none⟩) (World.block_lt_of_cell? w _ k0)).trans k0, (hb.cell (p := ⟨b, 1, none⟩) (World.block_lt_of_cell? w _ k1)).trans k1, r1.below hb, r2.below hb⟩
theorem BC.some_of {w : World} {A : Option Addr} {l : List Int} (h : BC w A l) (hl : l.length = 4) : ∃ ad, A = some ad ∧ ∀ j u, (l.map (Value.int .u8))[j]? = some u → w.cell? (ad.add j) = some u := by
  obtain ⟨ad, rfl, _⟩ := h.2.2 (by omega)
  exact ⟨ad, rfl, news_of h⟩
set_option maxRecDepth 100000 in
set_option maxHeartbeats 4000000 in
theorem concat_two (b : Nat) (A1 A2 : Option Addr) (c1 c2 : Nat) (l1 l2 : List Int) (w : World) (k0 : w.cell? ⟨b, 0, none⟩ = some (.slice A1 4 c1)) (k1 : w.cell? ⟨b, 1, none⟩ = some (.slice A2 4 c2)) (h1 : l1.length = 4) (h2 : l2.length = 4) (r1 : BC w A1 l1) (r2 : BC w A2 l2) :
    Calls Tryz.prog 94 #[.slice (some ⟨b, 0, none⟩) 2 2] w (BytesPost (l1 ++ l2) w) := by
  obtain ⟨i0, hi, hz0, hz1, hz2⟩ := info_parts infoB
  have H1 := hid h1
  have H2 := hid h2
  have R1 := hid r1
  have R2 := hid r2
  clear h1 h2 r1 r2
  go_enter Tryz.func94, Tryz.ntmps94
  go_wp2_with fail
  go_loopw [3, 11] (fun sv iv W => ∃ i : Nat, iv = .int .i64 i ∧ i ≤ 2 ∧ sv = .int .i64 ((4 * i : Nat) : Int) ∧ w = W) (fun _ iv _ => 5 - (intOf iv).toNat)
  case atStart => exact ⟨0, rfl, by omega, rfl, rfl⟩
  case round =>
    obtain ⟨i, rfl, hi2, rfl, rfl⟩ := hrel
    have h3 : i = 0 ∨ i = 1 ∨ i = 2 := by omega
    rcases h3 with rfl | rfl | rfl
    · go_wp2_with fail
      exact ⟨⟨1, by simp⟩, by simp [intOf]⟩
    · go_wp2_with fail
      exact ⟨⟨2, by simp⟩, by simp [intOf]⟩
    · go_wp2_with fail
      refine (grow_new 8 _ (by omega) (by omega)).mono ?_
      rintro e w1 ⟨v, rfl, hO, hb⟩
      have hk0 := hid k0
      have hk1 := hid k1
      have HI := hid (CatI.of k0 k1 R1.out R2.out hb hO)
      clear hO hb k0 k1
      go_wp2_with fail
      go_loopw [6, 27] (fun vv iv W => ∃ i : Nat, iv = .int .i64 i ∧ i ≤ 2 ∧ Hid (CatI w b A1 A2 c1 c2 l1 l2 (catL l1 l2 i) vv W)) (fun _ iv _ => 5 - (intOf iv).toNat)
      case atStart => exact ⟨0, rfl, by omega, HI⟩
      case round =>
        obtain ⟨i, rfl, hi2, hI⟩ := hrel
        have h3 : i = 0 ∨ i = 1 ∨ i = 2 := by omega
        have hown := hid hI.out.own
        rcases h3 with rfl | rfl | rfl
        · obtain ⟨ad, rfl, hn⟩ := hI.out.r1.some_of H1.out
          have HN := hid hn
          clear hn
          have hown2 : wr.ownsRow w.heap.size 5 1 _ 0 [] := hown.out
          have hown3 := hid hown2
          clear hown2
          obtain ⟨nn, hnn⟩ : ∃ nn : Nat, nn = 4 := ⟨4, rfl⟩
          have k0 := hI.out.k0
          rw [← hnn] at k0
          have NN := hid hnn
          clear hnn
          go_wp2_with (at_builtin; refine wpList_append_own _ rfl _ _ 32 rfl w.heap.size 5 i0 (.int .u8 0) 1 1 Tryz.underlying32 hi hz0 hz1 hz2 rfl (by decide) _ _ _ rfl hown3.out ad nn c1 (l1.map (Value.int .u8)) rfl (by simp [H1.out, NN.out]) HN.out (by simp [Value.oneCell']) (by rw [NN.out]; decide) (by rw [NN.out]; decide) hI.out.bel.size ?_; intro v' w1 hown' hgrow _)
          have B := hI.out.bel.grown hgrow hI.out.bel.size (fun j hj => (World.ownsRow.lt hown3.out _ hj).1)
          refine ⟨⟨1, rfl, by omega, hid (CatI.of hk0.out hk1.out R1.out R2.out B (by unfold OwnB catL; simpa [H1.out, NN.out] using hown'))⟩, by simp [intOf]⟩
        · obtain ⟨ad, rfl, hn⟩ := hI.out.r2.some_of H2.out
          have HN := hid hn
          clear hn
          obtain ⟨nn, hnn⟩ : ∃ nn : Nat, nn = 4 := ⟨4, rfl⟩
          have k1 := hI.out.k1
          rw [← hnn] at k1
          have NN := hid hnn
          clear hnn
          have hown2 : wr.ownsRow w.heap.size 5 1 _ l1.length (l1.map (Value.int .u8)) := hown.out
          rw [H1.out] at hown2
          have hown3 := hid hown2
          clear hown2
          go_wp2_with (at_builtin; refine wpList_append_own _ rfl _ _ 32 rfl w.heap.size 5 i0 (.int .u8 0) 1 1 Tryz.underlying32 hi hz0 hz1 hz2 rfl (by decide) _ _ _ rfl hown3.out ad nn c2 (l2.map (Value.int .u8)) rfl (by simp [H2.out, NN.out]) HN.out (by simp [Value.oneCell']) (by rw [NN.out]; decide) (by rw [NN.out]; decide) hI.out.bel.size ?_; intro v' w1 hown' hgrow _)
          have B := hI.out.bel.grown hgrow hI.out.bel.size (fun j hj => (World.ownsRow.lt hown3.out _ hj).1)
          refine ⟨⟨2, rfl, by omega, hid (CatI.of hk0.out hk1.out R1.out R2.out B (by unfold OwnB catL; simpa [H1.out, H2.out, NN.out] using hown'))⟩, by simp [intOf]⟩
        · go_wp2_with fail
          go_ret
          exact ⟨_, rfl, hown.out, hI.out.bel⟩
set_option maxHeartbeats 1000000 in
theorem join_two (b : Nat) (A1 A2 : Option Addr) (c1 c2 : Nat) (l1 l2 : List Int) (w : World) (k0 : w.cell? ⟨b, 0, none⟩ = some (.slice A1 4 c1)) (k1 : w.cell? ⟨b, 1, none⟩ = some (.slice A2 4 c2)) (h1 : l1.length = 4) (h2 : l2.length = 4) (r1 : BC w A1 l1) (r2 : BC w A2 l2) :
    Calls Tryz.prog 51 #[.slice (some ⟨b, 0, none⟩) 2 2] w (BytesPost (l1 ++ l2) w) := by
  have H := hid (concat_two b A1 A2 c1 c2 l1 l2 w k0 k1 h1 h2 r1 r2)
  clear k0 k1 h1 h2 r1 r2
  go_enter Tryz.func51, Tryz.ntmps51
  go_wp2_with fail
  refine H.out.mono ?_
  rintro e w1 ⟨v, rfl, hO, hb⟩
  have HO := hid hO
  have HB := hid hb
  clear hO hb
  go_wp2_with fail
  go_ret
  exact ⟨v, rfl, HO.out, HB.out⟩
end Go.Proofs.YtcjcgehhmjnlcaaGreatDoor
/- 'forward.Make': the bytes of a skip; the region of the longer skip. -/
set_option linter.unusedVariables false
set_option linter.unusedSimpArgs false
namespace Go.Proofs.YtcjcgehhmjnlcaaGreatDoor
open Go.RowKit Go.Shelf Go.Proofs.YtcjcgehhmjnlcaaGreatDoor.It Go.Proofs.YtcjcgehhmjnlcaaGreatDoorW.PrintWords Go.Proofs.YtcjcgehhmjnlcaaGreatDoorW.PrintLast Go.Proofs.YtcjcgehhmjnlcaaGreatDoorW.PrintMore PForwardMatchesReference

structure Sk where
  st : Int
  un : Bool
  sq : Int
def skZ : Sk := ⟨0, false, 0⟩
def Sk.cells (s : Sk) : List Value := [.int .u16 s.st, .bool s.un, .int .u32 s.sq]
def Sk.ok (s : Sk) : Prop := 0 ≤ s.st ∧ s.st ≤ 65535 ∧ 0 ≤ s.sq ∧ s.sq ≤ 4294967295
def b2 (x : Int) : List Int := [x / 256 % 256, x % 256]
def b4 (x : Int) : List Int := [x / 16777216 % 256, x / 65536 % 256, x / 256 % 256, x % 256]
def ofB (b : Bool) : Int := if b = true then 1 else 0
def skB (inter : Bool) (s : Sk) : List Int := if inter = true then b2 s.st ++ b2 (ofB s.un) ++ b4 s.sq else b2 s.st ++ b2 s.sq
def skBad (inter : Bool) (s : Sk) : Bool := !inter && (s.un || decide (s.sq > 65535))
theorem put_4 (x : Int) : wire_Put.f 20 4 [x] = some (b4 x) := by simp [wire_Put.f, wire_right.f, wire_Put.l0, wire_Put.l1, wrap64, rd, shr, b4, IntKind.bits]
theorem put_2 (x y : Int) : wire_Put.f 20 2 [x, y] = some (b2 x ++ b2 y) := by simp [wire_Put.f, wire_right.f, wire_Put.l0, wire_Put.l1, wrap64, rd, shr, b2, IntKind.bits]
theorem own_of_R {w : World} {base : Nat} {v : Value} {l : List Int} (h : Kd.R (Kd.int .u8) 5 w base (fun _ => True) v l) : OwnB w base v l := by
  obtain ⟨-, cs, ho, hs, hx⟩ := h
  have hl : cs.length = l.length := by have := ho.1; simpa [Kd.int, Kd.scalar] using this
  have : cs = l.map (Value.int .u8) := by
    apply List.ext_getElem?
    intro j
    rcases Nat.lt_or_ge j l.length with hj | hj
    · have := hx j l[j] (List.getElem?_eq_getElem hj)
      have h1 : (cs.drop (j * 1)).take 1 = [Value.int .u8 l[j]] := this
      rw [Nat.mul_one, List.take_one, List.head?_drop] at h1
      rw [List.getElem?_map, List.getElem?_eq_getElem hj, List.getElem?_eq_getElem (by omega)]
      rw [List.getElem?_eq_getElem (by omega)] at h1
      simpa using h1
    · rw [List.getElem?_eq_none (by omega), List.getElem?_eq_none (by simpa using hj)]
  unfold OwnB
  rw [← this]
  exact ho
theorem row_put (w : World) (b : Nat) (xs : List Int) (hl : xs.length ≤ 100) (h : w.heap[b]? = some (.cells (xs.map (Value.int .u32)).toArray 23 (0, 0))) : Kd.C (Kd.int .u32) w (some ⟨b, 0, none⟩) xs.length xs :=
  ints_mk (by omega) (fun t ht => by
    unfold World.cell?
    rw [h]
    simp [List.getElem?_eq_getElem ht])
theorem put4_any (b : Nat) (x : Int) (w : World) (h : w.heap[b]? = some (.cells #[.int .u32 x] 23 (0, 0))) :
    Calls Tryz.prog 50 #[.int .i64 4, .slice (some ⟨b, 0, none⟩) 1 1] w (BytesPost (b4 x) w) :=
  (wire_Put.calls 20 4 (some ⟨b, 0, none⟩) 1 [x] (b4 x) w (row_put w b [x] (by simp) h) (by simp) (put_4 x)).mono (by
    rintro e w' ⟨v, rfl, hR, hb⟩
    exact ⟨v, rfl, own_of_R hR, hb⟩)
theorem put2_any (b : Nat) (x y : Int) (w : World) (h : w.heap[b]? = some (.cells #[.int .u32 x, .int .u32 y] 23 (0, 0))) :
    Calls Tryz.prog 50 #[.int .i64 2, .slice (some ⟨b, 0, none⟩) 2 2] w (BytesPost (b2 x ++ b2 y) w) :=
  (wire_Put.calls 20 2 (some ⟨b, 0, none⟩) 2 [x, y] (b2 x ++ b2 y) w (row_put w b [x, y] (by simp) h) (by simp) (put_2 x y)).mono (by
    rintro e w' ⟨v, rfl, hR, hb⟩
    exact ⟨v, rfl, own_of_R hR, hb⟩)
theorem bit_any (b : Bool) (w : World) : Calls Tryz.prog 49 #[.bool b] w (IsPost (.int .u32 (ofB b)) w) :=
  (forward_bit.calls b (ofB b) w (by unfold forward_bit.f ofB; cases b <;> rfl)).mono (fun e w' h => ⟨h.1, h.2.below⟩)

/-- Skips that can be read at A. -/
def SkC (w : World) (A : Option Addr) (l : List Sk) : Prop := l = [] ∨ ∃ b off, A = some ⟨b, off, none⟩ ∧ ∀ t, t < l.length → w.cell? ⟨b, off + t * 3, none⟩ = some (.int .u16 (l.getD t skZ).st) ∧ w.cell? ⟨b, off + t * 3 + 1, none⟩ = some (.bool (l.getD t skZ).un) ∧ w.cell? ⟨b, off + t * 3 + 2, none⟩ = some (.int .u32 (l.getD t skZ).sq)
theorem SkC.below {w w' : World} {A : Option Addr} {l : List Sk} (h : SkC w A l) (hb : Below w.heap.size w w') : SkC w' A l := by
  rcases h with h | ⟨b, off, e, hc⟩
  · exact .inl h
  · refine .inr ⟨b, off, e, fun t ht => ?_⟩
    obtain ⟨h0, h1, h2⟩ := hc t ht
    exact ⟨(hb.cell (World.block_lt_of_cell? w _ h0)).trans h0, (hb.cell (World.block_lt_of_cell? w _ h1)).trans h1, (hb.cell (World.block_lt_of_cell? w _ h2)).trans h2⟩
/-- The bytes of the number and of skips. -/
def mkD (inter : Bool) (x : Int) (l : List Sk) : List Int := b4 x ++ l.flatMap (skB inter)
def mkT (inter : Bool) : Int := if inter = true then 194 else 192
def chZ : Obj := .cells #[.int .u8 0, .int .u8 0, .slice none 0 0, .slice none 0 0] 35 (0, 0)
theorem OwnB.lower {w : World} {b0 b1 : Nat} {v : Value} {l : List Int} (h : OwnB w b1 v l) (hb : b0 ≤ b1) : OwnB w b0 v l := by
  rcases h with ⟨h1, h2 | ⟨g, cap, cur, h3, h4, h5⟩⟩
  · exact ⟨h1, .inl h2⟩
  · exact ⟨h1, .inr ⟨g, cap, cur, h3, Nat.le_trans hb h4, h5⟩⟩
theorem own_form {w : World} {base : Nat} {v : Value} {l : List Int} (h : OwnB w base v l) : ∃ A c, v = .slice A l.length c := by
  obtain ⟨A, c, e, -⟩ := own_slice h
  exact ⟨A, c, e⟩
structure MkI (w : World) (b8 : Nat) (ty : Int) (D : List Int) (W : World) : Prop where
  bel : Below w.heap.size w W
  z : W.heap[w.heap.size]? = some chZ
  c : ∃ v, W.heap[b8]? = some (.cells #[.int .u8 ty, .int .u8 0, v, .slice none 0 0] 35 (0, 0)) ∧ OwnB W w.heap.size v D
  b : w.heap.size < b8
theorem MkI.start {w w1 : World} {A1 : Option Addr} {c1 : Nat} {l : List Int} (hz : w1.heap[w.heap.size]? = some chZ) (ho : OwnB w1 w.heap.size (.slice A1 l.length c1) l) (hb : Below w.heap.size w w1) (ty : Int) :
    MkI w w1.heap.size ty (l ++ []) (w1.alloc (.cells #[.int .u8 ty, .int .u8 0, .slice A1 l.length c1, .slice none 0 0] 35)) :=
  ⟨below_alloc hb _, blk_alloc hz, ⟨_, blk_new _ _, by rw [List.append_nil]; exact World.ownsRow.alloc ho _⟩, (Array.getElem?_eq_some_iff.1 hz).1⟩
theorem own_kept {w w' : World} {base : Nat} {v : Value} {l : List Int} (h : OwnB w base v l) (hb : Below w.heap.size w w') : OwnB w' base v l :=
  World.ownsRow.kept h (grown_of hb none) (by
    cases hv : v.ownBlock with
    | none => exact .inl rfl
    | some k => exact .inr (by simp))
theorem MkI.step {w W W' : World} {b8 : Nat} {ty : Int} {D : List Int} (h : MkI w b8 ty D W) (hb : Below W.heap.size W W') : MkI w b8 ty D W' := by
  obtain ⟨v, hc, ho⟩ := h.c
  exact ⟨cthen h.bel hb, blk_below h.z hb, ⟨v, blk_below hc hb, own_kept ho hb⟩, h.b⟩
theorem bad_not {l : List Sk} {i : Nat} {s : Sk} {inter : Bool} {p : Prop} (h : i < l.length) (hs : l.getD i skZ = s) (hb : skBad inter s = true) : ¬ (l.any (skBad inter) = false ∧ p) := by
  rintro ⟨h1, -⟩
  rw [List.any_eq_false] at h1
  refine h1 s ?_ hb
  rw [← hs, List.getD_eq_getElem?_getD, List.getElem?_eq_getElem h]
  exact List.getElem_mem h
theorem take_step {l : List Sk} {i : Nat} {s : Sk} (h : i < l.length) (hs : l.getD i skZ = s) : l.take (i + 1) = l.take i ++ [s] := by
  rw [List.take_add_one, List.getElem?_eq_getElem h]
  rw [List.getD_eq_getElem?_getD, List.getElem?_eq_getElem h] at hs
  rw [← hs]; rfl
theorem any_step {l : List Sk} {i : Nat} {s : Sk} {inter : Bool} (h : i < l.length) (hs : l.getD i skZ = s) (hn : (l.take i).any (skBad inter) = false) (hb : skBad inter s = false) : (l.take (i + 1)).any (skBad inter) = false := by
  rw [take_step h hs, List.any_append, hn]
  simp [hb]
theorem mkD_step {l : List Sk} {i : Nat} {s : Sk} {inter : Bool} {x : Int} (h : i < l.length) (hs : l.getD i skZ = s) : mkD inter x (l.take (i + 1)) = mkD inter x (l.take i) ++ skB inter s := by
  unfold mkD
  rw [take_step h hs, List.flatMap_append, List.append_assoc]
  simp
theorem own_apart {w : World} {base : Nat} {v : Value} {l : List Int} {b : Nat} {cs : Array Value} (h : OwnB w base v l) (hb : w.heap[b]? = some (.cells cs 35 (0, 0))) : some b ≠ v.ownBlock := by
  rcases h with ⟨-, ⟨rfl, -⟩ | ⟨g, cap, cur, rfl, -, h4, -⟩⟩
  · simp [Value.ownBlock]
  · intro e
    simp only [Value.ownBlock, Option.some.injEq] at e
    subst e
    rw [hb] at h4
    simp at h4
theorem skB_len (inter : Bool) (s : Sk) : (skB inter s).length = if inter = true then 8 else 4 := by
  unfold skB
  cases inter <;> simp [b2, b4]
theorem mkD_len (inter : Bool) (x : Int) (l : List Sk) : (mkD inter x l).length = 4 + (if inter = true then 8 else 4) * l.length := by
  unfold mkD
  rw [List.length_append, List.length_flatMap]
  simp only [skB_len]
  rw [List.map_const', List.sum_replicate_nat]
  simp only [b4, List.length_cons, List.length_nil]
  rw [Nat.mul_comm]
theorem own_join {w : World} {base n : Nat} {v : Value} {l x : List Int} (h : w.ownsRow base 5 1 v n (l.map (Value.int .u8) ++ x.map (Value.int .u8))) : OwnB w base v (l ++ x) := by
  have hn : n = (l ++ x).length := by have := h.1; simp at this; simp; omega
  unfold OwnB
  rw [← hn, List.map_append]
  exact h
theorem MkI.after {w W W' : World} {b8 : Nat} {ty : Int} {D : List Int} {v : Value} (h : MkI w b8 ty D W) (hc : W.heap[b8]? = some (.cells #[.int .u8 ty, .int .u8 0, v, .slice none 0 0] 35 (0, 0))) (ho : OwnB W w.heap.size v D)
    (hg : W.grownBy W' v.ownBlock) : W'.heap[b8]? = some (.cells #[.int .u8 ty, .int .u8 0, v, .slice none 0 0] 35 (0, 0)) :=
  (hg.block b8 (Array.getElem?_eq_some_iff.1 hc).1 (own_apart ho hc)).trans hc
theorem E192_len (n : Nat) : codeOnly (E192 0 n 0) = if fits (kR 20).least (kR 20).most (kR 20).unit n = true then none else some (7, none) := by
  unfold E192 dataE
  have h1 : flagsE 0 0 = none := by decide
  rw [h1]
  by_cases h : fits (kR 20).least (kR 20).most (kR 20).unit n = true
  · rw [if_pos h, if_pos h]; rfl
  · rw [if_neg h, if_neg h]; rfl
theorem fits_20 {n k : Nat} (h : n = 4 + 4 * k) : fits (kR 20).least (kR 20).most (kR 20).unit n = true ↔ n ≤ 65531 := by
  have e : fits (kR 20).least (kR 20).most (kR 20).unit n = (decide ((n : Int) ≥ 4) && decide ((n : Int) ≤ 65531) && (((n : Int) - 4) % 4 == 0)) := rfl
  rw [e]
  simp
  omega
theorem fits_22i {n k : Nat} (h : n = 4 + 8 * k) : fits (kR 22).least (kR 22).most (kR 22).unit n = true ↔ n ≤ 65531 := by
  have e : fits (kR 22).least (kR 22).most (kR 22).unit n = (decide ((n : Int) ≥ 4) && decide ((n : Int) ≤ 65531) && (((n : Int) - 4) % 8 == 0)) := rfl
  rw [e]
  simp
  omega
/-- The chunk's bytes grow. -/
theorem MkI.grow {w W W' : World} {b8 : Nat} {ty : Int} {D D' : List Int} {v v' : Value} (h : MkI w b8 ty D W) (hc : W.heap[b8]? = some (.cells #[.int .u8 ty, .int .u8 0, v, .slice none 0 0] 35 (0, 0))) (ho : OwnB W w.heap.size v D)
    (hg : W.grownBy W' v.ownBlock) (ho' : OwnB W' w.heap.size v' D') : MkI w b8 ty D' (W'.setCell ⟨b8, 2, none⟩ v') := by
  have hb8 : W'.heap[b8]? = some (.cells #[.int .u8 ty, .int .u8 0, v, .slice none 0 0] 35 (0, 0)) := (hg.block b8 (Array.getElem?_eq_some_iff.1 hc).1 (own_apart ho hc)).trans hc
  have hz : W'.heap[w.heap.size]? = some chZ := (hg.block _ (Array.getElem?_eq_some_iff.1 h.z).1 (own_apart ho h.z)).trans h.z
  have B1 : Below w.heap.size w W' := h.bel.grown hg h.bel.size (fun k hk => (World.ownsRow.lt ho k hk).1)
  refine ⟨below_set B1 (by have := h.b; omega) v', ?_, ⟨v', ?_, ownsRow_setCell_other ho' (fun e => own_apart ho' hb8 e.symm) v'⟩, h.b⟩
  · rw [Below.heap_setCell _ _ _ _ (by have := h.b; show w.heap.size ≠ b8; omega)]
    exact hz
  · simp [World.setCell, hb8, Array.getElem?_modify]
/-- What 'Make' gives. -/
def MkPost (inter : Bool) (x : Int) (l : List Sk) (w : World) (e : Ending) (w' : World) : Prop :=
  Below w.heap.size w w' ∧ ((l.any (skBad inter) = false ∧ (mkD inter x l).length ≤ 65531 ∧ ∃ v, e = .returned (.tuple #[.agg #[.int .u8 (mkT inter), .int .u8 0, v, .slice none 0 0], .bool true]) ∧ OwnB w' w.heap.size v (mkD inter x l)) ∨
    (¬ (l.any (skBad inter) = false ∧ (mkD inter x l).length ≤ 65531) ∧ e = .returned (.tuple #[.agg #[.int .u8 0, .int .u8 0, .slice none 0 0, .slice none 0 0], .bool false])))
set_option maxRecDepth 100000 in
set_option maxHeartbeats 8000000 in
theorem make_false (x : Int) (A : Option Addr) (c : Nat) (l : List Sk) (w : World) (hg : GTab w) (hS : SkC w A l) (hok : ∀ s ∈ l, s.ok) (hc : l.length ≤ c) (hl : l.length ≤ 1000000) :
    Calls Tryz.prog 17 #[.bool false, .int .u32 x, .slice A l.length c] w (MkPost false x l w) := by
  have HS := hid hS
  have HG := hid hg
  have HO := hid hok
  have HL := hid hl
  clear hS hg hok hc hl
  go_enter Tryz.func17, Tryz.ntmps17
  go_wp2_with fail
  have hP := put4_any (w.heap.size + 1) x ((w.alloc chZ).alloc (.cells #[.int .u32 x] 23)) (by
    have := blk_new (w.alloc chZ) (.cells #[.int .u32 x] 23)
    rwa [World.size_alloc] at this)
  unfold chZ at hP
  refine hP.mono ?_
  rintro e w1 ⟨v, rfl, hO, hb⟩
  have HZ := hid (blk_below (blk_alloc (blk_new w chZ)) hb)
  obtain ⟨A1, c1, rfl⟩ := own_form hO
  have HO1 := hid (OwnB.lower (b0 := w.heap.size) hO (by rw [World.size_alloc, World.size_alloc]; omega))
  have HB := hid (cthen (below_alloc (below_alloc (Below.refl _ _) _) _) hb)
  clear hO hb hP
  go_wp2_with fail
  have HI := hid (MkI.start HZ.out HO1.out HB.out 192)
  clear HZ HO1
  go_loopw [20] (fun iv W => ∃ i : Nat, iv = .int .i64 i ∧ i ≤ l.length ∧ Hid ((l.take i).any (skBad false) = false) ∧ Hid (MkI w w1.heap.size 192 (mkD false x (l.take i)) W)) (fun iv _ => l.length - (intOf iv).toNat)
  case atStart => exact ⟨0, rfl, by omega, hid rfl, HI⟩
  case round =>
    obtain ⟨i, rfl, hi, hn, hI⟩ := hrel
    clear HI HB
    by_cases hlt : i < l.length
    · have hs : (l.getD i skZ).ok := HO.out _ (by rw [List.getD_eq_getElem?_getD, List.getElem?_eq_getElem hlt]; exact List.getElem_mem hlt)
      rcases HS.out.below hI.out.bel with h | ⟨b, off, rfl, hc⟩
      · rw [h] at hlt; exact absurd hlt (by simp)
      · obtain ⟨k0, k1, k2⟩ := hc i hlt
        clear hc
        obtain ⟨s, hsd⟩ : ∃ s, l.getD i skZ = s := ⟨_, rfl⟩
        rw [hsd] at hs k0 k1 k2
        have HSD := hid hsd
        clear hsd
        obtain ⟨s0, s1, s2, s3⟩ := hs
        obtain ⟨v, hc8, hO⟩ := hI.out.c
        obtain ⟨A2, c2, rfl⟩ := own_form hO
        have HO2 := hid hO
        have HC8 := hid hc8
        clear hc8 hO
        have hP := put2_any (wr.heap.size + 1) s.st s.sq ((wr.alloc (.cells s.cells.toArray 28)).alloc (.cells #[.int .u32 s.st, .int .u32 s.sq] 23)) (by
          have := blk_new (wr.alloc (.cells s.cells.toArray 28)) (.cells #[.int .u32 s.st, .int .u32 s.sq] 23)
          rwa [World.size_alloc] at this)
        have H10 := hid (blk_alloc (x := .cells #[.int .u32 s.st, .int .u32 s.sq] 23) (blk_new wr (.cells s.cells.toArray 28)))
        go_wp2_with fail
        refine hP.mono ?_
        rintro e w2 ⟨v, rfl, hO, hb⟩
        have HB2 := hid (below_alloc (below_alloc (Below.refl wr.heap.size wr) (.cells s.cells.toArray 28)) (.cells #[.int .u32 s.st, .int .u32 s.sq] 23) |>.trans (hb.mono (by rw [World.size_alloc, World.size_alloc]; omega)))
        have HI2 := hid (hI.out.step HB2.out)
        have H12 := hid (blk_below H10.out hb)
        obtain ⟨A3, c3, rfl, hl3, hr3, -⟩ := own_slice hO
        obtain ⟨a3, rfl, hn3⟩ := hr3.some_of (by simp [b2])
        have HN3 := hid hn3
        have HL3 := hid hl3
        clear hn3
        clear hP hO hb hr3 hl3 H10 HC8 HO2 k0 k1 k2
        obtain ⟨⟨k0, k1, k2⟩, -⟩ := three H12.out
        obtain ⟨v, hc8, hO⟩ := HI2.out.c
        obtain ⟨A2, c2, rfl⟩ := own_form hO
        have HO2 := hid hO
        obtain ⟨⟨d0, d1, d2, d3⟩, ⟨e0, e1, e2, e3⟩⟩ := four hc8
        have hz := HI2.out.z
        unfold chZ at hz
        obtain ⟨⟨z0, z1, z2, z3⟩, ⟨y0, y1, y2, y3⟩⟩ := four hz
        clear hO hz
        by_cases hu : s.un = true
        · have HBad := hid (bad_not (inter := false) (p := (mkD false x l).length ≤ 65531) hlt HSD.out (by simp [skBad, hu]))
          go_wp2_with fail
          refine bodyPost_ret (v := .tuple #[.agg #[.int .u8 0, .int .u8 0, .slice none 0 0, .slice none 0 0], .bool false]) (by simp [results, Tryz.results17, go_sem, z0, z1, z2, z3]) rfl ?_
          exact ⟨below_set (below_set (below_set (below_set HI2.out.bel (Nat.le_refl _) _) (Nat.le_refl _) _) (Nat.le_refl _) _) (Nat.le_refl _) _, .inr ⟨HBad.out, rfl⟩⟩
        · by_cases hq : s.sq > 65535
          · have HBad := hid (bad_not (inter := false) (p := (mkD false x l).length ≤ 65531) hlt HSD.out (by simp [skBad, hq]))
            go_wp2_with fail
            refine bodyPost_ret (v := .tuple #[.agg #[.int .u8 0, .int .u8 0, .slice none 0 0, .slice none 0 0], .bool false]) (by simp [results, Tryz.results17, go_sem, z0, z1, z2, z3]) rfl ?_
            exact ⟨below_set (below_set (below_set (below_set HI2.out.bel (Nat.le_refl _) _) (Nat.le_refl _) _) (Nat.le_refl _) _) (Nat.le_refl _) _, .inr ⟨HBad.out, rfl⟩⟩
          · have HGd := hid (any_step hlt HSD.out hn.out (show skBad false s = false by simp [skBad, hu, hq]))
            obtain ⟨i0, hi0, hz0, hz1, hz2⟩ := info_parts infoB
            have hD := mkD_len false x (l.take i)
            have hDl : (l.take i).length ≤ 1000000 := by rw [List.length_take]; exact Nat.le_trans (Nat.min_le_right _ _) HL.out
            have hlen : (mkD false x (l.take i)).length + ((b2 s.st).length + (b2 s.sq).length) ≤ 8000000 := by rw [hD]; simp only [b2, List.length_cons, List.length_nil, if_neg (by decide : ¬ false = true)]; omega
            have HLEN := hid hlen
            clear hlen hD hDl
            have HC8 := hid hc8
            clear hc8
            go_wp2_with (at_builtin; refine wpList_append_own _ rfl _ _ 32 rfl w.heap.size 5 i0 (.int .u8 0) 1 1 Tryz.underlying32 hi0 hz0 hz1 hz2 rfl (by decide) _ _ _ rfl HO2.out a3 _ c3 ((b2 s.st ++ b2 s.sq).map (Value.int .u8)) rfl (by simp) HN3.out (by intro u hu; obtain ⟨_, _, rfl⟩ := List.mem_map.1 hu; rfl) (by have := HLEN.out; unfold maxLen; omega) (by have := HLEN.out; omega) HI2.out.bel.size ?_; intro v' w3 hown' hgrow _; have HO4 := own_join hown'; obtain ⟨A4, c4, rfl⟩ := own_form HO4; have HI4 := hid (HI2.out.grow HC8.out HO2.out hgrow HO4); obtain ⟨⟨f0, f1, f2, f3⟩, ⟨g0, g1, g2, g3⟩⟩ := four (HI2.out.after HC8.out HO2.out hgrow); clear hown' hgrow HO4)
            have hl' := HL.out
            have hw : wrap64 ((i : Int) + 1) = ((i + 1 : Nat) : Int) := by unfold wrap64; omega
            refine ⟨⟨i + 1, by rw [hw], by omega, HGd, hid ?_⟩, by rw [hw]; simp [intOf]; omega⟩
            have hB : skB false s = b2 s.st ++ b2 s.sq := by simp [skB]
            rw [mkD_step hlt HSD.out, hB]
            have hfin := HI4.out
            simp only [List.length_append] at hfin ⊢
            exact hfin
    · obtain ⟨v, hc8, hO⟩ := hI.out.c
      obtain ⟨A2, c2, hA2, hlc, hBC, -⟩ := own_slice hO
      subst hA2
      obtain rfl : i = l.length := by omega
      obtain ⟨⟨d0, d1, d2, d3⟩, -⟩ := four hc8
      have hD := mkD_len false x l
      have hl' := HL.out
      have hlen : (mkD false x l).length ≤ 1099511627776 := by rw [hD]; simp only [if_neg (by decide : ¬ false = true)]; omega
      have hE : codeOnly (E192 0 (mkD false x l).length 0) = if (mkD false x l).length ≤ 65531 then none else some (7, none) := by
        have h20 := fits_20 (n := (mkD false x l).length) (k := l.length) (by rw [hD]; simp only [if_neg (by decide : ¬ false = true)])
        rw [E192_len]
        by_cases h : (mkD false x l).length ≤ 65531
        · rw [if_pos (h20.2 h), if_pos h]
        · rw [if_neg (fun e => h (h20.1 e)), if_neg h]
      have hck := check_192 0 A2 none (mkD false x l).length c2 0 0 wr (HG.out.below hI.out.bel) hlen (by omega)
      unfold ckV ErrPost at hck
      have HCK := hid hck
      have hnn := hn.out
      rw [List.take_length] at hnn
      have hOO := hO
      rw [List.take_length] at hOO
      have HOO := hid hOO
      have HNN := hid hnn
      have HC8 := hid hc8
      have HD := hid hD
      clear hck hD hlen hnn hO hOO hc8 hlc hBC
      rw [hE] at HCK
      clear hE
      by_cases hsz : (mkD false x l).length ≤ 65531
      · rw [if_pos hsz] at HCK
        have HSZ := hid hsz
        have hck := HCK.out
        simp only [eV] at hck
        clear hsz HCK
        go_wp2_with fail
        refine hck.mono ?_
        rintro e w4 ⟨rfl, hb⟩
        have HI5 := hid (hI.out.step hb)
        have HC9 := hid (blk_below HC8.out hb)
        have HO9 := hid (own_kept HOO.out hb)
        obtain ⟨⟨d0, d1, d2, d3⟩, -⟩ := four HC9.out
        have hz := HI5.out.z
        unfold chZ at hz
        obtain ⟨⟨z0, z1, z2, z3⟩, ⟨y0, y1, y2, y3⟩⟩ := four hz
        clear hz hb hck
        go_wp2_with fail
        refine bodyPost_ret (v := .tuple #[.agg #[.int .u8 192, .int .u8 0, .slice A2 (mkD false x l).length c2, .slice none 0 0], .bool true]) (by simp [results, Tryz.results17, go_sem, z0, z1, z2, z3]) rfl ?_
        refine ⟨below_set (below_set (below_set (below_set HI5.out.bel (Nat.le_refl _) _) (Nat.le_refl _) _) (Nat.le_refl _) _) (Nat.le_refl _) _, .inl ⟨HNN.out, HSZ.out, _, rfl, ?_⟩⟩
        have hne := own_apart HO9.out HI5.out.z
        exact ownsRow_setCell_other (ownsRow_setCell_other (ownsRow_setCell_other (ownsRow_setCell_other HO9.out (Ne.symm hne) _) (Ne.symm hne) _) (Ne.symm hne) _) (Ne.symm hne) _
      · rw [if_neg hsz] at HCK
        have HSZ := hid hsz
        have hck := HCK.out
        simp only [eV] at hck
        clear hsz HCK
        go_wp2_with fail
        refine hck.mono ?_
        rintro e w4 ⟨rfl, hb⟩
        have HI5 := hid (hI.out.step hb)
        have hz := HI5.out.z
        unfold chZ at hz
        obtain ⟨⟨z0, z1, z2, z3⟩, ⟨y0, y1, y2, y3⟩⟩ := four hz
        clear hz hb hck
        go_wp2_with fail
        refine bodyPost_ret (v := .tuple #[.agg #[.int .u8 0, .int .u8 0, .slice none 0 0, .slice none 0 0], .bool false]) (by simp [results, Tryz.results17, go_sem, z0, z1, z2, z3]) rfl ?_
        exact ⟨below_set (below_set (below_set (below_set HI5.out.bel (Nat.le_refl _) _) (Nat.le_refl _) _) (Nat.le_refl _) _) (Nat.le_refl _) _, .inr ⟨fun h => HSZ.out h.2, rfl⟩⟩
end Go.Proofs.YtcjcgehhmjnlcaaGreatDoor
/- 'forward.Make' of the longer form. -/
set_option linter.unusedVariables false
set_option linter.unusedSimpArgs false
namespace Go.Proofs.YtcjcgehhmjnlcaaGreatDoor
open Go.RowKit Go.Shelf Go.Proofs.YtcjcgehhmjnlcaaGreatDoor.It Go.Proofs.YtcjcgehhmjnlcaaGreatDoorW.PrintWords Go.Proofs.YtcjcgehhmjnlcaaGreatDoorW.PrintLast Go.Proofs.YtcjcgehhmjnlcaaGreatDoorW.PrintMore PForwardMatchesReference

theorem byt_b2 (x : Int) : Byt (b2 x) := by
  intro y hy
  simp only [b2, List.mem_cons, List.not_mem_nil, or_false] at hy
  rcases hy with rfl | rfl <;> omega
theorem byt_b4 (x : Int) : Byt (b4 x) := by
  intro y hy
  simp only [b4, List.mem_cons, List.not_mem_nil, or_false] at hy
  rcases hy with rfl | rfl | rfl | rfl <;> omega
theorem Byt.app {l m : List Int} (h : Byt l) (k : Byt m) : Byt (l ++ m) := fun x hx => by
  rcases List.mem_append.1 hx with h1 | h1
  · exact h x h1
  · exact k x h1
theorem byt_skB (inter : Bool) (s : Sk) : Byt (skB inter s) := by
  unfold skB
  cases inter
  · exact (byt_b2 _).app (byt_b2 _)
  · exact ((byt_b2 _).app (byt_b2 _)).app (byt_b4 _)
theorem byt_mkD (inter : Bool) (x : Int) (l : List Sk) : Byt (mkD inter x l) := by
  refine (byt_b4 x).app fun y hy => ?_
  obtain ⟨s, _, h⟩ := List.mem_flatMap.1 hy
  exact byt_skB inter s y h
theorem flat_at (l : List Sk) (j i : Nat) (hj : j < l.length) (hi : i < 8) : (l.flatMap (skB true)).getD (8 * j + i) 0 = (skB true (l.getD j skZ)).getD i 0 := by
  induction l generalizing j with
  | nil => simp at hj
  | cons s l ih =>
    rw [List.flatMap_cons]
    have h8 : (skB true s).length = 8 := skB_len true s
    cases j with
    | zero =>
      rw [List.getD_eq_getElem?_getD, List.getElem?_append_left (by omega)]
      simp [List.getD_eq_getElem?_getD]
    | succ j =>
      rw [List.getD_eq_getElem?_getD, List.getElem?_append_right (by omega), h8]
      have := ih j (by simpa using hj)
      rw [List.getD_eq_getElem?_getD] at this
      rw [show 8 * (j + 1) + i - 8 = 8 * j + i by omega, this]
      rfl
theorem mkD_grp (x : Int) (l : List Sk) (j : Nat) (hj : j < l.length) : ¬ 1 < grp (mkD true x l) j := by
  have e : ∀ i, i < 8 → (mkD true x l).getD (4 + (8 * j + i)) 0 = (skB true (l.getD j skZ)).getD i 0 := fun i hi => by
    rw [← flat_at l j i hj hi]
    unfold mkD
    rw [List.getD_eq_getElem?_getD, List.getElem?_append_right (by simp [b4])]
    simp [b4, List.getD_eq_getElem?_getD]
  unfold grp numAt
  have e2 := e 2 (by omega)
  have e3 := e 3 (by omega)
  rw [show 4 + (8 * j + 2) = 6 + 8 * j by omega] at e2
  rw [show 4 + (8 * j + 3) = 6 + 8 * j + 1 by omega] at e3
  simp only [numAt]
  show ¬ 1 < (0 * 256 + (mkD true x l).getD (6 + 8 * j) 0) * 256 + (mkD true x l).getD (6 + 8 * j + 1) 0
  rw [e2, e3]
  obtain ⟨s, hs⟩ : ∃ s, l.getD j skZ = s := ⟨_, rfl⟩
  rw [hs]
  cases h : s.un <;> simp [skB, b2, b4, ofB, h]
theorem gb_none {l : List Int} {q : Nat} (h : ∀ j, j < q → ¬ 1 < grp l j) : gb l q = q := by
  unfold gb
  rw [List.find?_eq_none.2 (fun j hj => by simpa using h j (List.mem_range.1 hj))]
  rfl
theorem E194_len (x : Int) (l : List Sk) : codeOnly (E194 0 (mkD true x l) 0) = if (mkD true x l).length ≤ 65531 then none else some (7, none) := by
  have hD := mkD_len true x l
  simp only [if_pos rfl] at hD
  have h22 := fits_22i (n := (mkD true x l).length) (k := l.length) (by rw [hD]; simp)
  have hq : ((mkD true x l).length - 4) / 8 = l.length := by rw [hD]; simp
  have hv : valE (mkD true x l) = none := by
    unfold valE
    rw [hq, gb_none (fun j hj => mkD_grp x l j hj), if_neg (Nat.lt_irrefl _)]
  unfold E194 dataE
  have h1 : flagsE 0 0 = none := by decide
  rw [h1, hv]
  by_cases h : (mkD true x l).length ≤ 65531
  · rw [if_pos (h22.2 h), if_pos h]; rfl
  · rw [if_neg (fun e => h (h22.1 e)), if_neg h]; rfl
/-- A call's 'Below', by a word of its own. -/
def Blw (W W' : World) : Prop := Below W.heap.size W W'
abbrev S9 (w2 : World) (b : Nat) (s : Sk) (W : World) : Prop := Below w2.heap.size w2 W ∧ W.cell? ⟨b, 0, none⟩ = some (.int .u16 s.st) ∧ W.cell? ⟨b, 1, none⟩ = some (.bool s.un) ∧ W.cell? ⟨b, 2, none⟩ = some (.int .u32 s.sq)
theorem S9.blw {w2 W W' : World} {b : Nat} {s : Sk} (hb : Blw W W') (h : S9 w2 b s W) : S9 w2 b s W' :=
  ⟨cthen h.1 hb, (Below.cell hb (World.block_lt_of_cell? W _ h.2.1)).trans h.2.1, (Below.cell hb (World.block_lt_of_cell? W _ h.2.2.1)).trans h.2.2.1, (Below.cell hb (World.block_lt_of_cell? W _ h.2.2.2)).trans h.2.2.2⟩
theorem S9.alloc {w2 W : World} {b : Nat} {s : Sk} {o : Obj} (h : S9 w2 b s W) : S9 w2 b s (W.alloc o) := h.blw (below_alloc (Below.refl _ _) o)
theorem BC.blw {W W' : World} {A : Option Addr} {l : List Int} (hb : Blw W W') (h : BC W A l) : BC W' A l := h.below hb
theorem BC.alloc {W : World} {A : Option Addr} {l : List Int} {o : Obj} (h : BC W A l) : BC (W.alloc o) A l := h.below (below_alloc (Below.refl _ _) o)
theorem blk_blw {W W' : World} {b : Nat} {o : Obj} (hb : Blw W W') (h : W.heap[b]? = some o) : W'.heap[b]? = some o := blk_below h hb
theorem blk_new1 (w : World) (a o : Obj) : ((w.alloc a).alloc o).heap[w.heap.size + 1]? = some o := by
  have := blk_new (w.alloc a) o
  rwa [World.size_alloc] at this
theorem below_undrew {w W : World} (h : Below w.heap.size w W.drew) : Below w.heap.size w W := ⟨h.1, h.2, h.3, h.4, h.5⟩
theorem S9.allocd {w2 W : World} {b : Nat} {s : Sk} {o : Obj} (h : S9 w2 b s W.drew) : S9 w2 b s (W.alloc o).drew := by
  have h' : S9 w2 b s W := ⟨below_undrew h.1, h.2⟩
  have := S9.alloc (o := o) h'
  exact ⟨below_drew this.1 1, this.2⟩
theorem blk_newd (w : World) (o : Obj) : (w.alloc o).drew.heap[w.heap.size]? = some o := blk_new w o
theorem cell_new (w : World) (v0 v1 : Value) (e : Nat) : (w.alloc (.cells #[v0, v1] e (0, 0))).cell? ⟨w.heap.size, 0, none⟩ = some v0 ∧ (w.alloc (.cells #[v0, v1] e (0, 0))).cell? ⟨w.heap.size, 1, none⟩ = some v1 := (two (blk_new w (.cells #[v0, v1] e (0, 0)))).1
theorem bc_guard {W : World} {A : Option Addr} {p : Prop} (l : List Int) (h : BC W A l) (k : p) : p := k
/-- What 'Put' gives, in fours. -/
def Put4 (l : List Int) (w : World) (e : Ending) (w' : World) : Prop := ∃ A c, e = .returned (.slice A 4 c) ∧ BC w' A l ∧ Blw w w'
theorem put4_lit (b : Nat) (x : Int) (w : World) (h : w.heap[b]? = some (.cells #[.int .u32 x] 23 (0, 0))) :
    Calls Tryz.prog 50 #[.int .i64 4, .slice (some ⟨b, 0, none⟩) 1 1] w (Put4 (b4 x) w) :=
  (put4_any b x w h).mono (by
    rintro e w' ⟨v, rfl, hO, hb⟩
    obtain ⟨A, c, rfl, -, hr, -⟩ := own_slice hO
    exact ⟨A, c, rfl, hr, hb⟩)
theorem put2_lit (b : Nat) (x y : Int) (w : World) (h : w.heap[b]? = some (.cells #[.int .u32 x, .int .u32 y] 23 (0, 0))) :
    Calls Tryz.prog 50 #[.int .i64 2, .slice (some ⟨b, 0, none⟩) 2 2] w (Put4 (b2 x ++ b2 y) w) :=
  (put2_any b x y w h).mono (by
    rintro e w' ⟨v, rfl, hO, hb⟩
    obtain ⟨A, c, rfl, -, hr, -⟩ := own_slice hO
    exact ⟨A, c, rfl, hr, hb⟩)
def JoinP (l : List Int) (w : World) (e : Ending) (w' : World) : Prop := ∃ A c, e = .returned (.slice A l.length c) ∧ OwnB w' w.heap.size (.slice A l.length c) l ∧ Blw w w'
theorem join_lit (A1 A2 : Option Addr) (c1 c2 : Nat) (l1 l2 : List Int) (w : World) (h1 : l1.length = 4) (h2 : l2.length = 4) (r1 : BC w A1 l1) (r2 : BC w A2 l2) (e : Nat) :
    Calls Tryz.prog 51 #[.slice (some ⟨w.heap.size, 0, none⟩) 2 2] (w.alloc (.cells #[.slice A1 4 c1, .slice A2 4 c2] e)) (JoinP (l1 ++ l2) (w.alloc (.cells #[.slice A1 4 c1, .slice A2 4 c2] e))) :=
  (join_two w.heap.size A1 A2 c1 c2 l1 l2 _ (cell_new _ _ _ _).1 (cell_new _ _ _ _).2 h1 h2 r1.alloc r2.alloc).mono (by
    rintro e w' ⟨v, rfl, hO, hb⟩
    obtain ⟨A, c, rfl⟩ := own_form hO
    exact ⟨A, c, rfl, hO, hb⟩)
def Region9 (w2 : World) (l : List Int) (v : Value) (W : World) : Prop := (∃ A c, v = .slice A l.length c) ∧ OwnB W w2.heap.size v l ∧ Below w2.heap.size w2 W
theorem region9_end {w2 W0 W : World} {b i : Nat} {s : Sk} {A : Option Addr} {c n : Nat} {l : List Int} (hr : OwnB W W0.heap.size (.slice A l.length c) l) (h0 : w2.heap.size ≤ W0.heap.size) (h1 : S9 w2 b s W) (hl : l = skB true s) (hn : n = l.length) :
    Value.int IntKind.i64 i = .int .i64 i ∧ Hid (Region9 w2 (skB true s) (.slice A n c) W) := by
  subst hl hn
  exact ⟨rfl, hid ⟨⟨A, c, rfl⟩, hr.lower h0, h1.1⟩⟩
theorem s9_size {w2 W0 W : World} {b : Nat} {s : Sk} (hb : Blw W0 W) (h : S9 w2 b s W0) : w2.heap.size ≤ W0.heap.size := h.1.size
theorem some_of' {w : World} {A : Option Addr} {l : List Int} (h : BC w A l) (hl : 0 < l.length) : ∃ ad, A = some ad ∧ ∀ j u, (l.map (Value.int .u8))[j]? = some u → w.cell? (ad.add j) = some u := by
  obtain ⟨ad, rfl, _⟩ := h.2.2 hl
  exact ⟨ad, rfl, news_of h⟩
theorem wrap_st {s : Int} (h0 : 0 ≤ s) (h1 : s ≤ 65535) : IntKind.u32.wrap s = s := by
  have : IntKind.u32.wrap s = s % 4294967296 := rfl
  rw [this]
  omega
end Go.Proofs.YtcjcgehhmjnlcaaGreatDoor
/- 'forward.Make' of the longer form: the walk. -/
set_option linter.unusedVariables false
set_option linter.unusedSimpArgs false
namespace Go.Proofs.YtcjcgehhmjnlcaaGreatDoor
open Go.RowKit Go.Shelf Go.Proofs.YtcjcgehhmjnlcaaGreatDoor.It Go.Proofs.YtcjcgehhmjnlcaaGreatDoorW.PrintWords Go.Proofs.YtcjcgehhmjnlcaaGreatDoorW.PrintLast Go.Proofs.YtcjcgehhmjnlcaaGreatDoorW.PrintMore PForwardMatchesReference
set_option maxRecDepth 100000 in
set_option maxHeartbeats 8000000 in
theorem make_true (x : Int) (A : Option Addr) (c : Nat) (l : List Sk) (w : World) (hg : GTab w) (hS : SkC w A l) (hok : ∀ s ∈ l, s.ok) (hc : l.length ≤ c) (hl : l.length ≤ 1000000) :
    Calls Tryz.prog 17 #[.bool true, .int .u32 x, .slice A l.length c] w (MkPost true x l w) := by
  have HS := hid hS
  have HG := hid hg
  have HO := hid hok
  have HL := hid hl
  clear hS hg hok hc hl
  go_enter Tryz.func17, Tryz.ntmps17
  go_wp2_with fail
  have hP := put4_any (w.heap.size + 1) x ((w.alloc chZ).alloc (.cells #[.int .u32 x] 23)) (by
    have := blk_new (w.alloc chZ) (.cells #[.int .u32 x] 23)
    rwa [World.size_alloc] at this)
  unfold chZ at hP
  refine hP.mono ?_
  rintro e w1 ⟨v, rfl, hO, hb⟩
  have HZ := hid (blk_below (blk_alloc (blk_new w chZ)) hb)
  obtain ⟨A1, c1, rfl⟩ := own_form hO
  have HO1 := hid (OwnB.lower (b0 := w.heap.size) hO (by rw [World.size_alloc, World.size_alloc]; omega))
  have HB := hid (cthen (below_alloc (below_alloc (Below.refl _ _) _) _) hb)
  clear hO hb hP
  go_wp2_with fail
  have HI := hid (MkI.start HZ.out HO1.out HB.out 194)
  clear HZ HO1
  go_loopw [20] (fun iv W => ∃ i : Nat, iv = .int .i64 i ∧ i ≤ l.length ∧ Hid ((l.take i).any (skBad true) = false) ∧ Hid (MkI w w1.heap.size 194 (mkD true x (l.take i)) W)) (fun iv _ => l.length - (intOf iv).toNat)
  case atStart => exact ⟨0, rfl, by omega, hid rfl, HI⟩
  case round =>
    obtain ⟨i, rfl, hi, hn, hI⟩ := hrel
    clear HI HB
    by_cases hlt : i < l.length
    · have hs : (l.getD i skZ).ok := HO.out _ (by rw [List.getD_eq_getElem?_getD, List.getElem?_eq_getElem hlt]; exact List.getElem_mem hlt)
      rcases HS.out.below hI.out.bel with h | ⟨b, off, rfl, hc⟩
      · rw [h] at hlt; exact absurd hlt (by simp)
      · obtain ⟨k0, k1, k2⟩ := hc i hlt
        clear hc
        obtain ⟨s, hsd⟩ : ∃ s, l.getD i skZ = s := ⟨_, rfl⟩
        rw [hsd] at hs k0 k1 k2
        have HSD := hid hsd
        clear hsd
        obtain ⟨s0, s1, s2, s3⟩ := hs
        obtain ⟨v, hc8, hO⟩ := hI.out.c
        obtain ⟨A2, c2, rfl⟩ := own_form hO
        have HO2 := hid hO
        have HC8 := hid hc8
        clear hc8 hO
        have hP := put2_any (wr.heap.size + 1) s.st s.sq ((wr.alloc (.cells s.cells.toArray 28)).alloc (.cells #[.int .u32 s.st, .int .u32 s.sq] 23)) (by
          have := blk_new (wr.alloc (.cells s.cells.toArray 28)) (.cells #[.int .u32 s.st, .int .u32 s.sq] 23)
          rwa [World.size_alloc] at this)
        have H10 := hid (blk_alloc (x := .cells #[.int .u32 s.st, .int .u32 s.sq] 23) (blk_new wr (.cells s.cells.toArray 28)))
        go_wp2_with fail
        refine hP.mono ?_
        rintro e w2 ⟨v, rfl, hO, hb⟩
        have HB2 := hid (below_alloc (below_alloc (Below.refl wr.heap.size wr) (.cells s.cells.toArray 28)) (.cells #[.int .u32 s.st, .int .u32 s.sq] 23) |>.trans (hb.mono (by rw [World.size_alloc, World.size_alloc]; omega)))
        have HI2 := hid (hI.out.step HB2.out)
        have H12 := hid (blk_below H10.out hb)
        obtain ⟨A3, c3, rfl, hl3, hr3, -⟩ := own_slice hO
        obtain ⟨a3, rfl, hn3⟩ := hr3.some_of (by simp [b2])
        have HN3 := hid hn3
        have HL3 := hid hl3
        clear hn3
        clear hP hO hb hr3 hl3 H10 HC8 HO2 k0 k1 k2
        obtain ⟨⟨k0, k1, k2⟩, -⟩ := three H12.out
        obtain ⟨v, hc8, hO⟩ := HI2.out.c
        obtain ⟨A2, c2, rfl⟩ := own_form hO
        have HO2 := hid hO
        obtain ⟨⟨d0, d1, d2, d3⟩, ⟨e0, e1, e2, e3⟩⟩ := four hc8
        have hz := HI2.out.z
        unfold chZ at hz
        obtain ⟨⟨z0, z1, z2, z3⟩, ⟨y0, y1, y2, y3⟩⟩ := four hz
        clear hO hz
        clear HN3 HL3
        have HC8 := hid hc8
        have HN := hn
        clear hc8 y0 y1 y2 y3 z0 z1 z2 z3 d0 d1 d2 d3 e0 e1 e2 e3 hn hI
        go_upto_region 9 with fail
        go_cut [11, 20] from 20 to 63 (fun v11 v20 wx => v20 = .int .i64 i ∧ Hid (Region9 w2 (skB true s) v11 wx))
        case first =>
          have hwst := hid (wrap_st s0 s1)
          have hS9 : S9 w2 wr.heap.size s w2.drew := ⟨below_drew (Below.refl _ _) 1, k0, k1, k2⟩
          clear k0 k1 k2
          unfold S9 at hS9
          go_region_held3 (fun W => Below w2.heap.size w2 W ∧ W.cell? ⟨wr.heap.size, 0, none⟩ = some (.int .u16 s.st) ∧ W.cell? ⟨wr.heap.size, 1, none⟩ = some (.bool s.un) ∧ W.cell? ⟨wr.heap.size, 2, none⟩ = some (.int .u32 s.sq))
            (first | with_reducible assumption | (refine S9.alloc ?_; with_reducible assumption) | (refine S9.allocd ?_; with_reducible assumption) | (refine S9.blw (by with_reducible assumption) ?_; with_reducible assumption))
            (first
              | (go_at_call 49; refine Calls.mono (bit_any _ _) ?_; rintro e W ⟨rfl, hb⟩; have hB : Blw _ W := hb; clear hb)
              | (go_at_call 50; refine bc_guard (b2 (IntKind.u32.wrap s.st) ++ b2 (ofB s.un)) (by with_reducible assumption) ?_;  refine Calls.mono (put4_lit _ _ _ (by with_reducible (repeat (first | exact blk_new _ _ | exact blk_new1 _ _ _ | exact blk_newd _ _ | refine blk_blw (by assumption) ?_ | refine blk_alloc ?_)))) ?_; rintro e W ⟨A9, c9, rfl, hr, hb⟩)
              | (go_at_call 50; refine Calls.mono (put2_lit _ _ _ _ (by with_reducible (repeat (first | exact blk_new _ _ | exact blk_new1 _ _ _ | exact blk_newd _ _ | refine blk_blw (by assumption) ?_ | refine blk_alloc ?_)))) ?_; rintro e W ⟨A8, c8, rfl, hr, hb⟩)
              | (go_at_call 51; refine Calls.mono (join_lit _ _ _ _ (b2 (IntKind.u32.wrap s.st) ++ b2 (ofB s.un)) (b4 s.sq) _ rfl rfl (by with_reducible (first | (refine BC.blw (by assumption) ?_; first | assumption | (refine BC.alloc ?_; assumption)))) (by with_reducible assumption) _) ?_; rintro e W ⟨A9, c9, rfl, hr, hb⟩; have hzz := s9_size (b := wr.heap.size) (s := s) (w2 := w2) hb (by with_reducible assumption)))
          all_goals
            go_wp2_with fail
            go_meet
            exact region9_end (b := wr.heap.size) hr hzz (by with_reducible assumption) (by rw [hwst.out]; rfl) rfl
        case rest =>
          obtain ⟨rfl, hcut⟩ := hcut
          have HI3 := hid (HI2.out.step hcut.out.2.2)
          have HO3 := hid hcut.out.2.1
          obtain ⟨⟨A3, c3, rfl⟩, -, -⟩ := hcut.out
          clear hcut HI2
          have HI2 := HI3
          clear HI3
          have HGd := hid (any_step hlt HSD.out HN.out (show skBad true s = false by simp [skBad]))
          obtain ⟨v, hc8, hO⟩ := HI2.out.c
          obtain ⟨A2, c2, rfl⟩ := own_form hO
          have HO2 := hid hO
          obtain ⟨⟨d0, d1, d2, d3⟩, ⟨e0, e1, e2, e3⟩⟩ := four hc8
          have hz := HI2.out.z
          unfold chZ at hz
          obtain ⟨⟨z0, z1, z2, z3⟩, ⟨y0, y1, y2, y3⟩⟩ := four hz
          clear hO hz
          obtain ⟨A3', c3', e3', hl3, hr3, -⟩ := own_slice HO3.out
          cases e3'
          obtain ⟨a3, rfl, hn3⟩ := some_of' hr3 (by rw [skB_len]; decide)
          have HN3 := hid hn3
          clear hn3 hr3 hl3
          obtain ⟨i0, hi0, hz0, hz1, hz2⟩ := info_parts infoB
          have hD : (mkD true x (l.take i)).length = 4 + 8 * (l.take i).length := mkD_len true x (l.take i)
          have hDl : (l.take i).length ≤ 1000000 := by rw [List.length_take]; exact Nat.le_trans (Nat.min_le_right _ _) HL.out
          have hlen : (mkD true x (l.take i)).length + (skB true s).length ≤ 16000000 := by rw [hD, show (skB true s).length = 8 from skB_len true s]; omega
          have HLEN := hid hlen
          clear hlen hD hDl
          have HC8 := hid hc8
          clear hc8
          go_wp2_with (at_builtin; refine wpList_append_own _ rfl _ _ 32 rfl w.heap.size 5 i0 (.int .u8 0) 1 1 Tryz.underlying32 hi0 hz0 hz1 hz2 rfl (by decide) _ _ _ rfl HO2.out a3 _ c3 ((skB true s).map (Value.int .u8)) rfl (by simp) HN3.out (by intro u hu; obtain ⟨_, _, rfl⟩ := List.mem_map.1 hu; rfl) (by have := HLEN.out; unfold maxLen; omega) (by have := HLEN.out; omega) HI2.out.bel.size ?_; intro v' w3 hown' hgrow _; have HO4 := own_join hown'; obtain ⟨A4, c4, rfl⟩ := own_form HO4; have HI4 := hid (HI2.out.grow HC8.out HO2.out hgrow HO4); obtain ⟨⟨f0, f1, f2, f3⟩, ⟨g0, g1, g2, g3⟩⟩ := four (HI2.out.after HC8.out HO2.out hgrow); clear hown' hgrow HO4)
          have hl' := HL.out
          have hw : wrap64 ((i : Int) + 1) = ((i + 1 : Nat) : Int) := by unfold wrap64; omega
          refine ⟨⟨i + 1, by rw [hw], by omega, HGd, hid ?_⟩, by rw [hw]; simp [intOf]; omega⟩
          rw [mkD_step hlt HSD.out]
          have hfin := HI4.out
          simp only [List.length_append] at hfin ⊢
          exact hfin
    · obtain ⟨v, hc8, hO⟩ := hI.out.c
      obtain rfl : i = l.length := by omega
      rw [List.take_length] at hO
      obtain ⟨A2, c2, hA2, hlc, hBC, -⟩ := own_slice hO
      subst hA2
      obtain ⟨⟨d0, d1, d2, d3⟩, -⟩ := four hc8
      have hD : (mkD true x l).length = 4 + 8 * l.length := mkD_len true x l
      have hl' := HL.out
      have hlen : (mkD true x l).length ≤ 1099511627776 := by rw [hD]; omega
      have hE := E194_len x l
      have hck := check_194 0 A2 none c2 0 0 (mkD true x l) wr (HG.out.below hI.out.bel) (by omega) hBC (byt_mkD true x l) hlc hlen
      unfold ckV ErrPost at hck
      have HCK := hid hck
      have hnn := hn.out
      rw [List.take_length] at hnn
      have hOO := hO
      have HOO := hid hOO
      have HNN := hid hnn
      have HC8 := hid hc8
      have HD := hid hD
      clear hck hD hlen hnn hO hOO hc8 hlc hBC
      rw [hE] at HCK
      clear hE
      by_cases hsz : (mkD true x l).length ≤ 65531
      · rw [if_pos hsz] at HCK
        have HSZ := hid hsz
        have hck := HCK.out
        simp only [eV] at hck
        clear hsz HCK
        go_wp2_with fail
        refine hck.mono ?_
        rintro e w4 ⟨rfl, hb⟩
        have HI5 := hid (hI.out.step hb)
        have HC9 := hid (blk_below HC8.out hb)
        have HO9 := hid (own_kept HOO.out hb)
        obtain ⟨⟨d0, d1, d2, d3⟩, -⟩ := four HC9.out
        have hz := HI5.out.z
        unfold chZ at hz
        obtain ⟨⟨z0, z1, z2, z3⟩, ⟨y0, y1, y2, y3⟩⟩ := four hz
        clear hz hb hck
        go_wp2_with fail
        refine bodyPost_ret (v := .tuple #[.agg #[.int .u8 194, .int .u8 0, .slice A2 (mkD true x l).length c2, .slice none 0 0], .bool true]) (by simp [results, Tryz.results17, go_sem, z0, z1, z2, z3]) rfl ?_
        refine ⟨below_set (below_set (below_set (below_set HI5.out.bel (Nat.le_refl _) _) (Nat.le_refl _) _) (Nat.le_refl _) _) (Nat.le_refl _) _, .inl ⟨HNN.out, HSZ.out, _, rfl, ?_⟩⟩
        have hne := own_apart HO9.out HI5.out.z
        exact ownsRow_setCell_other (ownsRow_setCell_other (ownsRow_setCell_other (ownsRow_setCell_other HO9.out (Ne.symm hne) _) (Ne.symm hne) _) (Ne.symm hne) _) (Ne.symm hne) _
      · rw [if_neg hsz] at HCK
        have HSZ := hid hsz
        have hck := HCK.out
        simp only [eV] at hck
        clear hsz HCK
        go_wp2_with fail
        refine hck.mono ?_
        rintro e w4 ⟨rfl, hb⟩
        have HI5 := hid (hI.out.step hb)
        have hz := HI5.out.z
        unfold chZ at hz
        obtain ⟨⟨z0, z1, z2, z3⟩, ⟨y0, y1, y2, y3⟩⟩ := four hz
        clear hz hb hck
        go_wp2_with fail
        refine bodyPost_ret (v := .tuple #[.agg #[.int .u8 0, .int .u8 0, .slice none 0 0, .slice none 0 0], .bool false]) (by simp [results, Tryz.results17, go_sem, z0, z1, z2, z3]) rfl ?_
        exact ⟨below_set (below_set (below_set (below_set HI5.out.bel (Nat.le_refl _) _) (Nat.le_refl _) _) (Nat.le_refl _) _) (Nat.le_refl _) _, .inr ⟨fun h => HSZ.out h.2, rfl⟩⟩
end Go.Proofs.YtcjcgehhmjnlcaaGreatDoor
