/- Sizes of the package: 'pad.Up', 'pad.Sizes', 'tlv.Size', 'node.Size' at any tree. -/
import Derived.Test.YtmfmomfhiieilaaGreatDoorMc
import Derived.Test.YtmfmomfhiieilaaGreatDoorBqi
import Derived.Laws.BitsLemmas
set_option linter.unusedVariables false
set_option linter.unusedSimpArgs false
namespace Go.Proofs.YtmfmomfhiieilaaGreatDoor
open Go.RowKit Go.Shelf Go.Proofs.YtmfmomfhiieilaaGreatDoor.It Go.Proofs.YtmfmomfhiieilaaGreatDoorW.PrintWords Go.Proofs.YtmfmomfhiieilaaGreatDoorW.PrintLast Go.Proofs.YtmfmomfhiieilaaGreatDoorW.PrintMore
namespace Bn
/-- Flags by their number: bit i is the i-th. -/
def bL : Nat → Nat → List Bool
  | 0, _ => []
  | n + 1, m => (m % 2 == 1) :: bL n (m / 2)
def bA (n m : Nat) : Array Bool := (bL n m).toArray
theorem sA {α : Type} (xs : List α) (i : Nat) (a : α) : xs.toArray.setIfInBounds i a = (xs.set i a).toArray := by simp
theorem s0 {α : Type} (x a : α) (xs : List α) : (x :: xs).set 0 a = a :: xs := rfl
theorem sS {α : Type} (x a : α) (xs : List α) (n : Nat) : (x :: xs).set (n + 1) a = x :: xs.set n a := rfl
theorem pU {P : Program} {ops : Array Oper} {Q : Exit → Act → World → Prop} {md : Region.Mode} {S : World → Prop} {ds : List Nat} {oi : Oper} {v : Value} {fuel : Nat} {l : Array Bool} {a : Act} {w : World} (i : Nat) (N : Option Tmp) (l' : Array Bool) (hi : ops[i]? = some oi) (hN : oi.dst = N) {a' : Act}
    (h : wpAnyLast P md ops Q S ds fuel l' a' w) (hr : ∀ w', (execOp a.eval oi).run P w' = .ok (.value v) w' := by (intro w'; go_simp; with_reducible rfl)) (ha : a.put N v = a' := by (simp only [Act.put, sA, s0, sS, i64_w, i32_w]; rfl))
    (hc : anyB md ops l l' i = true := by kernel_rfl) (hw : Region.wanted oi (yielded ops a.tmps) = true := by rfl) (hQ : ∀ c a w, Q (.panic c) (a.put oi.dst v) w → Q (.panic c) a w := by exact fun _ _ _ h => h) : wpAnyLast P md ops Q S ds (fuel + 1) l a w :=
  pure_ l' hi hN hc hQ (.inl ⟨hw, hr⟩) ha h
theorem tU {P : Program} {ops : Array Oper} {Q : Exit → Act → World → Prop} {md : Region.Mode} {S : World → Prop} {ds : List Nat} {oi : Oper} {v : Value} {fuel : Nat} {l : Array Bool} {a : Act} {w : World} (i : Nat) (N : Option Tmp) (l' : Array Bool) (hi : ops[i]? = some oi) (hN : oi.dst = N) {a' : Act} (hS : S w)
    (hr : ∀ w', S w' → (execOp a.eval oi).run P w' = .ok (.value v) w') (h : wpAnyLast P md ops Q S ds fuel l' a' w) (ha : a.put N v = a' := by (simp only [Act.put, sA, s0, sS, i64_w, i32_w]; rfl))
    (hc : takeB md ops ds l l' i = true := by kernel_rfl) (hw : Region.wanted oi (yielded ops a.tmps) = true := by rfl) (hQ : ∀ c a w, Q (.panic c) (a.put oi.dst v) w → Q (.panic c) a w := by exact fun _ _ _ h => h) : wpAnyLast P md ops Q S ds (fuel + 1) l a w :=
  take_ l' hi hN hc hQ (.inl ⟨hw, hr⟩) hS ha h
theorem nU {P : Program} {ops : Array Oper} {Q : Exit → Act → World → Prop} {md : Region.Mode} {S : World → Prop} {ds : List Nat} {N : Option Tmp} {v : Value} {fuel : Nat} {l : Array Bool} {a a' : Act} {w : World} (h : wpAnyLast P md ops Q S ds fuel l a' w) (ha : a.put N v = a' := by (simp only [Act.put, sA, s0, sS, i64_w, i32_w]; rfl)) : wpAnyLast P md ops Q S ds fuel l (a.put N v) w := norm_ ha h
open PBundleSorted
abbrev Nd := S87
theorem i64_and3 (n : Int) : bits .and .i64 n 3 = n % 4 := by
  have h3 : (BitVec.ofInt 64 3).toNat = 2 ^ 2 - 1 := by decide
  have key : (BitVec.ofInt 64 n &&& BitVec.ofInt 64 3).toNat = (n % ((2 ^ 64 : Nat) : Int)).toNat % 2 ^ 2 := by
    rw [BitVec.toNat_and, BitVec.toNat_ofInt, h3, Nat.and_two_pow_sub_one_eq_mod]
  show IntKind.i64.wrap ((BitVec.ofInt 64 n &&& BitVec.ofInt 64 3).toNat : Nat) = n % 4
  rw [key, IntKind.wrap_i64]
  omega
/-- A size with its padding. -/
def up (n : Nat) : Nat := (n + 3) / 4 * 4
theorem up_ge (n : Nat) : n ≤ up n := by unfold up; omega
theorem up_lt (n : Nat) : up n ≤ n + 3 := by unfold up; omega
theorem up_any (n : Nat) (w : World) (hn : n ≤ 1099511627776) : Calls Tryz.prog 34 #[.int .i64 n] w (IsPost (.int .i64 (up n)) w) := by
  refine (pad_Up.calls n (up n) w ?_).mono (fun e w' h => ⟨h.1, h.2.below⟩)
  have e1 : wrap64 (-(n : Int)) = -(n : Int) := by unfold wrap64; omega
  have e2 : wrap64 ((n : Int) + (-(n : Int)) % 4) = ((up n : Nat) : Int) := by unfold wrap64 up; omega
  unfold pad_Up.f pad_Gap.f
  rw [e1, i64_and3, Option.bind_some, e2]
/-- The size of parts, where the last one has no padding. -/
def szs (l : List Nat) : Nat := l.foldl (fun s n => up s + n) 0
theorem szs_from (l : List Nat) : ∀ s, s ≤ l.foldl (fun s n => up s + n) s := by
  induction l with
  | nil => intro s; exact Nat.le_refl _
  | cons n l ih =>
    intro s
    rw [List.foldl_cons]
    exact Nat.le_trans (Nat.le_trans (up_ge s) (Nat.le_add_right _ _)) (ih _)
theorem szs_take (l : List Nat) (i : Nat) : szs (l.take i) ≤ szs l := by
  unfold szs
  conv => rhs; rw [← List.take_append_drop i l, List.foldl_append]
  exact szs_from _ _
theorem szs_step (l : List Nat) (i : Nat) (h : i < l.length) : szs (l.take (i + 1)) = up (szs (l.take i)) + l.getD i 0 := by
  unfold szs
  rw [List.take_add_one, List.getElem?_eq_getElem h, Option.toList_some, List.foldl_append]
  simp [List.getD_eq_getElem?_getD, List.getElem?_eq_getElem h]
def SumPost (p s : Nat) (W : World) (e : Ending) (W' : World) : Prop := e = .returned (.tuple #[]) ∧ ∃ w1, Below W.heap.size W w1 ∧ W' = w1.setCell ⟨p, 0, none⟩ (.int .i64 s)
theorem sum_any (p s n : Nat) (W : World) (hp : W.heap[p]? = some (.cells #[.int .i64 s] 3 (0, 0))) (hs : up s + n ≤ 1099511627776) :
    Calls Tryz.prog 127 #[.int .i64 n, .pointer (some ⟨p, 0, none⟩)] W (SumPost p (up s + n) W) := by
  obtain ⟨q0, r0⟩ := one hp
  have HP := hid hp
  have HS := hid (show s ≤ 1099511627776 by have := up_ge s; omega)
  have HW := hid (show wrap64 (((up s : Nat) : Int) + (n : Int)) = ((up s + n : Nat) : Int) by unfold wrap64; omega)
  clear hp hs
  go_enter Tryz.func127, Tryz.ntmps127
  go_wp2_with fail
  refine (up_any s _ HS.out).mono ?_
  rintro e w1 ⟨rfl, hb⟩
  obtain ⟨q1, r1⟩ := one (blk_below HP.out hb)
  have HB := hid hb
  clear hb q0 r0
  go_wp2_with fail
  go_end0
  exact ⟨rfl, w1, HB.out, by rw [HW.out]⟩
/-- What holds in the loop of 'pad.Sizes'. -/
def SzI (w : World) (s : Nat) (W : World) : Prop := Below w.heap.size w W ∧ W.heap[w.heap.size]? = some (.cells #[.int .i64 s] 3 (0, 0))
def nI (l : List Nat) : List Int := l.map (fun (n : Nat) => (n : Int))
theorem nI_len (l : List Nat) : (nI l).length = l.length := by simp [nI]
theorem nI_at (l : List Nat) (i : Nat) : (nI l).getD i 0 = ((l.getD i 0 : Nat) : Int) := by
  unfold nI
  rw [List.getD_eq_getElem?_getD, List.getElem?_map, List.getD_eq_getElem?_getD]
  cases l[i]? <;> rfl
set_option maxRecDepth 100000 in
set_option maxHeartbeats 4000000 in
theorem sizes_any (A : Option Addr) (c n : Nat) (l : List Nat) (w : World) (hn : l.length = n) (hC : Kd.C (Kd.int .i64) w A (nI l).length (nI l)) (hs : szs l ≤ 1099511627776) (hl : n ≤ 1000000) :
    Calls Tryz.prog 116 #[.slice A n c] w (IsPost (.int .i64 (szs l)) w) := by
  have HN := hid hn
  have HC := hid hC
  have HS := hid hs
  have HL := hid hl
  have HI0 := hid (show SzI w 0 (w.alloc (.cells #[.int .i64 0] 3)) from ⟨below_alloc (Below.refl _ _) _, blk_new w _⟩)
  clear hn hC hs hl
  go_enter Tryz.func116, Tryz.ntmps116
  go_wp2_with fail
  go_loopw [10] (fun vi W => ∃ i : Nat, vi = .int .i64 i ∧ i ≤ n ∧ Hid (SzI w (szs (l.take i)) W)) (fun vi _ => n - (intOf vi).toNat)
  case atStart => exact ⟨0, rfl, by omega, HI0⟩
  case round =>
    obtain ⟨i, rfl, hi, hI⟩ := hrel
    clear HI0
    by_cases hlt : i < n
    · have hil : i < l.length := by have := HN.out; omega
      have HIL := hid hil
      have HIN := hid (show i ≤ 1000000 by have := HL.out; omega)
      rcases ints_cells (HC.out) with h | ⟨b, off, rfl, hbw, hcell⟩
      · have := congrArg List.length h; rw [nI_len, List.length_nil] at this; omega
      · have hc := pw_cell_below hI.out.1 (hcell i (by rw [nI_len]; exact hil))
        rw [nI_at] at hc
        have hstep := szs_step l i hil
        have htk := szs_take l (i + 1)
        obtain ⟨x, hx⟩ : ∃ x, l.getD i 0 = x := ⟨_, rfl⟩
        rw [hx] at hc hstep
        have HB := hid (show up (szs (l.take i)) + x ≤ 1099511627776 by have := HS.out; omega)
        have HST := hid hstep
        have HWI := hid (show wrap64 ((i : Int) + 1) = ((i + 1 : Nat) : Int) by have := HIN.out; unfold wrap64; omega)
        clear hstep htk hx hcell hil
        go_wp2_with fail
        refine (sum_any w.heap.size (szs (l.take i)) x wr hI.out.2 HB.out).mono ?_
        rintro e w2 ⟨rfl, w3, hb, rfl⟩
        have HB3 := hid hb
        clear hb
        go_wp2_with fail
        refine ⟨⟨i + 1, by rw [HWI.out], hlt, hid ?_⟩, by rw [HWI.out]; simp only [intOf, Int.toNat_natCast]; omega⟩
        rw [HST.out]
        refine ⟨below_set (cthen hI.out.1 HB3.out) (Nat.le_refl _) _, ?_⟩
        have := blk_below hI.out.2 HB3.out
        simp [World.setCell, Array.getElem?_modify, this]
    · obtain rfl : i = n := by omega
      obtain ⟨q0, r0⟩ := one hI.out.2
      go_wp2_with fail
      go_ret
      have htl : l.take i = l := by rw [← HN.out, List.take_length]
      exact ⟨by rw [htl]; rfl, hI.out.1⟩
theorem news_1 (t : Nat) (w : World) (cs : List Value) : ∀ j u, cs[j]? = some u → (w.alloc (.cells cs.toArray t)).cell? ((⟨w.heap.size, 0, none⟩ : Addr).add j) = some u := by
  intro j u hu
  rw [Go.WideShapes.add_plain]
  unfold World.cell?
  rw [show (w.alloc (.cells cs.toArray t)).heap[w.heap.size]? = _ from blk_new w _]
  simpa using hu
theorem grown_below {w W w9 : World} {o : Obj} {v : Value} {base t z n : Nat} {xs : List Value} (hb : Below w.heap.size w W) (ho : W.ownsRow base t z v n xs) (hbase : w.heap.size ≤ base) (hg : (W.alloc o).grownBy w9 v.ownBlock) : Below w.heap.size w w9 :=
  pw_below_grown (below_alloc hb o) v.ownBlock (by rw [World.size_alloc]; have := hb.size; omega) hg (fun k hk => Nat.le_trans hbase (own_base ho k hk))
theorem ownsRow_form {t z : Nat} {w : World} {base n : Nat} {v : Value} {xs : List Value} (h : w.ownsRow base t z v n xs) : ∃ A c, v = .slice A n c := by
  rcases h with ⟨-, ⟨rfl, h0⟩ | ⟨g, cap, cur, rfl, -⟩⟩
  · exact ⟨none, 0, by rw [h0]⟩
  · exact ⟨_, _, rfl⟩
theorem infoI : (Tryz.prog.info? 3).map (fun i => (i.zero, i.size, i.bytes)) = some (some (.int .i64 0), 1, 8) := by kernel_rfl
theorem infoF : (Tryz.prog.info? 147).map (fun i => (i.zero, i.size, i.bytes)) = some (some (.agg #[.int .u16 0, .slice none 0 0]), 2, 32) := by kernel_rfl
/-- Frames whose values have these lengths can be read at A. -/
def FC (w : World) (A : Option Addr) (L : List Nat) : Prop := L = [] ∨ ∃ b off, A = some ⟨b, off, none⟩ ∧ ∀ t, t < L.length → ∃ (y : Int) (B : Option Addr) (c : Nat), w.cell? ⟨b, off + t * 2, none⟩ = some (.int .u16 y) ∧ w.cell? ⟨b, off + t * 2 + 1, none⟩ = some (.slice B (L.getD t 0) c)
def f4 (L : List Nat) : List Nat := L.map (fun n => 4 + n)
theorem f4_len (L : List Nat) : (f4 L).length = L.length := by simp [f4]
theorem f4_step (L : List Nat) (i : Nat) (h : i < L.length) : f4 (L.take (i + 1)) = f4 (L.take i) ++ [4 + L.getD i 0] := by
  unfold f4
  rw [List.take_add_one, List.getElem?_eq_getElem h, List.map_append]
  simp [List.getD_eq_getElem?_getD, List.getElem?_eq_getElem h]
theorem nI_app (l : List Nat) (x : Nat) : nI (l ++ [x]) = nI l ++ [(x : Int)] := by simp [nI]
/-- A row of whole numbers of the call's own. -/
def OwnI (w : World) (base : Nat) (v : Value) (l : List Nat) : Prop := w.ownsRow base 3 1 v l.length ((nI l).map (Value.int .i64))
theorem ownI_read {w : World} {base : Nat} {v : Value} {l : List Nat} (h : OwnI w base v l) : ∃ A c, v = .slice A l.length c ∧ Kd.C (Kd.int .i64) w A (nI l).length (nI l) := by
  have h2 : w.ownsRow base 3 1 v (nI l).length ((nI l).map (Value.int .i64)) := by rw [nI_len]; exact h
  obtain ⟨A, c, e, -, hr⟩ := Kd.R_reads (R_of_own h2)
  rw [nI_len] at e
  exact ⟨A, c, e, hr⟩
def TsI (w : World) (l : List Nat) (v : Value) (W : World) : Prop := Below w.heap.size w W ∧ OwnI W w.heap.size v l
theorem szs_part (l : List Nat) (i : Nat) (h : i < l.length) : l.getD i 0 ≤ szs l := by
  have h1 := szs_step l i h
  have h2 := szs_take l (i + 1)
  omega
set_option maxRecDepth 100000 in
set_option maxHeartbeats 1000000 in
theorem tsize_any (A : Option Addr) (c n : Nat) (L : List Nat) (w : World) (hn : L.length = n) (hF : FC w A L) (hs : szs (f4 L) ≤ 1099511627776) (hl : n ≤ 1000000) :
    Calls Tryz.prog 94 #[.slice A n c] w (IsPost (.int .i64 (szs (f4 L))) w) := by
  have HN := hid hn
  have HF := hid hF
  have HS := hid hs
  have HL := hid hl
  have HI0 := hid (show TsI w [] (.slice none 0 0) w from ⟨Below.refl _ _, World.ownsRow_nil _ _ _ _⟩)
  obtain ⟨i0, hi0, hz0, hz1, hz2⟩ := info_parts infoI
  clear hn hF hs hl
  go_enter Tryz.func94, Tryz.ntmps94
  go_wp2_with fail
  go_loopw [3, 8] (fun v vi W => ∃ (i : Nat) (A2 : Option Addr) (c2 : Nat), vi = .int .i64 i ∧ v = .slice A2 i c2 ∧ i ≤ n ∧ Hid (TsI w (f4 (L.take i)) (.slice A2 i c2) W)) (fun _ vi _ => n - (intOf vi).toNat)
  case atStart => exact ⟨0, none, 0, rfl, rfl, by omega, HI0⟩
  case round =>
    obtain ⟨i, A2, c2, rfl, rfl, hi, hI⟩ := hrel
    clear HI0
    by_cases hlt : i < n
    · have hil : i < L.length := by have := HN.out; omega
      have HIL := hid hil
      have HIN := hid (show i ≤ 1000000 by have := HL.out; omega)
      rcases HF.out with h | ⟨b, off, rfl, hcell⟩
      · have := congrArg List.length h; rw [List.length_nil] at this; omega
      · obtain ⟨y, B, cc, k0, k1⟩ := hcell i hil
        replace k0 := pw_cell_below hI.out.1 k0
        replace k1 := pw_cell_below hI.out.1 k1
        have hx4 : 4 + L.getD i 0 ≤ 1099511627776 := by
          have h1 := szs_part (f4 L) i (by rw [f4_len]; exact hil)
          have h2 : (f4 L).getD i 0 = 4 + L.getD i 0 := by
            unfold f4
            rw [List.getD_eq_getElem?_getD, List.getElem?_map, List.getD_eq_getElem?_getD, List.getElem?_eq_getElem hil]
            rfl
          have := HS.out
          omega
        have hst := f4_step L i hil
        obtain ⟨x, hx⟩ : ∃ x, L.getD i 0 = x := ⟨_, rfl⟩
        rw [hx] at k1 hst hx4
        have HX := hid (show wrap64 (4 + (x : Int)) = ((4 + x : Nat) : Int) by unfold wrap64; omega)
        have HST := hid hst
        have HLN := hid (show (f4 (L.take i)).length = i by rw [f4_len, List.length_take]; omega)
        have HWI := hid (show wrap64 ((i : Int) + 1) = ((i + 1 : Nat) : Int) by have := HIN.out; unfold wrap64; omega)
        have HROW := hid (show ((wr.alloc (.cells #[.int .u16 y, .slice B x cc] 147)).alloc (.cells #[.int .i64 (wrap64 (4 + (x : Int)))] 3)).ownsRow w.heap.size 3 1 (.slice A2 i c2) i ((nI (f4 (L.take i))).map (Value.int .i64)) by
          have := hI.out.2
          unfold OwnI at this
          rw [HLN.out] at this
          exact World.ownsRow.alloc (World.ownsRow.alloc this _) _)
        have HNW := hid (by have h := news_1 3 (wr.alloc (.cells #[.int .u16 y, .slice B x cc] 147)) [.int .i64 (wrap64 (4 + (x : Int)))]; rw [World.size_alloc] at h; exact h)
        have HSZ := hid (show w.heap.size ≤ ((wr.alloc (.cells #[.int .u16 y, .slice B x cc] 147)).alloc (.cells #[.int .i64 (wrap64 (4 + (x : Int)))] 3)).heap.size by rw [World.size_alloc, World.size_alloc]; have := hI.out.1.size; omega)
        clear hx hst hcell hil hx4
        go_wp2_with (at_builtin; go_loud (refine wpList_append_own _ rfl _ _ 185 rfl w.heap.size 3 i0 _ 1 8 Tryz.underlying185 hi0 hz0 hz1 hz2 rfl (by decide) _ _ _ rfl HROW.out ⟨wr.heap.size + 1, 0, none⟩ 1 1 [.int .i64 (wrap64 (4 + (x : Int)))] (by rfl) rfl HNW.out (by intro u hu; rw [List.mem_singleton.1 hu]; rfl) (by have := HIN.out; unfold maxLen; omega) (by have := HIN.out; omega) HSZ.out ?_; intro v' w9 hown1 hgrow _; have HB9 := hid (grown_below (below_alloc hI.out.1 _) (World.ownsRow.alloc hI.out.2 _) (Nat.le_refl _) hgrow); have HO9 := hid hown1; obtain ⟨A9, c9, rfl⟩ := ownsRow_form hown1; clear hown1 hgrow))
        refine ⟨⟨i + 1, A9, c9, by rw [HWI.out], rfl, hlt, hid ⟨HB9.out, ?_⟩⟩, by rw [HWI.out]; simp only [intOf, Int.toNat_natCast]; omega⟩
        unfold OwnI
        rw [HST.out, List.length_append, HLN.out, nI_app, List.map_append]
        have := HO9.out
        rw [HX.out] at this
        exact this
    · obtain rfl : i = n := by omega
      have htl : L.take i = L := by rw [← HN.out, List.take_length]
      rw [htl] at hI
      obtain ⟨A8, c8, e8, hr⟩ := ownI_read hI.out.2
      injection e8 with e1 e2 e3
      subst e1
      have HR := hid hr
      clear e2 e3 htl hr
      go_wp2_with fail
      refine (sizes_any A2 c2 i (f4 L) wr (by rw [f4_len]; exact HN.out) HR.out HS.out HL.out).mono ?_
      rintro e w2 ⟨rfl, hb⟩
      have HB := hid (cthen hI.out.1 hb)
      clear hb
      go_wp2_with fail
      go_ret
      exact ⟨rfl, HB.out⟩
mutual
/-- The size of a node, and those of a list. -/
def nsz : Nd → Nat
  | ⟨_, D, ks⟩ => 4 + (D.length + szs (nszs ks))
def nszs : List Nd → List Nat
  | [] => []
  | x :: l => nsz x :: nszs l
end
mutual
/-- How much there is of a node, and of a list. -/
def cnt : Nd → Nat
  | ⟨_, D, ks⟩ => 1 + D.length / 1000 + cnts ks
def cnts : List Nd → Nat
  | [] => 0
  | x :: l => cnt x + cnts l
end
theorem nsz_eq (x : Nd) : nsz x = 4 + (x.f1.length + szs (nszs x.f2)) := by cases x; rw [nsz]
theorem cnt_eq (x : Nd) : cnt x = 1 + x.f1.length / 1000 + cnts x.f2 := by cases x; rw [cnt]
theorem nszs_map : ∀ l : List Nd, nszs l = l.map nsz
  | [] => by rw [nszs]; rfl
  | x :: l => by rw [nszs, nszs_map l]; rfl
theorem cnts_at : ∀ (l : List Nd) (x : Nd), x ∈ l → cnt x ≤ cnts l
  | [], x, h => by cases h
  | y :: l, x, h => by
    rw [cnts]
    rcases List.mem_cons.1 h with rfl | h
    · omega
    · have := cnts_at l x h; omega
theorem szs_sum (l : List Nat) (B : Nat) (h : ∀ s, l.foldl (fun s n => up s + n) s ≤ s + B) : szs l ≤ B := by
  have := h 0
  unfold szs
  omega
mutual
theorem nsz_le : ∀ x : Nd, nsz x + 3 ≤ 1010 * cnt x
  | ⟨a, D, ks⟩ => by
    have := nszs_le ks 0
    rw [nsz, cnt]
    unfold szs
    omega
theorem nszs_le : ∀ (l : List Nd) (s : Nat), (nszs l).foldl (fun s n => up s + n) s ≤ s + 1010 * cnts l
  | [], s => by rw [nszs, cnts]; simp
  | x :: l, s => by
    have h1 := nsz_le x
    have h2 := nszs_le l (up s + nsz x)
    have h3 := up_lt s
    rw [nszs, cnts, List.foldl_cons]
    omega
end
theorem nszs_bd (l : List Nd) : szs (nszs l) ≤ 1010 * cnts l := szs_sum _ _ (fun s => nszs_le l s)
theorem nszs_getD (l : List Nd) (i : Nat) (h : i < l.length) : (nszs l).getD i 0 = nsz l[i] := by
  rw [nszs_map, List.getD_eq_getElem?_getD, List.getElem?_map, List.getElem?_eq_getElem h]
  rfl
theorem len_cnts : ∀ l : List Nd, l.length ≤ cnts l
  | [] => by simp
  | x :: l => by
    have := len_cnts l
    rw [cnts, List.length_cons, cnt_eq]
    omega
/-- A node in a row that is read. -/
theorem node_at {w : World} {A : Option Addr} {n : Nat} {xs : List Nd} (h : Kd.C k87 w A n xs) (i : Nat) (hi : i < xs.length) :
    ∃ b off A1 c1 A2 c2, A = some ⟨b, off, none⟩ ∧ w.cell? ⟨b, off + i * 3, none⟩ = some (.int .u16 (xs[i]).f0) ∧ w.cell? ⟨b, off + i * 3 + 1, none⟩ = some (.slice A1 (xs[i]).f1.length c1) ∧ w.cell? ⟨b, off + i * 3 + 2, none⟩ = some (.slice A2 (xs[i]).f2.length c2) ∧ (xs[i]).f1.length ≤ c1 ∧ BC w A1 (xs[i]).f1 ∧ (xs[i]).f2.length ≤ c2 ∧ Kd.C k87 w A2 (xs[i]).f2.length (xs[i]).f2 := by
  have hn : 0 < n := by have := h.1; omega
  obtain ⟨ad, rfl, hc⟩ := h.2.2 hn
  obtain ⟨c, -, hk, hcell⟩ := hc i _ (List.getElem?_eq_getElem hi)
  obtain ⟨A1, c1, A2, c2, rfl, l1, g1, l2, g2⟩ := k87_open hk
  have hz : k87.sz = 3 := rfl
  rw [hz] at hcell
  have hs : ad.spot = none := by
    obtain ⟨c', -, hk', hcell'⟩ := hc 0 _ (List.getElem?_eq_getElem (by omega))
    obtain ⟨A1', c1', A2', c2', rfl, -⟩ := k87_open hk'
    have h0 := World.cell?_spot (hcell' 0 _ rfl)
    simpa [Addr.add] using h0
  obtain ⟨b, off, sp⟩ := ad
  simp only at hs
  subst hs
  have g := fun j u hu => by
    have := hcell j u hu
    rw [Go.WideShapes.add_plain] at this
    exact this
  exact ⟨b, off, A1, c1, A2, c2, rfl, g 0 _ rfl, g 1 _ rfl, g 2 _ rfl, l1, g1, l2, g2⟩
end Bn
end Go.Proofs.YtmfmomfhiieilaaGreatDoor
