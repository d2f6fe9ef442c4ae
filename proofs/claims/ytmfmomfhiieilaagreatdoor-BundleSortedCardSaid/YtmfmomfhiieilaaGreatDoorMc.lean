/- Joined: Cur, Pek, Num, Siz, Cks, Ckv, Ckw. -/
import Derived.Test.YtmfmomfhiieilaaGreatDoorMa
import Derived.StillTailTactics
import Derived.Lib.QuietBelow
import Derived.Test.YtmfmomfhiieilaaGreatDoorMb
/- 'slices.Clone' of bytes; the cursor over bytes: 'wire.New', 'Left', 'Peek', 'Number'. -/
set_option linter.unusedVariables false
namespace Go.Proofs.YtmfmomfhiieilaaGreatDoor
open Go.RowKit Go.Shelf Go.Proofs.YtmfmomfhiieilaaGreatDoor.It Go.Proofs.YtmfmomfhiieilaaGreatDoorW.PrintWords

theorem infoB : (Tryz.prog.info? 5).map (fun i => (i.zero, i.size, i.bytes)) = some (some (.int .u8 0), 1, 1) := by kernel_rfl
/-- New bytes of the call's own. -/
def OwnB (w : World) (base : Nat) (v : Value) (l : List Int) : Prop := w.ownsRow base 5 1 v l.length (l.map (Value.int .u8))
def BytesPost (l : List Int) (w : World) (e : Ending) (w' : World) : Prop := ∃ v : Value, e = .returned v ∧ OwnB w' w.heap.size v l ∧ Below w.heap.size w w'
theorem news_of {k : IntKind} {w : World} {ad : Addr} {l : List Int} (h : Kd.C (Kd.int k) w (some ad) l.length l) : ∀ j u, (l.map (Value.int k))[j]? = some u → w.cell? (ad.add j) = some u := by
  intro j u hu
  rw [List.getElem?_map, Option.map_eq_some_iff] at hu
  obtain ⟨p, hp, rfl⟩ := hu
  have hlt := (List.getElem?_eq_some_iff.1 hp).1
  obtain ⟨ad', e, hc⟩ := h.2.2 (by omega)
  cases e
  obtain ⟨c, hs, hK, hcell⟩ := hc j p hp
  have hK' : c = [.int k p] := hK
  have := hcell 0 _ (by rw [hK']; rfl)
  simpa only [Kd.int, Kd.scalar, Nat.mul_one, Nat.add_zero] using this
theorem own_empty (w : World) (e : Nat) : (w.alloc (.cells #[] e)).ownsRow w.heap.size e 1 (.slice (some ⟨w.heap.size, 0, none⟩) 0 0) 0 [] :=
  ⟨rfl, .inr ⟨w.heap.size, 0, #[], rfl, Nat.le_refl _, blk_new _ _, Nat.le_refl _, by simp [maxLen], rfl, rfl⟩⟩
set_option maxHeartbeats 1000000 in
theorem clone_any (A : Option Addr) (c : Nat) (l : List Int) (w : World) (hC : BC w A l) (hc : l.length ≤ c) (hl : l.length ≤ 1099511627776) :
    Calls Tryz.prog 54 #[.slice A l.length c] w (BytesPost l w) := by
  obtain ⟨i0, hi, hz0, hz1, hz2⟩ := info_parts infoB
  have hlh := hid hl
  clear hl
  cases A with
  | none =>
    have hl0 : l = [] := by
      rcases ints_cells hC with h | ⟨b, off, e, _⟩
      · exact h
      · cases e
    subst hl0
    clear hC
    have hnil := fun (W : World) => Lib.run_eql_slice_nil (P := Tryz.prog) W 39 5 none 0 c 0 0 Tryz.underlying39
    go_enter Tryz.func54, Tryz.ntmps54
    go_wp2_with fail
    go_ret
    exact ⟨_, rfl, World.ownsRow_nil _ _ _ _, Below.refl _ _⟩
  | some ad =>
    have hnil := fun (W : World) => Lib.run_eql_slice_nil (P := Tryz.prog) W 39 5 (some ad) l.length c 0 0 Tryz.underlying39
    have hb1 : Below w.heap.size w (w.alloc (.cells #[] 5)) := below_alloc (Below.refl _ _) _
    have hn := news_of (Kd.C_below hC hb1)
    have hh := hid hn
    have ho := own_empty w 5
    have ho' := hid ho
    clear hn ho hC
    go_enter Tryz.func54, Tryz.ntmps54
    go_wp2_with (at_builtin; refine wpList_append_own _ rfl _ _ 39 rfl w.heap.size 5 i0 (.int .u8 0) 1 1 Tryz.underlying39 hi hz0 hz1 hz2 rfl (by decide) _ _ _ rfl ho'.out ad l.length c (l.map (Value.int .u8)) rfl (by simp) hh.out (by simp [Value.oneCell']) (by have := hlh.out; unfold maxLen; omega) (by have := hlh.out; omega) (by simp) ?_; intro v' w1 hown' hgrow _)
    go_ret
    refine ⟨v', rfl, ?_, hb1.grown hgrow (by simp) (fun k e => by cases e; exact Nat.le_refl _)⟩
    unfold OwnB
    simpa using hown'
/-- A cursor's cells. -/
def CurAt (w : World) (p : Nat) (A : Option Addr) (n c i : Nat) : Prop := w.heap[p]? = some (.cells #[.slice A n c, .int .i64 i] 208 (0, 0))
def NewPost (l : List Int) (w : World) (e : Ending) (w' : World) : Prop := ∃ (p : Nat) (A : Option Addr) (c : Nat), e = .returned (.pointer (some ⟨p, 0, none⟩)) ∧ w.heap.size ≤ p ∧ CurAt w' p A l.length c 0 ∧ BC w' A l ∧ l.length ≤ c ∧ (∀ ad, A = some ad → ad.block < p) ∧ Below w.heap.size w w'
theorem own_slice {w : World} {base : Nat} {v : Value} {l : List Int} (h : OwnB w base v l) : ∃ A c, v = .slice A l.length c ∧ l.length ≤ c ∧ BC w A l ∧ ∀ ad, A = some ad → ad.block < w.heap.size := by
  obtain ⟨A, c, e, hl, hr⟩ := Kd.R_reads (R_of_own (k := .u8) h)
  refine ⟨A, c, e, hl, hr, fun ad ha => ?_⟩
  subst ha
  rcases h.2 with ⟨h1, _⟩ | ⟨g, cap, cur, h1, _, hg, _⟩
  · rw [e] at h1; cases h1
  · rw [e] at h1
    cases h1
    exact (Array.getElem?_eq_some_iff.1 hg).1
set_option maxHeartbeats 1000000 in
theorem wnew_any (A : Option Addr) (c : Nat) (l : List Int) (w : World) (hC : BC w A l) (hc : l.length ≤ c) (hl : l.length ≤ 1099511627776) :
    Calls Tryz.prog 123 #[.slice A l.length c] w (NewPost l w) := by
  have hcl := clone_any A c l w hC hc hl
  have H := hid hcl
  clear hcl hC hc hl
  go_enter Tryz.func123, Tryz.ntmps123
  go_wp2_with fail
  refine H.out.mono ?_
  rintro e w1 ⟨v, rfl, hO, hb⟩
  obtain ⟨A', c', rfl, hlc, hBC, hlt⟩ := own_slice hO
  have hb' := hid hb
  clear hO hb
  go_wp2_with fail
  go_ret
  exact ⟨w1.heap.size, A', c', rfl, hb'.out.size, blk_new _ _, hBC.below (below_alloc (Below.refl _ _) _), hlc, hlt, below_alloc hb'.out _⟩
theorem left_any (p : Nat) (A : Option Addr) (n c i : Nat) (w : World) (hp : CurAt w p A n c i) (hi : i ≤ n) (hn : n ≤ 1099511627776) :
    Calls Tryz.prog 134 #[.pointer (some ⟨p, 0, none⟩)] w fun e w' => e = .returned (.int .i64 ((n - i : Nat) : Int)) ∧ ∃ q, w' = w.drewN q := by
  obtain ⟨⟨c0, c1⟩, -⟩ := two hp
  have e : ((n - i : Nat) : Int) = (n : Int) - (i : Int) := by omega
  have E := hid e
  clear hp e
  go_enter Tryz.func134, Tryz.ntmps134
  go_wp2_with fail
  go_quiet (fail)
  go_wp2_with fail
  go_ret
  exact ⟨by rw [E.out]; rfl, _, rfl⟩
end Go.Proofs.YtmfmomfhiieilaaGreatDoor
/- '(*wire.Cursor).Peek': the next number. -/
set_option linter.unusedVariables false
namespace Go.Proofs.YtmfmomfhiieilaaGreatDoor
open Go.RowKit Go.Shelf Go.Proofs.YtmfmomfhiieilaaGreatDoor.It Go.Proofs.YtmfmomfhiieilaaGreatDoorW.PrintWords
attribute [local go_sem] Oper.semAt_some

def peekV (k : Nat) (l : List Int) (i : Nat) : Int := if k ≤ l.length - i then numAt (fun t => l.getD t 0) i k else 0
theorem numAt_drop (l : List Int) (i k : Nat) : numAt (fun t => (l.drop i).getD t 0) 0 k = numAt (fun t => l.getD t 0) i k := by
  induction k with
  | zero => rfl
  | succ k ih =>
    unfold numAt
    rw [ih]
    congr 1
    simp only [List.getD_eq_getElem?_getD, List.getElem?_drop, Nat.zero_add]
/-- Where the loop over the numbers has been left. -/
def PkX (B4 B5 : Nat) (w : World) (c : Code) (pre : List Int) (W : World) : Prop :=
  (c = .ret ∧ ∃ x, pre = [x]) ∧ (∃ x, pre = [x] ∧ W.heap[B4]? = some (.cells #[.int .u32 x] 23 (0, 0))) ∧ W.heap[B5]? = some (.cells #[.bool true] 4 (0, 0)) ∧ Below w.heap.size w W
def PkI (B4 B5 : Nat) (w : World) (pre : List Int) (W : World) : Prop :=
  pre = [] ∧ W.heap[B4]? = some (.cells #[.int .u32 0] 23 (0, 0)) ∧ W.heap[B5]? = some (.cells #[.bool false] 4 (0, 0)) ∧ Below w.heap.size w W
theorem PkI.own {B4 B5 B : Nat} {w : World} (h4 : B4 < B) (h5 : B5 < B) (hw : w.heap.size ≤ B) : OwnFrom B (PkI B4 B5 w) := by
  intro s W W' row ⟨h1, h2, h3, h4'⟩ hg hr
  have keep : ∀ {q : Nat} {o : Obj}, q < B → W.heap[q]? = some o → W'.heap[q]? = some o := fun hq ho => (hg.block _ (Array.getElem?_eq_some_iff.1 ho).1 (fun e => by have := (hr _ e.symm).1; omega)).trans ho
  exact ⟨h1, keep h4 h2, keep h5 h3, h4'.grown hg h4'.size (fun k e => by have := (hr k e).1; omega)⟩
theorem PkX.own {B4 B5 B : Nat} {w : World} (h4 : B4 < B) (h5 : B5 < B) (hw : w.heap.size ≤ B) (c : Code) : OwnFrom B (PkX B4 B5 w c) := by
  intro s W W' row ⟨h1, ⟨x, hx, h2⟩, h3, h4'⟩ hg hr
  have keep : ∀ {q : Nat} {o : Obj}, q < B → W.heap[q]? = some o → W'.heap[q]? = some o := fun hq ho => (hg.block _ (Array.getElem?_eq_some_iff.1 ho).1 (fun e => by have := (hr _ e.symm).1; omega)).trans ho
  exact ⟨h1, ⟨x, hx, keep h4 h2⟩, keep h5 h3, h4'.grown hg h4'.size (fun k e => by have := (hr k e).1; omega)⟩
theorem BC.drop {w : World} {b off : Nat} {l : List Int} (hl : l.length ≤ 9223372036854775807) (h : ∀ t, t < l.length → w.cell? ⟨b, off + t, none⟩ = some (.int .u8 (l.getD t 0))) (i : Nat) : BC w (some ⟨b, off + i, none⟩) (l.drop i) :=
  ints_mk (by simp; omega) (fun t ht => by
    have := h (i + t) (by simp at ht; omega)
    rw [← Nat.add_assoc] at this
    rw [this]
    simp [List.getD_eq_getElem?_getD, List.getElem?_drop])
set_option maxRecDepth 100000 in
set_option maxHeartbeats 4000000 in
theorem peek_yes (k : Nat) (hk : k = 1 ∨ k = 2 ∨ k = 4) (p b off c i : Nat) (l : List Int) (w : World) (hp : CurAt w p (some ⟨b, off, none⟩) l.length c i) (hC : ∀ t, t < l.length → w.cell? ⟨b, off + t, none⟩ = some (.int .u8 (l.getD t 0))) (hB : Byt l) (hc : l.length ≤ c) (hl : l.length ≤ 1099511627776) (hi : i + k ≤ l.length) :
    CallsIn Fence.wide 5 Tryz.prog 131 #[.pointer (some ⟨p, 0, none⟩), .int .i64 k] w fun e w' => e = .returned (.tuple #[.int .u32 (numAt (fun t => l.getD t 0) i k), .bool true]) ∧ Below w.heap.size w w' := by
  have hrt : Hid (((k : Int) == 1 || (k : Int) == 2 || (k : Int) == 4) = true) := hid (by rcases hk with rfl | rfl | rfl <;> rfl)
  obtain ⟨W1, hW1⟩ : ∃ W1, W1 = (w.alloc (.cells #[.int .u32 0] 23)).alloc (.cells #[.bool false] 4) := ⟨_, rfl⟩
  have hB1 : Below w.heap.size w W1 := by rw [hW1]; exact below_alloc (below_alloc (Below.refl _ _) _) _
  have hp1 : CurAt W1 p (some ⟨b, off, none⟩) l.length c i := blk_below hp hB1
  have hleft := left_any p (some ⟨b, off, none⟩) l.length c i W1 hp1 (by omega) hl
  have HL := hid hleft
  have hCh := hid hC
  have hph := hid hp
  have hBh := hid hB
  have hlh := hid hl
  have hkh := hid hk
  have hgt : ¬ ((k : Int) > ((l.length - i : Nat) : Int)) := by omega
  have hz1 : W1.heap.size = w.heap.size + 2 := by rw [hW1]; simp
  have h41 : W1.heap[w.heap.size]? = some (.cells #[.int .u32 0] 23 (0, 0)) := by rw [hW1]; exact blk_alloc (blk_new _ _)
  have h51 : W1.heap[w.heap.size + 1]? = some (.cells #[.bool false] 4 (0, 0)) := by
    rw [hW1]
    have := blk_new (w.alloc (.cells #[.int .u32 0] 23)) (.cells #[.bool false] 4)
    rwa [World.size_alloc] at this
  have H4 := hid h41
  have H5 := hid h51
  have HZ := hid hz1
  have hWh := hid hW1
  have hBb := hid hB1
  have hik : i < l.length := by omega
  have hic : i < c := by omega
  clear hleft hp1 hC hp hB hl hk hW1 hz1 h41 h51 hB1
  refine callsIn_of_wp_marks Tryz.func131 rfl trivial ?_ rfl
  simp only [Tryz.ntmps131, List.size_toArray, List.length_cons, List.length_nil, Nat.reduceAdd, Nat.reduceSub, Array.replicate_succ, Array.replicate_zero, List.push_toArray, List.append_toArray, List.nil_append, List.cons_append]
  refine wpIn_wide.2 ?_
  go_wp2_with fail
  refine (right_any _ _).mono ?_
  rintro e w' ⟨rfl, rfl⟩
  rw [hrt.out, ← hWh.out]
  go_wp2_with fail
  refine HL.out.mono ?_
  rintro e w2 ⟨rfl, q, rfl⟩
  go_wp2_with fail
  obtain ⟨W2, hW2⟩ : ∃ W2, W2 = W1.drewN q := ⟨_, rfl⟩
  have hB2 : Below w.heap.size w W2 := by rw [hW2]; exact below_drew hBb.out q
  have hp1 : CurAt W2 p (some ⟨b, off, none⟩) l.length c i := blk_below hph.out hB2
  obtain ⟨⟨c0, c1⟩, -⟩ := two hp1
  have H42 : Hid (W2.heap[w.heap.size]? = some (.cells #[.int .u32 0] 23 (0, 0))) := hid (by rw [hW2]; exact H4.out)
  have H52 : Hid (W2.heap[w.heap.size + 1]? = some (.cells #[.bool false] 4 (0, 0))) := hid (by rw [hW2]; exact H5.out)
  have HZ2 : Hid (W2.heap.size = w.heap.size + 2) := hid (by rw [hW2]; exact HZ.out)
  have HB2 := hid hB2
  rw [← hW2]
  clear hp1 hW2 hB2 HL H4 H5 HZ hWh hBb
  have hi0 : (0 : Int) ≤ (i : Int) := by omega
  have hi1 : (i : Int) ≤ (l.length : Int) := by omega
  go_still_tail 10, (by kernel_rfl)
  change wpList _ _ _ _ _ W2.drew
  go_wp2_with fail
  refine (numbers_calls _ _ _ _ _).mono ?_
  rintro e w' ⟨rfl, rfl⟩
  obtain ⟨W3, hW3⟩ : ∃ W3, W3 = (W2.drew.alloc (.cells #[.int .i64 k] 3)).alloc (.cells #[.slice (some ⟨b, off + i, none⟩) (l.length - i) (c - i)] 39) := ⟨_, rfl⟩
  have hs2 : W2.drew.heap.size = w.heap.size + 2 := HZ2.out
  have hz3 : W3.heap.size = w.heap.size + 4 := by rw [hW3]; simp [hs2]
  have hB3 : Below w.heap.size w W3 := by rw [hW3]; exact below_alloc (below_alloc (below_drew HB2.out 1) _) _
  have hkb : W3.heap[w.heap.size + 2]? = some (.cells #[.int .i64 k] 3 (0, 0)) := by rw [hW3, ← hs2]; exact blk_alloc (blk_new _ _)
  have hbb : W3.heap[w.heap.size + 2 + 1]? = some (.cells #[.slice (some ⟨b, off + i, none⟩) (l.length - i) (c - i)] 39 (0, 0)) := by
    rw [hW3]
    have := blk_new (W2.drew.alloc (.cells #[.int .i64 k] 3)) (.cells #[.slice (some ⟨b, off + i, none⟩) (l.length - i) (c - i)] 39)
    rwa [World.size_alloc, hs2] at this
  have h43 : W3.heap[w.heap.size]? = some (.cells #[.int .u32 0] 23 (0, 0)) := by rw [hW3]; exact blk_alloc (blk_alloc H42.out)
  have h53 : W3.heap[w.heap.size + 1]? = some (.cells #[.bool false] 4 (0, 0)) := by rw [hW3]; exact blk_alloc (blk_alloc H52.out)
  have hdl : (l.drop i).length = l.length - i := by simp
  have hseq := nums_seq k hkh.out (some ⟨b, off + i, none⟩) (c - i) (l.drop i) w W3 (BC.drop (by have := hlh.out; omega) hCh.out i) (fun x hx => hBh.out x (List.mem_of_mem_drop hx)) (by omega) (by have := hlh.out; omega) hB3 (n := 4) (by omega) (T := [23, 4]) (bb := w.heap.size + 2 + 1) (bk := w.heap.size + 2) (by decide) (by rw [hdl]; exact hbb) hkb (by have := World.block_lt_of_cell? w _ (hCh.out 0 (by omega)); omega)
  rw [hs2, ← hW3]
  have HS := hid hseq
  have H43 := hid h43
  have H53 := hid h53
  have HB3 := hid hB3
  have HZ3 := hid hz3
  clear hseq h43 h53 hB3 hz3 hkb hbb hW3 hs2 H42 H52 HZ2 HB2 c0 c1
  go_wp2_with fail
  refine (wpIn_wide (n := 5)).1 ?_
  refine wpIn_rangeFunc_L rfl (by omega) (gf := 120) (lb := #[.pointer (some ⟨w.heap.size + 2 + 1, 0, none⟩), .pointer (some ⟨w.heap.size + 2, 0, none⟩)]) rfl trivial (enters_of Tryz.func120 (by kernel_rfl) rfl) HS.out Keep.trans (Keep.put _ _) (Below.refl _ _) (fun _ => rfl)
    (PkI w.heap.size (w.heap.size + 1) w) (PkX w.heap.size (w.heap.size + 1) w) (PkI.own (by have := HZ3.out; omega) (by have := HZ3.out; omega) (by have := HZ3.out; omega)) (fun c => PkX.own (by have := HZ3.out; omega) (by have := HZ3.out; omega) (by have := HZ3.out; omega) c)
    ⟨rfl, H43.out, H53.out, HB3.out⟩ (fun x => { tmps := #[.pointer (some ⟨p, 0, none⟩), .int .i64 k, undef, undef, .pointer (some ⟨w.heap.size, 0, none⟩), .pointer (some ⟨w.heap.size + 1, 0, none⟩), .int .u32 x, .int .i64 k, .bool true, .bool false, .bool false, .int .i64 k, .pointer (some ⟨p, 0, none⟩), .int .i64 ((l.length - i : Nat) : Int), .bool false, .bool false, .int .i64 k, .pointer (some ⟨p, 0, none⟩), .pointer (some ⟨p, 0, none⟩), .pointer (some ⟨p, 0, none⟩), .slice (some ⟨b, off, none⟩) l.length c, .pointer (some ⟨p, 0, none⟩), .pointer (some ⟨p, 0, none⟩), .pointer (some ⟨p, 1, none⟩), .int .i64 i, .slice (some ⟨b, off + i, none⟩) (l.length - i) (c - i), .func (.func 120) #[] #[.pointer (some ⟨w.heap.size + 2 + 1, 0, none⟩), .pointer (some ⟨w.heap.size + 2, 0, none⟩)], .int .u32 x, undef], defers := [] }) ?assign ?body ?done ?stop
  case assign =>
    intro l x V K hK
    gi_wp2
    exact hK
  case body =>
    rintro l2 pre x V rfl ⟨rfl, h4, h5, hB⟩ hP
    obtain ⟨c4, f4⟩ := one h4
    obtain ⟨c5, f5⟩ := one h5
    have H4 := hid h4
    have H5 := hid h5
    have HB := hid hB
    clear h4 h5 hB
    gi_wp2_with (fail)
    have k1 : Boxed (V.setCell ⟨w.heap.size, 0, none⟩ (.int .u32 x)) w.heap.size 23 (.int .u32 x) := Boxed.set _ H4.out
    have k2 : Boxed (V.setCell ⟨w.heap.size, 0, none⟩ (.int .u32 x)) (w.heap.size + 1) 4 (.bool false) := Boxed.other H5.out (by omega) _
    refine ⟨((KeepsOthers.setCell _ _ _).trans (KeepsOthers.setCell _ _ _)).from _, ?_, ⟨rfl, x, rfl⟩, ⟨x, rfl, Boxed.other k1 (by omega) _⟩, Boxed.set _ k2, below_set (below_set HB.out (Nat.le_refl _) _) (by omega) _⟩
    exact (Keep.grown (grownBy_setCell' _ _ _) (fun r e => by cases e; exact ⟨Nat.le_refl _, _, _, _, H4.out, by simp⟩)).trans (Keep.grown (grownBy_setCell' _ _ _) (fun r e => by cases e; exact ⟨by omega, _, _, _, k2, by simp⟩))
  case done =>
    rintro D ys V hD hS ⟨rfl, -⟩ hK
    exfalso
    unfold NumS at hS
    have := congrArg List.length hS
    rw [List.length_map, upto_len, List.length_nil] at this
    have h1 : 1 ≤ (List.drop i l).length / k := by
      have hk1 := hkh.out
      rw [Nat.le_div_iff_mul_le (by omega), List.length_drop]
      omega
    omega
  case stop =>
    rintro D c pre V hD hS ⟨⟨rfl, x, rfl⟩, ⟨x', hx', h4⟩, h5, hB⟩ hK
    obtain rfl : x = x' := by simpa using hx'
    have hx : Hid (x = numAt (fun t => l.getD t 0) i k) := hid (by
      obtain ⟨m, hm, e⟩ := hS
      have hm1 : m = 1 := by have := congrArg List.length e; rw [List.length_map, upto_len] at this; simpa using this.symm
      subst hm1
      have : x = numAt (fun t => (l.drop i).getD t 0) 0 k := by simpa [upto] using e
      rw [this, numAt_drop])
    obtain ⟨c4, f4⟩ := one h4
    obtain ⟨c5, f5⟩ := one h5
    have H4 := hid h4
    have HB := hid hB
    have HK := hid hK
    have H5 := hid h5
    clear hS hx' h4 h5 hB
    gi_wp2
    refine ⟨by simp, .inl ⟨_, _, rfl, run_takeDeferred HK.out, ?_⟩⟩
    have b4 : Boxed (V.putObj D (.deferred none)) w.heap.size 23 (.int .u32 x) := (World.putObj_heap_other (fun e => by have h := H4.out; have h' := HK.out; rw [e] at h; rw [h] at h'; cases h')).trans H4.out
    have b5 : Boxed (V.putObj D (.deferred none)) (w.heap.size + 1) 4 (.bool true) := (World.putObj_heap_other (fun e => by have h := H5.out; have h' := HK.out; rw [e] at h; rw [h] at h'; cases h')).trans H5.out
    have d4 := b4.cell
    have d5 := b5.cell
    refine ⟨.tuple #[.int .u32 x, .bool true], ?_, by rw [← hx.out], ?_⟩
    · simp [results, Tryz.results131, go_sem, d4, d5]
    · exact HB.out.trans (belowK_b (w := w) (Nat.le_refl _) V D _ _ (by have := HZ3.out; omega) HK.out rfl rfl)
end Go.Proofs.YtmfmomfhiieilaaGreatDoor
/- '(*wire.Cursor).Number': the next number is read. -/
set_option linter.unusedVariables false
namespace Go.Proofs.YtmfmomfhiieilaaGreatDoor
open Go.RowKit Go.Shelf Go.Proofs.YtmfmomfhiieilaaGreatDoor.It Go.Proofs.YtmfmomfhiieilaaGreatDoorW.PrintWords

set_option maxHeartbeats 1000000 in
theorem peek_no (k : Nat) (hk : k = 1 ∨ k = 2 ∨ k = 4) (p c i n : Nat) (A : Option Addr) (w : World) (hp : CurAt w p A n c i) (hl : n ≤ 1099511627776) (hi : i ≤ n) (hik : ¬ (k ≤ n - i)) :
    Calls Tryz.prog 131 #[.pointer (some ⟨p, 0, none⟩), .int .i64 k] w fun e w' => e = .returned (.tuple #[.int .u32 0, .bool false]) ∧ Below w.heap.size w w' := by
  have hrt : Hid (((k : Int) == 1 || (k : Int) == 2 || (k : Int) == 4) = true) := hid (by rcases hk with rfl | rfl | rfl <;> rfl)
  obtain ⟨W1, hW1⟩ : ∃ W1, W1 = (w.alloc (.cells #[.int .u32 0] 23)).alloc (.cells #[.bool false] 4) := ⟨_, rfl⟩
  have hB1 : Below w.heap.size w W1 := by rw [hW1]; exact below_alloc (below_alloc (Below.refl _ _) _) _
  have hp1 : CurAt W1 p A n c i := blk_below hp hB1
  have hleft := left_any p A n c i W1 hp1 hi hl
  have h41 : W1.heap[w.heap.size]? = some (.cells #[.int .u32 0] 23 (0, 0)) := by rw [hW1]; exact blk_alloc (blk_new _ _)
  have h51 : W1.heap[w.heap.size + 1]? = some (.cells #[.bool false] 4 (0, 0)) := by
    rw [hW1]
    have := blk_new (w.alloc (.cells #[.int .u32 0] 23)) (.cells #[.bool false] 4)
    rwa [World.size_alloc] at this
  have hlt : n - i < k := by omega
  have HL := hid hleft
  have H4 := hid h41
  have H5 := hid h51
  have hWh := hid hW1
  have hBb := hid hB1
  clear hleft hp1 hp hl hk hW1 h41 h51 hB1 hik
  go_enter Tryz.func131, Tryz.ntmps131
  go_wp2_with fail
  refine (right_any _ _).mono ?_
  rintro e w' ⟨rfl, rfl⟩
  rw [hrt.out, ← hWh.out]
  go_wp2_with fail
  refine HL.out.mono ?_
  rintro e w2 ⟨rfl, q, rfl⟩
  obtain ⟨c4, f4⟩ := one H4.out
  obtain ⟨c5, f5⟩ := one H5.out
  clear hWh
  go_wp2_with fail
  refine bodyPost_ret (v := .tuple #[.int .u32 0, .bool false]) (by simp [results, Tryz.results131, go_sem, c4, c5]) rfl ⟨rfl, ?_⟩
  exact below_set (below_set (below_drew hBb.out q) (Nat.le_refl _) _) (by omega) _
/-- What a read of a number leaves: the cursor has moved, and nothing else has. -/
def ReadPost (k : Nat) (l : List Int) (p c i : Nat) (A : Option Addr) (w : World) (e : Ending) (w' : World) : Prop :=
  e = .returned (.tuple #[.int .u32 (peekV k l i), .bool (decide (k ≤ l.length - i))]) ∧ CurAt w' p A l.length c (if k ≤ l.length - i then i + k else i) ∧ w.grownBy w' (some p)
theorem grown_of {w w' : World} (h : Below w.heap.size w w') (row : Option Nat) : w.grownBy w' row := ⟨h.os, h.tape, h.output, h.size, fun k hk _ => h.block k hk⟩
theorem grown_set {w w' : World} (h : Below w.heap.size w w') (p j : Nat) (v : Value) : w.grownBy (w'.setCell ⟨p, j, none⟩ v) (some p) :=
  ⟨h.os, h.tape, h.output, by have := h.size; simpa using this, fun k hk hne => (Below.heap_setCell _ ⟨p, j, none⟩ v k (fun e => hne (by rw [e]))).trans (h.block k hk)⟩
theorem cur_set {w : World} {p n c i : Nat} {A : Option Addr} (j : Nat) (h : CurAt w p A n c i) : CurAt (w.setCell ⟨p, 1, none⟩ (.int .i64 j)) p A n c j := by
  unfold CurAt at *
  simp [World.setCell, h, Array.getElem?_modify]
set_option maxHeartbeats 1000000 in
theorem number_any (k : Nat) (hk : k = 1 ∨ k = 2 ∨ k = 4) (p c i : Nat) (A : Option Addr) (l : List Int) (w : World) (hp : CurAt w p A l.length c i) (hC : BC w A l) (hB : Byt l) (hc : l.length ≤ c) (hl : l.length ≤ 1099511627776) (hi : i ≤ l.length) :
    Calls Tryz.prog 124 #[.pointer (some ⟨p, 0, none⟩), .int .i64 k] w (ReadPost k l p c i A w) := by
  by_cases hik : k ≤ l.length - i
  · rcases ints_cells hC with rfl | ⟨b, off, rfl, hlt, hcell⟩
    · simp at hik; omega
    have hpk := callsIn_wide.1 (peek_yes k hk p b off c i l w hp hcell hB hc hl (by omega))
    have hv0 : peekV k l i = numAt (fun t => l.getD t 0) i k := by unfold peekV; rw [if_pos hik]
    obtain ⟨x, hx⟩ : ∃ x, x = numAt (fun t => l.getD t 0) i k := ⟨_, rfl⟩
    rw [← hx] at hpk hv0
    have HP := hid hpk
    have hv := hid hv0
    clear hx hv0
    have hd : Hid (decide (k ≤ l.length - i) = true) := hid (by simp [hik])
    have hie := hid (show (if k ≤ l.length - i then i + k else i) = i + k from if_pos hik)
    have hph := hid hp
    have hki : (k : Int) ≤ 4 := by omega
    have hii : (i : Int) ≤ 1099511627776 := by omega
    clear hpk hp hC hB hc hl hk hik hcell hlt
    go_enter Tryz.func124, Tryz.ntmps124
    go_wp2_with fail
    refine HP.out.mono ?_
    rintro e w1 ⟨rfl, hb⟩
    have hp1 : CurAt w1 p (some ⟨b, off, none⟩) l.length c i := blk_below hph.out hb
    obtain ⟨⟨c0, c1⟩, f0, f1⟩ := two hp1
    have HB := hid hb
    have HP1 := hid hp1
    clear hb hp1 HP
    go_wp2_with fail
    go_ret2
    refine ⟨by rw [hv.out, hd.out]; rfl, ?_, ?_⟩
    · rw [hie.out]
      exact cur_set (i + k) HP1.out
    · exact grown_set HB.out p 1 _
  · have HP := hid (peek_no k hk p c i l.length A w hp hl hi hik)
    have hv : Hid (peekV k l i = 0) := hid (by unfold peekV; rw [if_neg hik])
    have hd : Hid (decide (k ≤ l.length - i) = false) := hid (by simp; omega)
    have hie := hid (show (if k ≤ l.length - i then i + k else i) = i from if_neg hik)
    have hph := hid hp
    clear hp hC hB hc hl hk hik
    go_enter Tryz.func124, Tryz.ntmps124
    go_wp2_with fail
    refine HP.out.mono ?_
    rintro e w1 ⟨rfl, hb⟩
    have HB := hid hb
    clear hb HP
    go_wp2_with fail
    go_ret2
    refine ⟨by rw [hv.out, hd.out]; rfl, ?_, ?_⟩
    · rw [hie.out]
      exact blk_below hph.out HB.out
    · exact grown_of HB.out _
end Go.Proofs.YtmfmomfhiieilaaGreatDoor
/- The size of a chunk without nodes. -/
set_option linter.unusedVariables false
namespace Go.Proofs.YtmfmomfhiieilaaGreatDoor
open Go.RowKit Go.Proofs.YtmfmomfhiieilaaGreatDoorW.PrintWords

set_option maxHeartbeats 1000000 in
/-- The size of a chunk, from the size of its nodes. -/
theorem csize_of (t f : Int) (A K : Option Addr) (n c m d : Nat) (s : Int) (w : World) (hn : n ≤ 1099511627776) (h0 : 0 ≤ s) (h1 : s ≤ 1099511627776) (hK : ∀ W, Below w.heap.size w W → Calls Tryz.prog 66 #[.slice K m d] W (IsPost (.int .i64 s) W)) :
    Calls Tryz.prog 35 #[.agg #[.int .u8 t, .int .u8 f, .slice A n c, .slice K m d]] w (IsPost (.int .i64 (4 + n + s)) w) := by
  obtain ⟨W0, hW0⟩ : ∃ W0, W0 = w.alloc (.cells #[.int .u8 t, .int .u8 f, .slice A n c, .slice K m d] 42) := ⟨_, rfl⟩
  have hB0 : Below w.heap.size w W0 := by rw [hW0]; exact below_alloc (Below.refl _ _) _
  have hc : W0.heap[w.heap.size]? = some (.cells #[.int .u8 t, .int .u8 f, .slice A n c, .slice K m d] 42 (0, 0)) := by rw [hW0]; exact blk_new _ _
  obtain ⟨⟨c0, c1, c2, c3⟩, -⟩ := four hc
  have r2 := fun d os => cell_regrown c2 d os
  have r3 := fun d os => cell_regrown c3 d os
  have hcall : ∀ d0 os, Calls Tryz.prog 66 #[.slice K m d] (Go.Sort.grow (redrawn W0 d0) os) fun e w'' => e = .returned (.int .i64 s) ∧ ∃ p : Regrown, w'' = Go.Sort.grow (redrawn W0 p.d) p.os := fun d0 os => Calls.regrown_of (hK _ (cthen hB0 (below_regrown W0 d0 os)))
  have hE := hid (show IntKind.i64.wrap (IntKind.i64.wrap (4 + (n : Int)) + s) = 4 + n + s by rw [IntWalk.i64_in (4 + (n : Int)) (by omega), IntWalk.i64_in _ (by omega)])
  have HC := hid hcall
  have HB := hid hB0
  have HW := hid hW0
  clear hcall hB0 hW0 hc hK c0 c1 c2 c3
  go_enter Tryz.func35, Tryz.ntmps35
  go_wp2_with fail
  rw [← HW.out]
  clear HW
  refine wp_region_quiet_below (by kernel_rfl) (by kernel_rfl) ?_
  repeat (quiet_step (exact HC.out _ _))
  refine wpQuiet_nil ?_
  intro _ hw'
  obtain ⟨⟨dq, osq⟩, hw''⟩ := hw'
  subst hw''
  go_wp2_with fail
  go_ret
  exact ⟨by rw [← hE.out]; rfl, cthen HB.out (below_regrown _ _ _)⟩
end Go.Proofs.YtmfmomfhiieilaaGreatDoor
/- The checks of a chunk, each by its contract: flags, data, the numbers in a sack. -/
set_option linter.unusedVariables false
namespace Go.Proofs.YtmfmomfhiieilaaGreatDoor
open Go.RowKit Go.Proofs.YtmfmomfhiieilaaGreatDoor.It Go.Proofs.YtmfmomfhiieilaaGreatDoorW.PrintWords

/-- A chunk as a value; its data and its nodes are slices. -/
def ckV (t f : Int) (A : Option Addr) (n c : Nat) (K : Option Addr) (m d : Nat) : Value := .agg #[.int .u8 t, .int .u8 f, .slice A n c, .slice K m d]
/-- What a check says: 'x' is the error, none if there is none. -/
def ErrPost (x : Option (Int × Option Int)) (w : World) (e : Ending) (w' : World) : Prop := e = .returned (eV x) ∧ Below w.heap.size w w'
def badFlags (f mask : Int) : Bool := bits .andNot .u8 f mask != 0
def flagsE (f mask : Int) : Option (Int × Option Int) := if badFlags f mask = true then some (6, some 1) else none
set_option maxHeartbeats 1000000 in
theorem flags_any (t f : Int) (A K : Option Addr) (n c m d : Nat) (r : KR) (w : World) :
    Calls Tryz.prog 47 #[ckV t f A n c K m d, r.val] w (ErrPost (flagsE f r.mask) w) := by
  unfold ckV KR.val flagsE badFlags
  by_cases h : (bits .andNot .u8 f r.mask != 0) = true
  · rw [if_pos h]
    have H := hid h
    go_enter Tryz.func47, Tryz.ntmps47
    go_wp2_with fail
    refine (new_any _ _ _).mono ?_
    rintro e w' ⟨rfl, rfl⟩
    go_wp2_with fail
    go_ret
    exact ⟨rfl, by repeat (first | with_reducible exact Below.refl _ _ | with_reducible apply below_alloc)⟩
  · rw [if_neg h]
    have h' : (bits .andNot .u8 f r.mask != 0) = false := by simpa using h
    clear h
    go_enter Tryz.func47, Tryz.ntmps47
    go_wp2_with fail
    go_ret
    exact ⟨rfl, by repeat (first | with_reducible exact Below.refl _ _ | with_reducible apply below_alloc)⟩
/-- Whether a number of bytes fits. -/
def fits (lo hi un n : Int) : Bool := decide (n ≥ lo) && decide (n ≤ hi) && ((n - lo) % un == 0)
set_option maxHeartbeats 1000000 in
theorem kfits_any (t mask : Int) (nm : ByteArray) (lo hi un kd n : Int) (w : World) (h1 : 0 ≤ lo) (h2 : hi ≤ 65531) (h3 : 1 ≤ un) (h4 : un ≤ 8) :
    Calls Tryz.prog 81 #[.agg #[.int .u8 t, .string nm, .int .u8 mask, .int .i64 lo, .int .i64 hi, .int .i64 un, .int .i64 kd], .int .i64 n] w (IsPost (.bool (fits lo hi un n)) w) := by
  go_enter Tryz.func81, Tryz.ntmps81
  by_cases c1 : n ≥ lo
  · by_cases c2 : n ≤ hi
    · have hr : 0 ≤ n - lo ∧ n - lo < 65532 := by omega
      have E : fits lo hi un n = ((n - lo) % un == 0) := by unfold fits; simp [c1, c2]
      go_wp2_with fail
      go_ret
      exact ⟨by first | rfl | (rw [E]; rfl), by repeat (first | with_reducible exact Below.refl _ _ | with_reducible apply below_alloc)⟩
    · have E : fits lo hi un n = false := by unfold fits; simp [c2]
      go_wp2_with fail
      go_ret
      exact ⟨by first | rfl | (rw [E]; rfl), by repeat (first | with_reducible exact Below.refl _ _ | with_reducible apply below_alloc)⟩
  · have E : fits lo hi un n = false := by unfold fits; simp [c1]
    go_wp2_with fail
    go_ret
    exact ⟨by first | rfl | (rw [E]; rfl), by repeat (first | with_reducible exact Below.refl _ _ | with_reducible apply below_alloc)⟩
/-- A row of the table is as a row may be. -/
def KR.ok (r : KR) : Prop := 0 ≤ r.least ∧ r.most ≤ 65531 ∧ 1 ≤ r.unit ∧ r.unit ≤ 8 ∧ 0 ≤ r.kids ∧ r.kids ≤ 6 ∧ r.least ≤ 17 ∧ 0 ≤ r.mask ∧ r.mask ≤ 255 ∧ 0 ≤ r.ty ∧ r.ty ≤ 255
theorem kR_ok (i : Nat) (h : i < 23) : (kR i).ok := by
  have : ∀ i, i < 23 → (kR i).ok := by unfold KR.ok; decide
  exact this i h
def dataE (r : KR) (n : Nat) : Option (Int × Option Int) := if fits r.least r.most r.unit n = true then none else some (7, some 0)
set_option maxHeartbeats 1000000 in
theorem data_any (t f : Int) (A K : Option Addr) (n c m d : Nat) (r : KR) (hr : r.ok) (w : World) :
    Calls Tryz.prog 48 #[ckV t f A n c K m d, r.val] w (ErrPost (dataE r n) w) := by
  obtain ⟨r1, r2, r3, r4, -⟩ := hr
  have hf := fun W => kfits_any r.ty r.mask r.nm r.least r.most r.unit r.kids n W r1 r2 r3 r4
  have HF := hid hf
  clear hf r1 r2 r3 r4
  unfold ckV KR.val dataE
  cases h : fits r.least r.most r.unit n
  · rw [if_neg (by decide)]
    have H := hid h
    clear h
    go_enter Tryz.func48, Tryz.ntmps48
    go_wp2_with fail
    refine (HF.out _).mono ?_
    rintro e w' ⟨rfl, hb⟩
    rw [H.out]
    have HB := hid hb
    clear hb
    go_wp2_with fail
    refine (new_any _ _ _).mono ?_
    rintro e w' ⟨rfl, rfl⟩
    go_wp2_with fail
    go_ret
    exact ⟨rfl, cthen (below_alloc (below_alloc (Below.refl _ _) _) _) HB.out⟩
  · rw [if_pos rfl]
    have H := hid h
    clear h
    go_enter Tryz.func48, Tryz.ntmps48
    go_wp2_with fail
    refine (HF.out _).mono ?_
    rintro e w' ⟨rfl, hb⟩
    rw [H.out]
    have HB := hid hb
    clear hb
    go_wp2_with fail
    go_ret
    exact ⟨rfl, cthen (below_alloc (below_alloc (Below.refl _ _) _) _) HB.out⟩
end Go.Proofs.YtmfmomfhiieilaaGreatDoor
/- The check of the nodes of a chunk that has none; of the numbers in a sack; of reserved bits. -/
set_option linter.unusedVariables false
namespace Go.Proofs.YtmfmomfhiieilaaGreatDoor
open Go.RowKit Go.Proofs.YtmfmomfhiieilaaGreatDoor.It Go.Proofs.YtmfmomfhiieilaaGreatDoorW.PrintWords

/-- Part of a row of bytes. -/
theorem BC.part {w : World} {b off : Nat} {l : List Int} (h : ∀ t, t < l.length → w.cell? ⟨b, off + t, none⟩ = some (.int .u8 (l.getD t 0))) (i k : Nat) (hk : i + k ≤ l.length) (hk9 : k ≤ 1000) : BC w (some ⟨b, off + i, none⟩) ((l.drop i).take k) := by
  have hl : ((l.drop i).take k).length = k := by simp; omega
  refine ints_mk (by omega) (fun t ht => ?_)
  have := h (i + t) (by omega)
  rw [← Nat.add_assoc] at this
  rw [this]
  rw [hl] at ht
  simp [List.getD_eq_getElem?_getD, ht, List.getElem?_drop]
theorem Byt.part {l : List Int} (h : Byt l) (i k : Nat) : Byt ((l.drop i).take k) := fun x hx => h x (List.mem_of_mem_drop (List.mem_of_mem_take hx))
/-- Two numbers of two bytes. -/
theorem nums_two (l : List Int) (i : Nat) (hl : i + 4 ≤ l.length) : numsOf 2 ((l.drop i).take 4) = [numAt (fun t => l.getD t 0) i 2, numAt (fun t => l.getD t 0) (i + 2) 2] := by
  have h4 : ((l.drop i).take 4).length = 4 := by simp; omega
  have g : ∀ t, t < 4 → ((l.drop i).take 4)[t]?.getD 0 = l[i + t]?.getD 0 := fun t ht => by simp [ht, List.getElem?_drop]
  unfold numsOf
  rw [h4]
  simp [upto, List.range_succ, numAt, Nat.add_assoc]
theorem nums_one (l : List Int) (i : Nat) (hl : i + 2 ≤ l.length) : numsOf 2 ((l.drop i).take 2) = [numAt (fun t => l.getD t 0) i 2] := by
  have h4 : ((l.drop i).take 2).length = 2 := by simp; omega
  have g : ∀ t, t < 2 → ((l.drop i).take 2)[t]?.getD 0 = l[i + t]?.getD 0 := fun t ht => by simp [ht, List.getElem?_drop]
  unfold numsOf
  rw [h4]
  simp [upto, List.range_succ, numAt]
theorem num2_bd {l : List Int} (h : Byt l) (i : Nat) : 0 ≤ numAt (fun t => l.getD t 0) i 2 ∧ numAt (fun t => l.getD t 0) i 2 ≤ 65535 := by
  have b : ∀ t, 0 ≤ l.getD t 0 ∧ l.getD t 0 ≤ 255 := fun t => by
    rw [List.getD_eq_getElem?_getD]
    cases hx : l[t]? with
    | none => simp
    | some x => exact h x (List.mem_of_getElem? hx)
  have h1 := b (i + 0)
  have h2 := b (i + 1)
  simp only [numAt]
  omega
/-- Whether the numbers in a sack are wrong. -/
def countB (l : List Int) : Bool := numAt (fun t => l.getD t 0) 8 2 + numAt (fun t => l.getD t 0) 10 2 != ((l.length : Int) - 12) / 4
def countE (t : Int) (l : List Int) : Option (Int × Option Int) := if t = 3 then (if countB l = true then some (8, some 12) else none) else none
set_option maxHeartbeats 1000000 in
theorem count_not (t f : Int) (A K : Option Addr) (n c m d : Nat) (r : KR) (w : World) (ht : t ≠ 3) :
    Calls Tryz.prog 50 #[ckV t f A n c K m d, r.val] w (ErrPost none w) := by
  have h3 : (t != 3) = true := by simpa using ht
  clear ht
  unfold ckV KR.val
  go_enter Tryz.func50, Tryz.ntmps50
  go_wp2_with fail
  go_ret
  exact ⟨rfl, below_alloc (below_alloc (Below.refl _ _) _) _⟩
set_option maxHeartbeats 1000000 in
theorem count_sack (f : Int) (A K : Option Addr) (c m d : Nat) (l : List Int) (r : KR) (w : World) (hC : BC w A l) (hB : Byt l) (hc : l.length ≤ c) (hl : l.length ≤ 1099511627776) (h12 : 12 ≤ l.length) :
    Calls Tryz.prog 50 #[ckV 3 f A l.length c K m d, r.val] w (ErrPost (countE 3 l) w) := by
  rcases ints_cells hC with rfl | ⟨b, off, rfl, hlt, hcell⟩
  · simp at h12
  unfold ckV KR.val
  obtain ⟨W1, hW1⟩ : ∃ W1, W1 = (w.alloc (.cells #[.int .u8 3, .int .u8 f, .slice (some ⟨b, off, none⟩) l.length c, .slice K m d] 42)).alloc (.cells #[.int .u8 r.ty, .string r.nm, .int .u8 r.mask, .int .i64 r.least, .int .i64 r.most, .int .i64 r.unit, .int .i64 r.kids] 79) := ⟨_, rfl⟩
  have hB1 : Below w.heap.size w W1 := by rw [hW1]; exact below_alloc (below_alloc (Below.refl _ _) _) _
  have hk1 : W1.heap[w.heap.size]? = some (.cells #[.int .u8 3, .int .u8 f, .slice (some ⟨b, off, none⟩) l.length c, .slice K m d] 42 (0, 0)) := by rw [hW1]; exact blk_alloc (blk_new _ _)
  have hP : BC W1 (some ⟨b, off + 8, none⟩) ((l.drop 8).take 4) := (BC.part hcell 8 4 (by omega) (by omega)).below hB1
  have h4 : ((l.drop 8).take 4).length = 4 := by simp; omega
  have hN := Numbers_any 2 (by omega) _ (c - 8) _ W1 hP (hB.part 8 4) (by omega) (by omega) (by rw [h4])
  rw [h4, nums_two l 8 (by omega)] at hN
  have HN := hid hN
  have HW := hid hW1
  have HB1 := hid hB1
  have HK1 := hid hk1
  have hx := num2_bd hB 8
  have hy := num2_bd hB (8 + 2)
  obtain ⟨x, hxe⟩ : ∃ x, x = numAt (fun t => l.getD t 0) 8 2 := ⟨_, rfl⟩
  obtain ⟨y, hye⟩ : ∃ y, y = numAt (fun t => l.getD t 0) (8 + 2) 2 := ⟨_, rfl⟩
  have hw1 : wrap64 ((l.length : Int) - 12) = (l.length : Int) - 12 := IntWalk.wrap64_in _ (by omega)
  have hw2 : wrap64 ((wrap64 ((l.length : Int) - 12)).tdiv 4) = ((l.length : Int) - 12) / 4 := by
    rw [hw1, Int.tdiv_eq_ediv_of_nonneg (by omega)]
    exact IntWalk.wrap64_in _ (by omega)
  have hE : countE 3 l = if (x + y != wrap64 ((wrap64 ((l.length : Int) - 12)).tdiv 4)) = true then some (8, some 12) else none := by unfold countE countB; rw [if_pos rfl, hw2, hxe, hye]
  rw [← hxe] at hx
  rw [← hye] at hy
  rw [← hxe, ← hye] at HN
  rw [hE]
  have hc8 : 8 < c := by omega
  have hc12 : 12 ≤ c := by omega
  have hd4 : (0 : Int) ≤ (l.length : Int) - 12 := by omega
  clear hC hB hl hcell hW1 hB1 hk1 hP h4 hN hxe hye hE hw1 hw2
  by_cases hxy : (x + y != wrap64 ((wrap64 ((l.length : Int) - 12)).tdiv 4)) = true
  · rw [if_pos hxy]
    go_enter Tryz.func50, Tryz.ntmps50
    go_wp2_with fail
    rw [← HW.out]
    refine HN.out.mono ?_
    rintro e w2 ⟨v, rfl, hR, hb⟩
    obtain ⟨A2, c2, rfl, hl2, hC2⟩ := Kd.R_reads hR
    have hk2 := blk_below HK1.out hb
    obtain ⟨⟨-, -, d2, -⟩, -⟩ := four hk2
    rcases ints_cells hC2 with h0 | ⟨b2, off2, rfl, hlt2, hcell2⟩
    · cases h0
    have x0 := hcell2 0 (by simp)
    have x1 := hcell2 1 (by simp)
    simp at x0 x1
    have HB2 := hid (cthen HB1.out hb)
    clear hR hl2 hC2 hcell2 hb hk2 HN HK1 HB1
    go_wp2_with fail
    go_quiet (fail)
    go_wp2_with fail
    refine (new_any _ _ _).mono ?_
    rintro e w' ⟨rfl, rfl⟩
    go_wp2_with fail
    go_ret
    exact ⟨rfl, below_drew HB2.out _⟩
  · rw [if_neg hxy]
    have hxy' : (x + y != wrap64 ((wrap64 ((l.length : Int) - 12)).tdiv 4)) = false := by simpa using hxy
    clear hxy
    go_enter Tryz.func50, Tryz.ntmps50
    go_wp2_with fail
    rw [← HW.out]
    refine HN.out.mono ?_
    rintro e w2 ⟨v, rfl, hR, hb⟩
    obtain ⟨A2, c2, rfl, hl2, hC2⟩ := Kd.R_reads hR
    have hk2 := blk_below HK1.out hb
    obtain ⟨⟨-, -, d2, -⟩, -⟩ := four hk2
    rcases ints_cells hC2 with h0 | ⟨b2, off2, rfl, hlt2, hcell2⟩
    · cases h0
    have x0 := hcell2 0 (by simp)
    have x1 := hcell2 1 (by simp)
    simp at x0 x1
    have HB2 := hid (cthen HB1.out hb)
    clear hR hl2 hC2 hcell2 hb hk2 HN HK1 HB1
    go_wp2_with fail
    go_quiet (fail)
    go_wp2_with fail
    go_ret
    exact ⟨rfl, below_drew HB2.out _⟩
end Go.Proofs.YtmfmomfhiieilaaGreatDoor
/- The check of reserved bits. -/
set_option linter.unusedVariables false
namespace Go.Proofs.YtmfmomfhiieilaaGreatDoor
open Go.RowKit Go.Proofs.YtmfmomfhiieilaaGreatDoor.It Go.Proofs.YtmfmomfhiieilaaGreatDoorW.PrintWords

set_option maxHeartbeats 1000000 in
theorem value_not (t f : Int) (A K : Option Addr) (n c m d : Nat) (r : KR) (w : World) (ht : t ≠ 64) (ht2 : t ≠ 194) :
    Calls Tryz.prog 51 #[ckV t f A n c K m d, r.val] w (ErrPost none w) := by
  have h3 : (t == 64) = false := by simpa using ht
  have h4 : (t == 194) = false := by simpa using ht2
  clear ht ht2
  unfold ckV KR.val
  go_enter Tryz.func51, Tryz.ntmps51
  go_wp2_with fail
  go_ret
  exact ⟨rfl, below_alloc (below_alloc (Below.refl _ _) _) _⟩
/-- The reserved bits of group j. -/
def grp (l : List Int) (j : Nat) : Int := numAt (fun t => l.getD t 0) (6 + 8 * j) 2
def GrpI (w : World) (t f : Int) (A K : Option Addr) (n c m d : Nat) (W : World) : Prop := Below w.heap.size w W ∧ W.heap[w.heap.size]? = some (.cells #[.int .u8 t, .int .u8 f, .slice A n c, .slice K m d] 42 (0, 0))
set_option maxRecDepth 100000 in
set_option maxHeartbeats 4000000 in
theorem value_fwd (f : Int) (A K : Option Addr) (c m d : Nat) (l : List Int) (r : KR) (w : World) (q j0 : Nat) (hC : BC w A l) (hB : Byt l) (hc : l.length ≤ c) (hl : l.length ≤ 1000000) (hq : l.length = 4 + 8 * q) (hj : j0 ≤ q) (hg : ∀ j, j < j0 → ¬ 1 < grp l j) (hb : j0 < q → 1 < grp l j0) :
    Calls Tryz.prog 51 #[ckV 194 f A l.length c K m d, r.val] w (ErrPost (if j0 < q then some (11, some ((10 + 8 * j0 : Nat) : Int)) else none) w) := by
  rcases ints_cells hC with rfl | ⟨b, off, rfl, hlt, hcell⟩
  · simp at hq
    omega
  unfold ckV KR.val
  obtain ⟨R, hR⟩ : ∃ R, R = (if j0 < q then some (11, some ((10 + 8 * j0 : Nat) : Int)) else none : Option (Int × Option Int)) := ⟨_, rfl⟩
  rw [← hR]
  have HR := hid hR
  have HC := hid hcell
  have HBy := hid hB
  have HG := hid hg
  have HQ := hid hq
  have Hb := hid hb
  have hlq : 4 + 8 * q ≤ c := by omega
  have hq2 : q ≤ 1000000 := by omega
  clear hC hB hcell hR hg hq hb
  go_enter Tryz.func51, Tryz.ntmps51
  go_wp2_with fail
  go_step3
  go_wp2_with fail
  go_step3
  go_wp2_with fail
  go_loopw [5, 6] (fun av iv W => ∃ j : Nat, iv = .int .i64 ((4 + 8 * j : Nat) : Int) ∧ j ≤ j0 ∧ av = .int .i64 (-1) ∧ Hid (GrpI w 194 f (some ⟨b, off, none⟩) K l.length c m d W)) (fun _ iv _ => 100000000 - (intOf iv).toNat)
  case atStart => exact ⟨0, rfl, by omega, rfl, hid ⟨below_alloc (below_alloc (Below.refl _ _) _) _, blk_alloc (blk_new _ _)⟩⟩
  case round =>
    obtain ⟨j, rfl, hjj, rfl, hW⟩ := hrel
    obtain ⟨⟨-, -, c2, -⟩, -⟩ := four hW.out.2
    by_cases hlt2 : j < q
    · have hl8 : 4 + 8 * j + 8 ≤ l.length := by have := HQ.out; omega
      have hlt3 : 4 + 8 * j < l.length := by omega
      have hP : BC wr (some ⟨b, off + (4 + 8 * j + 2), none⟩) ((l.drop (4 + 8 * j + 2)).take 2) := (BC.part HC.out (4 + 8 * j + 2) 2 (by omega) (by omega)).below hW.out.1
      have h2 : ((l.drop (4 + 8 * j + 2)).take 2).length = 2 := by simp; omega
      have hN := Numbers_any 2 (by omega) _ (c - (4 + 8 * j + 2)) _ wr hP (HBy.out.part (4 + 8 * j + 2) 2) (by omega) (by omega) (by rw [h2])
      rw [h2, nums_one l _ (by omega)] at hN
      have hx := num2_bd HBy.out (4 + 8 * j + 2)
      have hxe0 : numAt (fun t => l.getD t 0) (4 + 8 * j + 2) 2 = grp l j := by unfold grp; congr 1; omega
      rw [hxe0] at hN hx
      have hgj := HG.out j
      have hbj := Hb.out
      obtain ⟨x, hxe⟩ : ∃ x, x = grp l j := ⟨_, rfl⟩
      rw [← hxe] at hN hx hgj
      have HN := hid hN
      clear hP h2 hN hxe0
      by_cases hjl : j < j0
      · have hx1 : ¬ 1 < x := by have := hgj hjl; omega
        clear hgj hbj hxe
        go_wp2_with fail
        refine HN.out.mono ?_
        rintro e w2 ⟨v, rfl, hR, hb⟩
        obtain ⟨A2, c2', rfl, hl2, hC2⟩ := Kd.R_reads hR
        have hk2 := blk_below hW.out.2 hb
        rcases ints_cells hC2 with h0 | ⟨b2, off2, rfl, hlt4, hcell2⟩
        · cases h0
        have x0 := hcell2 0 (by simp)
        simp at x0
        have HB2 := hid (cthen hW.out.1 hb)
        have HK2 := hid hk2
        obtain ⟨⟨-, -, d2, -⟩, -⟩ := four hk2
        clear hR hl2 hC2 hcell2 hb hk2 HN
        go_wp2_with fail
        go_roundw
        case rel => exact ⟨j + 1, by go_num, by omega, rfl, hid ⟨HB2.out, HK2.out⟩⟩
        case measure => simp [intOf]; omega
      · obtain rfl : j = j0 := by omega
        have hx1 : 1 < x := by rw [hxe]; exact hbj hlt2
        have hR' : Hid (R = some (11, some ((10 + 8 * j : Nat) : Int))) := hid (by rw [HR.out, if_pos hlt2])
        clear hgj hbj hxe
        go_wp2_with fail
        refine HN.out.mono ?_
        rintro e w2 ⟨v, rfl, hR, hb⟩
        obtain ⟨A2, c2', rfl, hl2, hC2⟩ := Kd.R_reads hR
        have hk2 := blk_below hW.out.2 hb
        rcases ints_cells hC2 with h0 | ⟨b2, off2, rfl, hlt4, hcell2⟩
        · cases h0
        have x0 := hcell2 0 (by simp)
        simp at x0
        have HB2 := hid (cthen hW.out.1 hb)
        have HK2 := hid hk2
        obtain ⟨⟨-, -, d2, -⟩, -⟩ := four hk2
        clear hR hl2 hC2 hcell2 hb hk2 HN
        go_wp2_with fail
        rw [Exit.noGoto_normal]
        go_wp2_with fail
        refine (new_any _ _ _).mono ?_
        rintro e w' ⟨rfl, rfl⟩
        go_wp2_with fail
        go_ret
        refine ⟨?_, HB2.out⟩
        have e : ((10 + 8 * j : Nat) : Int) = 4 + (4 + 8 * (j : Int) + 2) := by omega
        rw [hR'.out, e]
        rfl
    · have hjq : ¬ (4 + 8 * j < l.length) := by have := HQ.out; omega
      have hR' : Hid (R = none) := hid (by rw [HR.out, if_neg (by omega)])
      go_wp2_with fail
      rw [Exit.noGoto_normal]
      go_wp2_with fail
      go_ret
      exact ⟨by rw [hR'.out]; rfl, hW.out.1⟩
end Go.Proofs.YtmfmomfhiieilaaGreatDoor
