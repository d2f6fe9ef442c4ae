import Derived.Test.YtjgcdjfeglhalaaL5
import Derived.Laws.StructEq
import Derived.Maps.RangeWalk
set_option linter.unusedVariables false
namespace Go.Proofs.Ytjgcdjfeglhalaa
open Go.RowKit Go.Proofs.YtjgcdjfeglhalaaW.PrintWords

theorem ba_data (a b : ByteArray) : (a == b) = (a.data == b.data) := by cases a; cases b; rfl
/-- Strings are compared by their bytes. -/
theorem str_eq (a b : ByteArray) : (a.toList == b.toList) = decide (a = b) := by
  rw [← beq_toListBytes, ba_data, Bool.eq_iff_iff]
  simp [ByteArray.ext_iff]
theorem uniq_ty {l : List FR} (h : (l.map (·.ty)).Nodup) {a b : FR} (ha : a ∈ l) (hb : b ∈ l) (e : a.ty = b.ty) : a = b := by
  induction l with
  | nil => cases ha
  | cons r l ih =>
    rw [List.map_cons, List.nodup_cons] at h
    rcases List.mem_cons.1 ha with ea | ka
    · rcases List.mem_cons.1 hb with eb | kb
      · rw [ea, eb]
      · exact absurd (by rw [← ea, e]; exact List.mem_map_of_mem kb) h.1
    · rcases List.mem_cons.1 hb with eb | kb
      · exact absurd (by rw [← eb, ← e]; exact List.mem_map_of_mem ka) h.1
      · exact ih h.2 ka kb
def ByPost (c : Int) (name : ByteArray) (w : World) (e : Ending) (w' : World) : Prop := ∃ (k : Int) (r : FR) (b : Bool), ((b = true ∧ k = c ∧ r ∈ fRowsOf c ∧ r.nm = name) ∨ (b = false ∧ k = 0 ∧ r = fZ ∧ ∀ q ∈ fRowsOf c, q.nm ≠ name)) ∧
  e = .returned (.tuple #[.agg #[.int .i64 k, .int .u16 r.ty, .string r.nm, .int .i64 r.least, .int .i64 r.most, .int .i64 r.unit, .int .i64 r.kids], .bool b]) ∧ Below w.heap.size w w'
/-- What has been seen and was not wanted. -/
def Seen (c : Int) (name : ByteArray) (left : Lit → Bool) : Prop := ∀ r ∈ fRowsOf c, left (.int .u16 r.ty) = false → r.nm ≠ name
theorem held_row {c x : Int} {v : Value} {y : DataW Value × List MemPlace} (hv : heldElem v = some y) (hat : ∀ zd, (fD c (fRowsOf c)).atKey (.int .u16 x) zd = y.1) : ∃ r ∈ fRowsOf c, r.ty = x ∧ v = r.val c := by
  unfold heldElem at hv
  cases hv
  have h1 := hat (.map [])
  rw [fD_at] at h1
  cases hf : fFindIn (fRowsOf c) x with
  | none => rw [hf] at h1; simp at h1
  | some r =>
    rw [hf] at h1
    simp only [DataW.held.injEq] at h1
    unfold fFindIn at hf
    exact ⟨r, by simpa using List.mem_of_find?_eq_some hf, by simpa using List.find?_some hf, h1.symm⟩
set_option maxHeartbeats 4000000 in
theorem byName_any (c : Int) (name : ByteArray) (w : World) : Calls Try.prog 16 #[.int .i64 c, .string name] w (ByPost c name w) := by
  go_enter Try.func16, Try.ntmps16
  go_wp2_with fail
  refine (forms_any c _).mono ?_
  rintro e w1 ⟨bm, hbm, rfl, hown, hb⟩
  have K1 := hid (new_blk hb)
  have B1 := hid (((Below.refl w.heap.size w).alloc (Nat.le_refl _) _).trans (hb.mono (by simp)))
  have hsz : w.heap.size < w1.heap.size := by have := hb.size; simp at this; omega
  clear hb
  go_wp2_with (at_range; refine wpList_range_own _ rfl _ 46 rfl 23 28 law22 Try.underlying46 heldElem bm 64 _ rfl hown ?_; intro w0 hrg0 hg0 hs0)
  go_frame
  go_loopw [7] (fun _ wr => ∃ (left : Lit → Bool) (cnt : Nat), wr.ranges Try.prog 23 heldElem bm w1.heap.size 64 (fD c (fRowsOf c)) left cnt ∧ Seen c name left ∧ Below w1.heap.size w1 wr) (fun _ wr => wr.rangeLeft bm w1.heap.size)
  case atStart =>
    refine ⟨_, _, hrg0, fun r hr hl => ?_, (Below.refl _ _).grown hg0 (Nat.le_refl _) (fun k e => by cases e)⟩
    rw [fD_has] at hl
    have : (fRowsOf c).any (fun q => q.ty == r.ty) = true := List.any_eq_true.2 ⟨r, hr, by simp⟩
    rw [this] at hl
    cases hl
  case round =>
    obtain ⟨left, cnt, hrg, hS, hW⟩ := hrel
    have hKr : Hid (wr.heap[w.heap.size]? = some (.cells #[.int .i64 0, .int .u16 0, .string ⟨#[]⟩, .int .i64 0, .int .i64 0, .int .i64 0, .int .i64 0] 28 (0, 0))) := hid (blk_below K1.out hW)
    have hBr : Hid (Below w.heap.size w wr) := hid (cthen B1.out hW)
    go_wp2_with (at_next; refine wpList_next_ranges _ rfl _ rfl 23 law22 heldElem (fun x : Int => Value.int .u16 x) id (fun key kl hk => by obtain ⟨x, hx, _⟩ := Seq.key_u16 Try.underlying23 hk; exact ⟨x, hx⟩) (fun v _ _ => ⟨v, rfl⟩) bm w1.heap.size 64 _ _ _ rfl hrg ?_ ?_)
    · intro hc0 hl0
      have s7 := seven hKr.out
      have hlt : w.heap.size < wr.heap.size := (Array.getElem?_eq_some_iff.1 hKr.out).1
      have hno := hid (show ∀ q ∈ fRowsOf c, q.nm ≠ name from fun q hq => hS q hq (hl0 _))
      clear hS
      go_wp2_with fail
      refine bodyPost_ret (v := .tuple #[.agg #[.int .i64 0, .int .u16 fZ.ty, .string fZ.nm, .int .i64 fZ.least, .int .i64 fZ.most, .int .i64 fZ.unit, .int .i64 fZ.kids], .bool false]) (by simp [results, Try.results16, go_sem, s7, fZ]) rfl ⟨0, fZ, false, .inr ⟨rfl, rfl, rfl, hno.out⟩, rfl, ?_⟩
      repeat (first | with_reducible exact hBr.out | with_reducible apply below_alloc | with_reducible apply below_set0)
    · intro x v kl yd yp w2 cnt2 hkey hlk hv hat hrg2 hlt hg2 hs2 hen
      obtain ⟨x', ex, rfl⟩ := Seq.key_u16 Try.underlying23 hkey
      obtain rfl : x = x' := by simpa using ex
      obtain ⟨r, hr, hrt, hrv⟩ := held_row hv hat
      unfold FR.val at hrv
      subst hrv
      have hK2 : Hid (w2.heap[w.heap.size]? = some (.cells #[.int .i64 0, .int .u16 0, .string ⟨#[]⟩, .int .i64 0, .int .i64 0, .int .i64 0, .int .i64 0] 28 (0, 0))) := hid ((hg2.block w.heap.size (Array.getElem?_eq_some_iff.1 hKr.out).1 (by simp; omega)).trans hKr.out)
      have hW2 : Below w1.heap.size w1 w2 := hW.grown hg2 hW.size (fun k e => by cases e; exact Nat.le_refl _)
      have hB2 := hid (cthen B1.out hW2)
      have hW2' := hid hW2
      have hlt2 : w.heap.size < w2.heap.size := (Array.getElem?_eq_some_iff.1 hK2.out).1
      have hml : w2.rangeLeft bm w1.heap.size < wr.rangeLeft bm w1.heap.size := by rw [hrg2.left_eq, hrg.left_eq]; exact hlt
      have hrg3 := hid hrg2
      have hml' := hid hml
      have hS' := hid hS
      have hrgo := hid hrg
      have hlto := hid hlt
      clear hs2 hW2 hg2 hrg hml hrg2 hS hat hlt hlk hkey hv
      have hstep : Hid ((r.nm.toList == name.toList) = false → Seen c name (fun z => left z && !z.sameKey (.int .u16 r.ty))) := fun hx q hq hl => by
        rw [str_eq, decide_eq_false_iff_not] at hx
        by_cases e : q.ty = r.ty
        · rw [uniq_ty (fRowsOf_nodup c) hq hr e]; exact hx
        · refine hS'.out q hq ?_
          simpa [Lit.sameKey, e] using hl
      have heq : Hid ((r.nm.toList == name.toList) = true → r.nm = name) := fun hx => by rw [str_eq] at hx; exact of_decide_eq_true hx
      subst hrt
      obtain ⟨nmr, hnm⟩ : ∃ x, x = r.nm := ⟨_, rfl⟩
      by_cases hx : (r.nm.toList == name.toList) = true
      rotate_left
      · have hxb : (r.nm.toList == name.toList) = false := by simpa using hx
        have hSt := hid (hstep.out hxb)
        clear hx hstep heq hnm
        go_wp2
        go_roundw
        case rel =>
          exact ⟨_, cnt2, hrg3.out.of_walks (KeepsWalks.alloc _ _), hSt.out, hW2'.out.alloc hW2'.out.size _⟩
        case measure => rw [(hrg3.out.of_walks (KeepsWalks.alloc _ _)).left_eq, hrgo.out.left_eq]; exact hlto.out
      · have heqn := hid (heq.out hx)
        have s7 := seven hK2.out
        clear heq hstep hnm
        go_wp2
        refine bodyPost_ret (v := .tuple #[.agg #[.int .i64 c, .int .u16 r.ty, .string r.nm, .int .i64 r.least, .int .i64 r.most, .int .i64 r.unit, .int .i64 r.kids], .bool true]) (by simp [results, Try.results16, go_sem, s7, hlt2]) rfl ⟨c, r, true, .inl ⟨rfl, rfl, hr, heqn.out⟩, rfl, ?_⟩
        repeat (first | with_reducible exact hB2.out | with_reducible apply below_alloc | with_reducible apply below_set0)
end Go.Proofs.Ytjgcdjfeglhalaa
