/- What the row's condition gives, cell by cell; the arguments of the laws opened. -/
import Derived.Test.YtmfmomfhiieilaaGreatDoorRows
import Derived.Test.YtmfmomfhiieilaaGreatDoorMa
import Derived.ProofKit
import Derived.LaidMore
import Derived.OpenShut
import Derived.Test.YtmfmomfhiieilaaGreatDoorWWords
import Derived.Lib.SmallJoins
import Derived.Deep.Slices
import Derived.Test.YtmfmomfhiieilaaGreatDoorBls
/- What the row's condition gives: the three variables, cell by cell. -/
set_option linter.unusedVariables false
namespace Go.Proofs.YtmfmomfhiieilaaGreatDoor
open Go.ChangeShapes Go.WideShapes Go.ChangeAt Go.RowKit
theorem gTable : Tryz.prog.globalNamed "wharf/kind.table" = some 1 := by kernel_rfl
theorem gInside : Tryz.prog.globalNamed "wharf/kind.inside" = some 2 := by kernel_rfl
theorem gErr : Tryz.prog.globalNamed "errors.errorType" = some 0 := by kernel_rfl
theorem tTable : (Tryz.prog.globals[1]?).map (·.type) = some 125 := by kernel_rfl
theorem tInside : (Tryz.prog.globals[2]?).map (·.type) = some 128 := by kernel_rfl
theorem cKind : Tryz.prog.cellsOf 79 = 7 := by kernel_rfl
theorem cI3 : Tryz.prog.cellsOf 127 = 3 := by kernel_rfl
theorem cU8 : Tryz.prog.cellsOf 5 = 1 := by kernel_rfl
theorem cStr : Tryz.prog.cellsOf 9 = 1 := by kernel_rfl
theorem cInt : Tryz.prog.cellsOf 3 = 1 := by kernel_rfl
def KR.cells (r : KR) : List Value := [.int .u8 r.ty, .string r.nm, .int .u8 r.mask, .int .i64 r.least, .int .i64 r.most, .int .i64 r.unit, .int .i64 r.kids]
def KR.datum (r : KR) : DataW Unit := .agg [.lit (.int .u8 r.ty), .lit (.string r.nm.data.toList), .lit (.int .u8 r.mask), .lit (.int .i64 r.least), .lit (.int .i64 r.most), .lit (.int .i64 r.unit), .lit (.int .i64 r.kids)]
def iDatum (r : Int × Int × Int) : DataW Unit := .agg [.lit (.int .i64 r.1), .lit (.int .i64 r.2.1), .lit (.int .i64 r.2.2)]
theorem laidT : Rows.laid_wharf_kind_table = .agg (kRows.map KR.datum) := rfl
theorem laidI : Rows.laid_wharf_kind_inside = .agg (iRows.map iDatum) := rfl
section
variable {enc : TypeId × Value → Unit} {w : World} {base : Nat} {sp : Nat → Bool} {held : Bool}
theorem int_cell {t : TypeId} {k : IntKind} {fuel : Nat} {cs : List Value} {x : DataW Unit × List MemPlace} {a : Int} (ht : Tryz.prog.underlying t = some (.int k)) (h : DataW.trod enc Tryz.prog w base sp held fuel t cs = some x) (hx : x.1 = .lit (.int k a)) : cs = [.int k a] := by
  obtain ⟨n, rfl, rfl, _⟩ := DataW.trod_int ht h
  simp at hx
  rw [hx]
theorem str_cell {t : TypeId} {fuel : Nat} {cs : List Value} {x : DataW Unit × List MemPlace} {s : ByteArray} (ht : Tryz.prog.underlying t = some .string) (h : DataW.trod enc Tryz.prog w base sp held fuel t cs = some x) (hx : x.1 = .lit (.string s.data.toList)) : cs = [.string s] := by
  obtain ⟨n, rfl, rfl, _⟩ := DataW.trod_string ht h
  simp at hx
  have : n = s := ByteArray.ext (by simpa using hx)
  rw [this]
set_option maxRecDepth 1000000 in
theorem krow_cells {fuel : Nat} {cs : List Value} {x : DataW Unit × List MemPlace} {r : KR} (h : DataW.trod enc Tryz.prog w base sp held fuel 79 cs = some x) (hx : x.1 = r.datum) : cs = r.cells := by
  obtain ⟨xs, n, _, rfl, hl, hn, hf⟩ := DataW.trod_struct Tryz.underlying79 h
  rw [cKind] at hl
  match cs, hl with
  | [v0, v1, v2, v3, v4, v5, v6], _ =>
    match xs, hn, hx with
    | [x0, x1, x2, x3, x4, x5, x6], _, hx =>
      simp only [List.map_cons, List.map_nil, KR.datum, DataW.agg.injEq, List.cons.injEq] at hx
      obtain ⟨e0, e1, e2, e3, e4, e5, e6, _⟩ := hx
      have g0 := int_cell Tryz.underlying5 (hf 0 _ rfl) e0
      have g1 := str_cell Tryz.underlying9 (hf 1 _ rfl) e1
      have g2 := int_cell Tryz.underlying5 (hf 2 _ rfl) e2
      have g3 := int_cell Tryz.underlying3 (hf 3 _ rfl) e3
      have g4 := int_cell Tryz.underlying3 (hf 4 _ rfl) e4
      have g5 := int_cell Tryz.underlying3 (hf 5 _ rfl) e5
      have g6 := int_cell Tryz.underlying3 (hf 6 _ rfl) e6
      simp [cU8, cStr, cInt] at g0 g1 g2 g3 g4 g5 g6
      rw [g0, g1, g2, g3, g4, g5, g6]
      rfl
set_option maxRecDepth 1000000 in
theorem irow_cells {fuel : Nat} {cs : List Value} {x : DataW Unit × List MemPlace} {r : Int × Int × Int} (h : DataW.trod enc Tryz.prog w base sp held fuel 127 cs = some x) (hx : x.1 = iDatum r) : cs = [.int .i64 r.1, .int .i64 r.2.1, .int .i64 r.2.2] := by
  obtain ⟨xs, n, _, rfl, hl, hn, hf⟩ := DataW.trod_array Tryz.underlying127 h
  rw [cI3] at hl
  match cs, hl with
  | [v0, v1, v2], _ =>
    match xs, hn, hx with
    | [x0, x1, x2], _, hx =>
      simp only [List.map_cons, List.map_nil, iDatum, DataW.agg.injEq, List.cons.injEq] at hx
      obtain ⟨e0, e1, e2, _⟩ := hx
      have g0 := int_cell Tryz.underlying3 (hf 0 (by omega)) e0
      have g1 := int_cell Tryz.underlying3 (hf 1 (by omega)) e1
      have g2 := int_cell Tryz.underlying3 (hf 2 (by omega)) e2
      simp [cInt] at g0 g1 g2
      rw [g0, g1, g2]
end
theorem errTy : ∀ ty, ty < Tryz.prog.types.size → Tryz.prog.rowNamed ty [101, 114, 114, 111, 114] = true → ty = 31 := by decide +kernel
theorem gAlone : Tryz.prog.globalNamed "wharf/legal.alone" = some 3 := by kernel_rfl
theorem tAlone : (Tryz.prog.globals[3]?).map (·.type) = some 138 := by kernel_rfl
def laidRow : List (String × DataW Unit) := [("errors.errorType", Rows.laid_errors_errorType), ("wharf/kind.table", Rows.laid_wharf_kind_table), ("wharf/kind.inside", Rows.laid_wharf_kind_inside), ("wharf/legal.alone", Rows.laid_wharf_legal_alone)]
def alRows : List Int := [1, 2, 14]
theorem laidA : (Rows.laid_wharf_legal_alone : DataW Unit) = .agg (alRows.map (fun r => DataW.lit (.int .u8 r))) := rfl
theorem cutR : (Tryz.prog.cutTypes.find? (·.1 == "internal/reflectlite.rtype")).map (·.2) = some 152 := by kernel_rfl
theorem hErr : (Rows.laid_errors_errorType : DataW Unit).handleName? = some [101, 114, 114, 111, 114] := by kernel_rfl
theorem fErr : (Rows.laid_errors_errorType : DataW Unit).funcsIn?.isNone = true := by kernel_rfl
theorem laid_parts {W : World} (h : laidMetH Tryz.prog laidRow W) : laidMet Tryz.prog [("wharf/kind.table", Rows.laid_wharf_kind_table), ("wharf/kind.inside", Rows.laid_wharf_kind_inside), ("wharf/legal.alone", Rows.laid_wharf_legal_alone)] W ∧ handlesMet Tryz.prog [("errors.errorType", Rows.laid_errors_errorType)] W := h
theorem err_cell {W : World} (h : handlesMet Tryz.prog [("errors.errorType", Rows.laid_errors_errorType)] W) : W.cell? ⟨0, 0, none⟩ = some (.iface 152 (.agg #[.pointer (some ⟨4, 31, none⟩)])) := by
  have h1 := h _ (List.mem_singleton.2 rfl)
  have hf : (Rows.laid_errors_errorType : DataW Unit).funcsIn? = none := by simpa using fErr
  simp only [hf] at h1
  obtain ⟨name, u, ty, hn, hu, hty, hrow, hv⟩ := h1
  rw [hErr] at hn
  cases hn
  rw [cutR] at hu
  cases hu
  obtain rfl := errTy ty hty hrow
  have hc := World.var?_cell gErr hv 0
  simpa [typeHandle] using hc
set_option maxRecDepth 1000000 in
theorem of_laid {W : World} (h0 : laidMetH Tryz.prog laidRow W) : GTab W ∧ Bn.GLg W := by
  obtain ⟨h, he⟩ := laid_parts h0
  have hE := err_cell he
  obtain ⟨ps, ⟨g0, t0, cs0, f0, p0, q0, hg0, ht0, hv0, hd0, ⟨g1, t1, cs1, f1, p1, q1, hg1, ht1, hv1, hd1, ⟨g2, t2, cs2, f2, p2, q2, hg2, ht2, hv2, hd2, _, _⟩, _⟩, _⟩, _, _⟩ := h
  obtain rfl := Option.some.inj (gTable.symm.trans hg0)
  obtain rfl := Option.some.inj (gInside.symm.trans hg1)
  obtain rfl := Option.some.inj (gAlone.symm.trans hg2)
  obtain rfl := Option.some.inj (tAlone.symm.trans ht2)
  obtain rfl := Option.some.inj (tTable.symm.trans ht0)
  obtain rfl := Option.some.inj (tInside.symm.trans ht1)
  rw [laidT] at hd0
  rw [laidI] at hd1
  rw [laidA] at hd2
  have hc2 := World.var?_cell hg2 hv2
  have hc0 := World.var?_cell hg0 hv0
  have hc1 := World.var?_cell hg1 hv1
  have hAl : ∀ i, i < 3 → W.cell? ⟨3, i, none⟩ = some (.int .u8 (alRows.getD i 0)) := fun i hi => by
    obtain ⟨xs, m1, _, hx1, hlen, hn3, hel⟩ := DataW.trod_array Tryz.underlying138 hd2
    have e2 : (xs.map (·.1))[i]? = some (.lit (.int .u8 (alRows.getD i 0))) := by
      have := congrArg Prod.fst hx1
      simp only [DataW.agg.injEq] at this
      have hl : i < alRows.length := hi
      rw [← this, List.getElem?_map, List.getD_eq_getElem?_getD, List.getElem?_eq_getElem hl]
      rfl
    rw [List.getElem?_map, Option.map_eq_some_iff] at e2
    obtain ⟨x, hx, hxd⟩ := e2
    have h1 := hel i hi
    rw [hx, cU8] at h1
    have h2 := int_cell Tryz.underlying5 h1 hxd
    rw [hc2]
    have h3 := congrArg (fun l : List Value => l[0]?) h2
    rw [List.getElem?_take_of_lt (by omega), List.getElem?_drop, Nat.mul_one, Nat.add_zero, Array.getElem?_toList] at h3
    exact h3
  refine ⟨⟨?_, fun i hi => ?_, fun i hi => ?_, hE⟩, ⟨?_, hAl 0 (by omega), hAl 1 (by omega), hAl 2 (by omega)⟩⟩
  · have := World.block_lt_of_cell? W _ (hAl 0 (by omega))
    exact Nat.le_of_lt this
  · obtain ⟨xs, m1, _, hx1, hlen, hn3, hel⟩ := DataW.trod_array Tryz.underlying125 hd0
    have hl : i < kRows.length := hi
    have e1 : kRows[i]? = some (kR i) := by
      unfold kR
      rw [List.getD_eq_getElem?_getD, List.getElem?_eq_getElem hl]
      rfl
    have e2 : (xs.map (·.1))[i]? = some (kR i).datum := by
      have := congrArg Prod.fst hx1
      simp only [DataW.agg.injEq] at this
      rw [← this, List.getElem?_map, e1]
      rfl
    rw [List.getElem?_map, Option.map_eq_some_iff] at e2
    obtain ⟨x, hx, hxd⟩ := e2
    have h1 := hel i hi
    rw [hx, cKind] at h1
    have h2 := krow_cells h1 hxd
    have hc : ∀ j, j < 7 → W.cell? ⟨1, i * 7 + j, none⟩ = ((kR i).cells)[j]? := fun j hj => by
      rw [hc0, ← h2, List.getElem?_take_of_lt hj, List.getElem?_drop, Array.getElem?_toList]
    exact ⟨hc 0 (by omega), hc 1 (by omega), hc 2 (by omega), hc 3 (by omega), hc 4 (by omega), hc 5 (by omega), hc 6 (by omega)⟩
  · obtain ⟨xs, m1, _, hx1, hlen, hn3, hel⟩ := DataW.trod_array Tryz.underlying128 hd1
    have hl : i < iRows.length := hi
    have e2 : (xs.map (·.1))[i]? = some (iDatum (iRows.getD i (0, 0, 0))) := by
      have := congrArg Prod.fst hx1
      simp only [DataW.agg.injEq] at this
      rw [← this, List.getElem?_map, List.getD_eq_getElem?_getD, List.getElem?_eq_getElem hl]
      rfl
    rw [List.getElem?_map, Option.map_eq_some_iff] at e2
    obtain ⟨x, hx, hxd⟩ := e2
    have h1 := hel i hi
    rw [hx, cI3] at h1
    have h2 := irow_cells h1 hxd
    have hc : ∀ j, j < 3 → W.cell? ⟨2, i * 3 + j, none⟩ = ([.int .i64 (iRows.getD i (0, 0, 0)).1, .int .i64 (iRows.getD i (0, 0, 0)).2.1, .int .i64 (iRows.getD i (0, 0, 0)).2.2] : List Value)[j]? := fun j hj => by
      rw [hc1, ← h2, List.getElem?_take_of_lt hj, List.getElem?_drop, Array.getElem?_toList]
    exact ⟨hc 0 (by omega), hc 1 (by omega), hc 2 (by omega)⟩
  · have := World.block_lt_of_cell? W _ (hAl 0 (by omega))
    exact this
end Go.Proofs.YtmfmomfhiieilaaGreatDoor
/- Arguments that read as data, opened to the printed kinds. -/
set_option linter.unusedVariables false
namespace Go.Proofs.YtmfmomfhiieilaaGreatDoor
open Go.ChangeShapes Go.WideShapes Go.RowKit Go.Joins Go.Deep Go.Proofs.YtmfmomfhiieilaaGreatDoorW.PrintWords
theorem choose_list {α : Type} (n : Nat) (Q : Nat → α → Prop) (h : ∀ i, i < n → ∃ a, Q i a) : ∃ l : List α, l.length = n ∧ ∀ i a, l[i]? = some a → Q i a := by
  induction n with
  | zero => exact ⟨[], rfl, fun i a h => by simp at h⟩
  | succ n ih =>
    obtain ⟨l, hl, hq⟩ := ih (fun i hi => h i (by omega))
    obtain ⟨a, ha⟩ := h n (by omega)
    refine ⟨l ++ [a], by simp [hl], fun i b hb => ?_⟩
    rcases Nat.lt_or_ge i n with g | g
    · rw [List.getElem?_append_left (by omega)] at hb
      exact hq i b hb
    · rw [List.getElem?_append_right (by omega)] at hb
      have h1 := (List.getElem?_eq_some_iff.1 hb).1
      simp at h1
      have : i = n := by omega
      subst this
      simp [hl] at hb
      subst hb
      exact ha
section
variable {H : Type} (enc : TypeId × Value → H) (P : Program) (w : World) (base : Nat) (sp : Nat → Bool) (held : Bool)
/-- Whatever reads as data of type t (at fuel n) is some a of a kind, with what 'good' says. -/
def Opens {α : Type} (d : Kd α) (good : α → Prop) (t : TypeId) (n : Nat) : Prop :=
  ∀ (cs : List Value) (x : DataW H × List MemPlace), DataW.trod enc P w base sp held n t cs = some x → ∃ a, d.K w a cs ∧ good a
variable {enc P w base sp held}
theorem opens_int {k : IntKind} {t : TypeId} {n : Nat} (ht : P.underlying t = some (.int k)) : Opens enc P w base sp held (Kd.int k) (fun a => (Lit.int k a).wf = true) t n := by
  intro cs x h
  obtain ⟨a, rfl, _, hw⟩ := DataW.trod_int ht h
  exact ⟨a, rfl, hw⟩
theorem opens_slice {t e : TypeId} {E n : Nat} {α : Type} {d : Kd α} {good : α → Prop} (ht : P.underlying t = some (.slice e)) (hC : P.cellsOf e = d.sz) (he : ∀ m, m < n → Opens enc P w base sp held d good e m) :
    Opens enc P w base sp held (Kd.slice E d) (fun l => ∀ a ∈ l, good a) t n := by
  intro cs x h
  rcases DataW.trod_slice ht h with ⟨rfl, _⟩ | ⟨a, len, cap, elems, rest, m, hm, rfl, rfl, hb, hl, hcm, hlen, hel, _, _⟩
  · exact ⟨[], ⟨none, 0, rfl, Nat.zero_le _, ⟨rfl, by simp, fun h => by simp at h⟩⟩, fun a ha => by cases ha⟩
  · obtain ⟨l, hll, hq⟩ := choose_list len (fun i (a' : α) => (∃ c : List Value, c.length = d.sz ∧ d.K w a' c ∧ ∀ j u, c[j]? = some u → w.cell? (a.add (i * d.sz + j)) = some u) ∧ good a') (fun i hi => by
      have h1 := hel i hi
      rw [List.getElem?_eq_getElem (by omega)] at h1
      obtain ⟨cs', hc, ht'⟩ := Option.bind_eq_some_iff.1 h1
      obtain ⟨_, hcl, hat⟩ := World.cells?_some hc
      obtain ⟨a', hk, hg⟩ := he m (by omega) cs' _ ht'
      refine ⟨a', ⟨cs', d.K_len hk, hk, fun j u hu => ?_⟩, hg⟩
      have hj : j < cs'.length := (List.getElem?_eq_some_iff.1 hu).1
      have := hat j (by omega)
      rw [Go.Deep.add_add, hC] at this
      rw [this]
      exact hu)
    refine ⟨l, ⟨some a, cap, by rw [hll], by omega, ⟨rfl, ?_, fun _ => ⟨a, rfl, fun j p hp => (hq j p hp).1⟩⟩⟩, fun p hp => ?_⟩
    · have : cap ≤ 9223372036854775807 := hcm
      omega
    · obtain ⟨i, hi, rfl⟩ := List.getElem_of_mem hp
      exact (hq i _ (List.getElem?_eq_getElem hi)).2
/-- A struct of one-cell fields: field by field. -/
theorem one_fields {t : TypeId} {fs : Array Field} {n : Nat} {cs : List Value} {x : DataW H × List MemPlace} (ht : P.underlying t = some (.struct fs)) (hone : oneCellFields P fs = true) (hC : P.cellsOf t = fs.size) (h : DataW.trod enc P w base sp held n t cs = some x) :
    cs.length = fs.size ∧ ∃ m, n = m + 1 ∧ ∀ (i : Nat) (f : Field) (v : Value), fs[i]? = some f → cs[i]? = some v → ∃ y, DataW.trod enc P w base sp held m f.type [v] = some y := by
  obtain ⟨xs, m, hn, hx, hl, hlen, hf⟩ := DataW.trod_struct ht h
  refine ⟨by rw [hl, hC], m, hn, fun i f v hi hv => ?_⟩
  obtain ⟨ho, hk⟩ := hone_of hone i f hi
  have h1 := hf i f hi
  have hil : i < fs.size := (Array.getElem?_eq_some_iff.1 hi).1
  rw [ho, hk] at h1
  have hc1 : (cs.drop i).take 1 = [v] := by
    rw [List.take_one, List.head?_drop, hv]
    rfl
  rw [hc1] at h1
  exact ⟨xs[i]'(by omega), h1.trans (List.getElem?_eq_getElem (by omega))⟩
end
end Go.Proofs.YtmfmomfhiieilaaGreatDoor
/- Chunks with nodes, packets' headers. -/
set_option linter.unusedVariables false
namespace Go.Proofs.YtmfmomfhiieilaaGreatDoor
open Go.ChangeShapes Go.WideShapes Go.RowKit Go.Joins Go.Deep Go.Proofs.YtmfmomfhiieilaaGreatDoorW.PrintWords
namespace Bn
open PBundleSorted
section
variable {H : Type} {enc : TypeId × Value → H} {w : World} {base : Nat} {sp : Nat → Bool} {held : Bool}
theorem opens_bytes (n : Nat) : Opens enc Tryz.prog w base sp held (Kd.slice 5 (Kd.int .u8)) (fun l => ∀ a ∈ l, (Lit.int .u8 a).wf = true) 39 n :=
  opens_slice Tryz.underlying39 (by kernel_rfl) (fun m _ => opens_int Tryz.underlying5)
theorem okL_of : ∀ l : List Nd, (∀ x ∈ l, okN x) → okL l
  | [], _ => by rw [okL]; trivial
  | x :: l, h => by rw [okL]; exact ⟨h x (by simp), okL_of l (fun y hy => h y (by simp [hy]))⟩
set_option maxRecDepth 100000 in
theorem opens_node : ∀ (k n : Nat), n ≤ k → Opens enc Tryz.prog w base sp held k87 (fun x => okN x) 87 n := by
  intro k
  induction k with
  | zero =>
    intro n hn cs x h
    obtain ⟨-, m, hm, -⟩ := one_fields Tryz.underlying87 (by kernel_rfl) (by kernel_rfl) h
    omega
  | succ k ih =>
    intro n hn cs x h
    obtain ⟨hl, m, hm, hf⟩ := one_fields Tryz.underlying87 (by kernel_rfl) (by kernel_rfl) h
    match cs, hl with
    | [v0, v1, v2], _ =>
      obtain ⟨y0, h0⟩ := hf 0 _ v0 rfl rfl
      obtain ⟨y1, h1⟩ := hf 1 _ v1 rfl rfl
      obtain ⟨y2, h2⟩ := hf 2 _ v2 rfl rfl
      obtain ⟨a, hc0, _, w0⟩ := DataW.trod_int Tryz.underlying22 h0
      obtain ⟨l1, ⟨A1, c1, e1, b1, g1⟩, hB⟩ := opens_bytes _ _ _ h1
      obtain ⟨l2, ⟨A2, c2, e2, b2, g2⟩, hN⟩ := opens_slice (E := 0) Tryz.underlying40 (by kernel_rfl) (fun m' hm' => ih m' (by omega)) _ _ h2
      simp at hc0 e1 e2
      subst hc0 e1 e2
      exact ⟨⟨a, l1, l2⟩, k87_mk w ⟨a, l1, l2⟩ b1 g1 b2 g2, (okN_eq _).2 ⟨bounds_u16 w0, fun x hx => bounds_u8 (hB x hx), okL_of l2 hN⟩⟩
set_option maxRecDepth 100000 in
theorem opens_chunk (n : Nat) : Opens enc Tryz.prog w base sp held k42 (fun x => CkR x) 42 n := by
  intro cs x h
  obtain ⟨hl, m, hm, hg⟩ := one_fields Tryz.underlying42 (by kernel_rfl) (by kernel_rfl) h
  match cs, hl with
  | [v0, v1, v2, v3], _ =>
    obtain ⟨y0, h0⟩ := hg 0 _ v0 rfl rfl
    obtain ⟨y1, h1⟩ := hg 1 _ v1 rfl rfl
    obtain ⟨y2, h2⟩ := hg 2 _ v2 rfl rfl
    obtain ⟨y3, h3⟩ := hg 3 _ v3 rfl rfl
    obtain ⟨t, e0, _, w0⟩ := DataW.trod_int Tryz.underlying5 h0
    obtain ⟨f, e1, _, w1⟩ := DataW.trod_int Tryz.underlying5 h1
    obtain ⟨D, ⟨A, c, e2, b2, g2⟩, hB⟩ := opens_bytes _ _ _ h2
    obtain ⟨xs, ⟨K, e, e3, b3, g3⟩, hN⟩ := opens_slice (E := 0) Tryz.underlying40 (by kernel_rfl) (fun m' hm' => opens_node m' m' (Nat.le_refl _)) _ _ h3
    simp at e0 e1 e2 e3
    subst e0 e1 e2 e3
    exact ⟨⟨t, f, D, xs⟩, k42_mk w ⟨t, f, D, xs⟩ b2 g2 b3 g3, ⟨(bounds_u8 w0).1, (bounds_u8 w0).2, (bounds_u8 w1).1, (bounds_u8 w1).2, fun x hx => bounds_u8 (hB x hx), okL_of xs hN⟩⟩
/-- A list of chunks that came in. -/
theorem cks_open {A : Option Addr} {n c : Nat} {d : DataW H} {ps : List MemPlace} (h : DataW.Trod enc Tryz.prog w base sp held 26 (.slice A n c) d ps) : ∃ l : List Ck, n = l.length ∧ CsC w A l.length l ∧ l.length ≤ c ∧ ∀ x ∈ l, CkR x := by
  obtain ⟨fuel, hf⟩ := h
  obtain ⟨l, ⟨A1, c1, e1, b1, g1⟩, hk⟩ := opens_slice (E := 0) Tryz.underlying26 (by kernel_rfl) (fun m _ => opens_chunk m) _ _ hf
  simp [Value.cells] at e1
  obtain ⟨rfl, rfl, rfl⟩ := e1
  exact ⟨l, rfl, g1, b1, hk⟩
set_option maxRecDepth 100000 in
/-- A header that came in. -/
theorem hd_open {r : Reach} {b0 : Nat} {v : Value} {d : DataW H} {ps : List MemPlace} (hv : Value.okWide Tryz.prog w r b0 25 v) (h : DataW.Trod enc Tryz.prog w base sp held 25 v d ps) : ∃ (s dd g : Int), v = .agg #[.int .u16 s, .int .u16 dd, .int .u32 g] := by
  obtain ⟨fuel, hf⟩ := h
  obtain ⟨cs, rfl, -⟩ := okWide_struct Tryz.underlying25 hv
  obtain ⟨hl, m, hm, hg⟩ := one_fields Tryz.underlying25 (by kernel_rfl) (by kernel_rfl) hf
  obtain ⟨l⟩ := cs
  match l, hl with
  | [v0, v1, v2], _ =>
    obtain ⟨y0, h0⟩ := hg 0 _ v0 rfl rfl
    obtain ⟨y1, h1⟩ := hg 1 _ v1 rfl rfl
    obtain ⟨y2, h2⟩ := hg 2 _ v2 rfl rfl
    obtain ⟨t, e0, _, w0⟩ := DataW.trod_int Tryz.underlying22 h0
    obtain ⟨f, e1, _, w1⟩ := DataW.trod_int Tryz.underlying22 h1
    obtain ⟨g, e2, _, w2⟩ := DataW.trod_int Tryz.underlying23 h2
    simp at e0 e1 e2
    subst e0 e1 e2
    exact ⟨t, f, g, rfl⟩
end
end Bn
end Go.Proofs.YtmfmomfhiieilaaGreatDoor
