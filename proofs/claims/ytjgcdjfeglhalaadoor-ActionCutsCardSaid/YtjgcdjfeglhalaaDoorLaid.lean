/- What the row's condition gives: the two tables, cell by cell. -/
import Derived.Test.YtjgcdjfeglhalaaDoorRows
import Derived.Test.YtjgcdjfeglhalaaDoorAwake
import Derived.ProofKit
import Derived.LaidMore
import Derived.OpenShut
namespace Go.Proofs.YtjgcdjfeglhalaaDoor
open Go.ChangeShapes Go.WideShapes Go.ChangeAt Go.RowKit
theorem gTable : Tryd.prog.globalNamed "wharf/kind.table" = some 1 := by kernel_rfl
theorem gNames : Tryd.prog.globalNamed "wharf/action.names" = some 0 := by kernel_rfl
theorem tTable : (Tryd.prog.globals[1]?).map (·.type) = some 62 := by kernel_rfl
theorem tNames : (Tryd.prog.globals[0]?).map (·.type) = some 47 := by kernel_rfl
theorem c49 : Tryd.prog.cellsOf 49 = 7 := by kernel_rfl
theorem c5 : Tryd.prog.cellsOf 5 = 1 := by kernel_rfl
theorem c9 : Tryd.prog.cellsOf 9 = 1 := by kernel_rfl
theorem c3 : Tryd.prog.cellsOf 3 = 1 := by kernel_rfl
theorem c62 : Tryd.prog.cellsOf 62 = 161 := by kernel_rfl
def KR.datum (r : KR) : DataW Unit := .agg [.lit (.int .u8 r.ty), .lit (.string r.nm.data.toList), .lit (.int .u8 r.mask), .lit (.int .i64 r.least), .lit (.int .i64 r.most), .lit (.int .i64 r.unit), .lit (.int .i64 r.kids)]
theorem laidT : Rows.laid_wharf_kind_table = .agg (kRows.map KR.datum) := rfl
theorem laidN : (Rows.laid_wharf_action_names : DataW Unit) = .agg (aNames.map fun s => .lit (.string s.data.toList)) := rfl
section
variable {enc : TypeId × Value → Unit} {w : World} {base : Nat} {sp : Nat → Bool} {held : Bool}
theorem int_cell {t : TypeId} {k : IntKind} {fuel : Nat} {cs : List Value} {x : DataW Unit × List MemPlace} {a : Int} (ht : Tryd.prog.underlying t = some (.int k)) (h : DataW.trod enc Tryd.prog w base sp held fuel t cs = some x) (hx : x.1 = .lit (.int k a)) : cs = [.int k a] := by
  obtain ⟨n, rfl, rfl, _⟩ := DataW.trod_int ht h
  simp at hx
  rw [hx]
theorem str_cell {t : TypeId} {fuel : Nat} {cs : List Value} {x : DataW Unit × List MemPlace} {s : ByteArray} (ht : Tryd.prog.underlying t = some .string) (h : DataW.trod enc Tryd.prog w base sp held fuel t cs = some x) (hx : x.1 = .lit (.string s.data.toList)) : cs = [.string s] := by
  obtain ⟨n, rfl, rfl, _⟩ := DataW.trod_string ht h
  simp at hx
  have : n = s := ByteArray.ext (by simpa using hx)
  rw [this]
theorem krow_cells {fuel : Nat} {cs : List Value} {x : DataW Unit × List MemPlace} {r : KR} (h : DataW.trod enc Tryd.prog w base sp held fuel 49 cs = some x) (hx : x.1 = r.datum) : cs = r.cells := by
  obtain ⟨xs, n, _, rfl, hl, hn, hf⟩ := DataW.trod_struct Tryd.underlying49 h
  rw [c49] at hl
  match cs, hl with
  | [v0, v1, v2, v3, v4, v5, v6], _ =>
    match xs, hn, hx with
    | [x0, x1, x2, x3, x4, x5, x6], _, hx =>
      simp only [List.map_cons, List.map_nil, KR.datum, DataW.agg.injEq, List.cons.injEq] at hx
      obtain ⟨e0, e1, e2, e3, e4, e5, e6, _⟩ := hx
      have g0 := int_cell Tryd.underlying5 (hf 0 _ rfl) e0
      have g1 := str_cell Tryd.underlying9 (hf 1 _ rfl) e1
      have g2 := int_cell Tryd.underlying5 (hf 2 _ rfl) e2
      have g3 := int_cell Tryd.underlying3 (hf 3 _ rfl) e3
      have g4 := int_cell Tryd.underlying3 (hf 4 _ rfl) e4
      have g5 := int_cell Tryd.underlying3 (hf 5 _ rfl) e5
      have g6 := int_cell Tryd.underlying3 (hf 6 _ rfl) e6
      simp [c5, c9, c3] at g0 g1 g2 g3 g4 g5 g6
      rw [g0, g1, g2, g3, g4, g5, g6]
      rfl
end
def laidRow : List (String × DataW Unit) := [("wharf/kind.table", Rows.laid_wharf_kind_table), ("wharf/action.names", Rows.laid_wharf_action_names)]
theorem of_laid {W : World} (h : laidMetH Tryd.prog laidRow W) : GTab W := by
  rw [MakeChecks.laidMetH_plain _ _ _ (by kernel_rfl)] at h
  obtain ⟨ps, ⟨g0, t0, cs0, f0, p0, q0, hg0, ht0, hv0, hd0, ⟨g1, t1, cs1, f1, p1, q1, hg1, ht1, hv1, hd1, _, _⟩, _⟩, _, _⟩ := h
  obtain rfl := Option.some.inj (gTable.symm.trans hg0)
  obtain rfl := Option.some.inj (gNames.symm.trans hg1)
  obtain rfl := Option.some.inj (tTable.symm.trans ht0)
  obtain rfl := Option.some.inj (tNames.symm.trans ht1)
  rw [laidT] at hd0
  rw [laidN] at hd1
  have hc0 := World.var?_cell hg0 hv0
  have hc1 := World.var?_cell hg1 hv1
  have hk : ∀ i, i < 23 → KRow W i (kR i) := fun i hi => by
    obtain ⟨xs, m1, _, hx1, hlen, hn3, hel⟩ := DataW.trod_array Tryd.underlying62 hd0
    have hl : i < kRows.length := hi
    have e1 : kRows[i]? = some (kR i) := by
      unfold kR
      rw [List.getD_eq_getElem?_getD, List.getElem?_eq_getElem hl]
      rfl
    have e2 : (xs.map (·.1))[i]? = some (kR i).datum := by
      have := congrArg Prod.fst hx1
      simp only [DataW.agg.injEq] at this
      rw [← this, List.getElem?_map, e1]
      rfl
    rw [List.getElem?_map, Option.map_eq_some_iff] at e2
    obtain ⟨x, hx, hxd⟩ := e2
    have h1 := hel i hi
    rw [hx, c49] at h1
    have h2 := krow_cells h1 hxd
    have hc : ∀ j, j < 7 → W.cell? ⟨1, i * 7 + j, none⟩ = ((kR i).cells)[j]? := fun j hj => by
      rw [hc0, ← h2, List.getElem?_take_of_lt hj, List.getElem?_drop, Array.getElem?_toList]
    exact ⟨hc 0 (by omega), hc 1 (by omega), hc 2 (by omega), hc 3 (by omega), hc 4 (by omega), hc 5 (by omega), hc 6 (by omega)⟩
  have hsz : 2 ≤ W.heap.size := World.block_lt_of_cell? W _ (hk 0 (by omega)).c0
  refine ⟨⟨hsz, hk⟩, ⟨hsz, fun i hi => ?_⟩⟩
  obtain ⟨xs, m1, _, hx1, hlen, hn3, hel⟩ := DataW.trod_array Tryd.underlying47 hd1
  have hl : i < aNames.length := hi
  have e2 : (xs.map (·.1))[i]? = some (.lit (.string (aNames.getD i ⟨#[]⟩).data.toList)) := by
    have := congrArg Prod.fst hx1
    simp only [DataW.agg.injEq] at this
    rw [← this, List.getElem?_map, List.getD_eq_getElem?_getD, List.getElem?_eq_getElem hl]
    rfl
  rw [List.getElem?_map, Option.map_eq_some_iff] at e2
  obtain ⟨x, hx, hxd⟩ := e2
  have h1 := hel i hi
  rw [hx, c9] at h1
  have h2 := str_cell Tryd.underlying9 h1 hxd
  have h3 : W.cell? ⟨0, i * 1 + 0, none⟩ = ([.string (aNames.getD i ⟨#[]⟩)] : List Value)[0]? := by
    rw [hc1, ← h2, List.getElem?_take_of_lt (by omega), List.getElem?_drop, Array.getElem?_toList]
  simpa using h3
end Go.Proofs.YtjgcdjfeglhalaaDoor
