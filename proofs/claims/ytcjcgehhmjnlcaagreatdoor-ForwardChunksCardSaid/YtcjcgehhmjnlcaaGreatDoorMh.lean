/- Joined: Spl, Srd, Mgd, Mgp, Awk. -/
import Derived.Shelf.SlSortCmp.WholeK
import Derived.Test.YtcjcgehhmjnlcaaGreatDoorProg
import Derived.Test.YtcjcgehhmjnlcaaGreatDoorMg
import Derived.Shelf.SlSortCmp.NoneTotal
import Derived.Test.YtcjcgehhmjnlcaaGreatDoorMe
import Derived.Test.YtcjcgehhmjnlcaaGreatDoorMf
/- slices.SortFunc at skips: the laying, in plain words (written by lay-plain out of one laying command; the numbers are this seat's). -/
namespace Go.Proofs
open Go.Shelf
def Tryz.sortSk_ren : Go.Shelf.Ren := ⟨fun | 6 => 118 | 15 => 142 | 14 => 144 | 28 => 162 | 29 => 163 | 20 => 164 | 21 => 165 | 22 => 166 | 23 => 167 | 24 => 168 | 25 => 169 | 26 => 170 | 27 => 171 | 46 => 179 | 47 => 175 | 48 => 176 | 49 => 180 | 50 => 181 | 57 => 183 | n => n, fun | 22 => 38 | 24 => 28 | 25 => 27 | 3 => 3 | 39 => 96 | 0 => 0 | 53 => 23 | 55 => 252 | 4 => 4 | 46 => 244 | 45 => 243 | 50 => 157 | 5 => 5 | 9 => 9 | 66 => 261 | 70 => 265 | 76 => 269 | 77 => 270 | n => n, fun | n => n⟩
theorem Tryz.sortSk : Go.Proofs.SlLaysF0.n6 Tryz.prog Tryz.sortSk_ren := {
  mixed := by kernel_rfl
  f6 := ⟨Tryz.f118.name, by decide, Tryz.func118.trans (congrArg some (by kernel_rfl))⟩
  f14 := ⟨Tryz.f144.name, by decide, Tryz.func144.trans (congrArg some (by kernel_rfl))⟩
  f15 := Tryz.func142.trans (congrArg some (by kernel_rfl))
  f20 := ⟨Tryz.f164.name, by decide, Tryz.func164.trans (congrArg some (by kernel_rfl))⟩
  f21 := ⟨Tryz.f165.name, by decide, Tryz.func165.trans (congrArg some (by kernel_rfl))⟩
  f22 := ⟨Tryz.f166.name, by decide, Tryz.func166.trans (congrArg some (by kernel_rfl))⟩
  f23 := ⟨Tryz.f167.name, by decide, Tryz.func167.trans (congrArg some (by kernel_rfl))⟩
  f24 := ⟨Tryz.f168.name, by decide, Tryz.func168.trans (congrArg some (by kernel_rfl))⟩
  f25 := ⟨Tryz.f169.name, by decide, Tryz.func169.trans (congrArg some (by kernel_rfl))⟩
  f26 := ⟨Tryz.f170.name, by decide, Tryz.func170.trans (congrArg some (by kernel_rfl))⟩
  f27 := ⟨Tryz.f171.name, by decide, Tryz.func171.trans (congrArg some (by kernel_rfl))⟩
  f28 := Tryz.func162.trans (congrArg some (by kernel_rfl))
  f29 := Tryz.func163.trans (congrArg some (by kernel_rfl))
  f46 := ⟨Tryz.f179.name, by decide, Tryz.func179.trans (congrArg some (by kernel_rfl))⟩
  f47 := Tryz.func175.trans (congrArg some (by kernel_rfl))
  f48 := Tryz.func176.trans (congrArg some (by kernel_rfl))
  f49 := ⟨Tryz.f180.name, by decide, Tryz.func180.trans (congrArg some (by kernel_rfl))⟩
  f50 := ⟨Tryz.f181.name, by decide, Tryz.func181.trans (congrArg some (by kernel_rfl))⟩
  f57 := ⟨Tryz.f183.name, by decide, Tryz.func183.trans (congrArg some (by kernel_rfl))⟩
  t0 := Tryz.underlying0
  a0 := Tryz.isAgg0
  z0 := Tryz.sizeOf0
  v0 := Tryz.zeroValue0
  t3 := Tryz.underlying3
  a3 := Tryz.isAgg3
  z3 := Tryz.sizeOf3
  v3 := Tryz.zeroValue3
  t4 := Tryz.underlying4
  a4 := Tryz.isAgg4
  z4 := Tryz.sizeOf4
  v4 := Tryz.zeroValue4
  t5 := Tryz.underlying5
  a5 := Tryz.isAgg5
  z5 := Tryz.sizeOf5
  v5 := Tryz.zeroValue5
  t9 := Tryz.underlying9
  a9 := Tryz.isAgg9
  z9 := Tryz.sizeOf9
  v9 := Tryz.zeroValue9
  t22 := Tryz.underlying38
  a22 := Tryz.isAgg38
  z22 := Tryz.sizeOf38
  v22 := Tryz.zeroValue38
  t25 := Tryz.underlying27
  a25 := Tryz.isAgg27
  z25 := Tryz.sizeOf27
  v25 := Tryz.zeroValue27
  t39 := Tryz.underlying96
  a39 := Tryz.isAgg96
  z39 := Tryz.sizeOf96
  v39 := Tryz.zeroValue96
  t45 := Tryz.underlying243
  a45 := Tryz.isAgg243
  z45 := Tryz.sizeOf243
  v45 := Tryz.zeroValue243
  t46 := Tryz.underlying244
  a46 := Tryz.isAgg244
  z46 := Tryz.sizeOf244
  v46 := Tryz.zeroValue244
  t50 := Tryz.underlying157
  a50 := Tryz.isAgg157
  z50 := Tryz.sizeOf157
  v50 := Tryz.zeroValue157
  t53 := Tryz.underlying23
  a53 := Tryz.isAgg23
  z53 := Tryz.sizeOf23
  v53 := Tryz.zeroValue23
  t55 := Tryz.underlying252
  a55 := Tryz.isAgg252
  z55 := Tryz.sizeOf252
  v55 := Tryz.zeroValue252
  t66 := Tryz.underlying261
  a66 := Tryz.isAgg261
  z66 := Tryz.sizeOf261
  v66 := Tryz.zeroValue261
  t70 := Tryz.underlying265
  a70 := Tryz.isAgg265
  z70 := Tryz.sizeOf265
  v70 := Tryz.zeroValue265
  t76 := Tryz.underlying269
  a76 := Tryz.isAgg269
  z76 := Tryz.sizeOf269
  v76 := Tryz.zeroValue269
  t77 := Tryz.underlying270
  a77 := Tryz.isAgg270
  z77 := Tryz.sizeOf270
  v77 := Tryz.zeroValue270 }
end Go.Proofs
/- 'slices.SortedFunc' of the map's skips. -/
set_option linter.unusedVariables false
set_option linter.unusedSimpArgs false
namespace Go.Proofs.YtcjcgehhmjnlcaaGreatDoor
open Go.RowKit Go.Shelf Go.Maps Go.WideMaps Go.Sort Go.Lib Go.Proofs.YtcjcgehhmjnlcaaGreatDoor.It Go.Proofs.YtcjcgehhmjnlcaaGreatDoorW.PrintWords
instance : Inhabited Sk := ⟨skZ⟩
theorem c3_neg {x y : Int} : c3 x y < 0 ↔ x < y := by
  unfold c3
  by_cases h1 : x < y
  · simp [h1]
  · by_cases h2 : x > y
    · simp [h1, h2]
    · simp [h1, h2]
theorem c3_zero {x y : Int} : c3 x y = 0 ↔ x = y := by
  unfold c3
  by_cases h1 : x < y
  · simp [h1]; omega
  · by_cases h2 : x > y
    · simp [h1, h2]; omega
    · simp [h1, h2]; omega
/-- One skip is in front of another one. -/
def skLt (a b : Sk) : Prop := a.st < b.st ∨ (a.st = b.st ∧ ofB a.un < ofB b.un)
theorem cmpS_neg {a b : Sk} : cmpS a b < 0 ↔ skLt a b := by
  unfold cmpS orI skLt
  by_cases h : c3 a.st b.st = 0
  · rw [if_pos h, c3_neg]
    have := c3_zero.1 h
    omega
  · rw [if_neg h, c3_neg]
    have : a.st ≠ b.st := fun e => h (c3_zero.2 e)
    omega
theorem ltOf_iff {a b : Sk} : ltOf cmpS a b = true ↔ skLt a b := by unfold ltOf; simp [cmpS_neg]
theorem ltOf_not {a b : Sk} : ltOf cmpS a b = false ↔ ¬ skLt a b := by rw [← ltOf_iff]; simp
theorem swoS : SWO (ltOf cmpS) where
  irrefl x := by rw [ltOf_not]; unfold skLt; omega
  trans x y z h1 h2 := by rw [ltOf_iff] at *; unfold skLt at *; omega
  ntrans x y z h1 h2 := by rw [ltOf_not] at *; unfold skLt at *; omega
theorem isAggS (w : World) : (isAgg 28).run Tryz.prog w = .ok true w := by kernel_rfl
theorem sizeOfS (w : World) : (Go.sizeOf 28).run Tryz.prog w = .ok 3 w := by kernel_rfl
theorem sk_len (x : Sk) : x.cells.length = 3 := rfl
theorem sk_one (x : Sk) (v : Value) (hv : v ∈ x.cells) : v.oneCell' = true := by
  simp only [Sk.cells, List.mem_cons, List.not_mem_nil, or_false] at hv
  rcases hv with rfl | rfl | rfl <;> rfl
theorem flat_get (l : List Sk) (t : Nat) (ht : t < l.length * 3) : (l.flatMap Sk.cells)[t]? = (l.getD (t / 3) skZ).cells[t % 3]? := by
  induction l generalizing t with
  | nil => simp at ht
  | cons s l ih =>
    rw [List.flatMap_cons]
    have h3 : s.cells.length = 3 := rfl
    by_cases h : t < 3
    · rw [List.getElem?_append_left (by omega)]
      have e1 : t / 3 = 0 := by omega
      have e2 : t % 3 = t := by omega
      rw [e1, e2]; rfl
    · rw [List.getElem?_append_right (by omega), h3, ih (t - 3) (by simp at ht; omega)]
      have e1 : t / 3 = (t - 3) / 3 + 1 := by omega
      have e2 : t % 3 = (t - 3) % 3 := by omega
      rw [e1, e2]; rfl
theorem own_cell {w : World} {base g cap : Nat} {l : List Sk} (h : OwnS w base (.slice (some ⟨g, 0, none⟩) l.length cap) l) (t : Nat) (ht : t < l.length * 3) : w.cell? ⟨g, t, none⟩ = (l.flatMap Sk.cells)[t]? := World.ownsRow.cellAt h t ht
theorem holdsS {w : World} {base g cap : Nat} {l : List Sk} (h : OwnS w base (.slice (some ⟨g, 0, none⟩) l.length cap) l) : HoldsK Sk.cells 3 w g 0 l.toArray := by
  intro j hj
  have hj' : j < l.length * 3 := by simpa using hj
  refine ⟨?_, World.ownsRow.frozenAt h _⟩
  rw [Nat.zero_add, own_cell h j hj', flat_get l j hj', get_flatK _ _ _ _ (by simpa using hj')]
  have h1 : j / 3 < l.length := by omega
  have h2 : j % 3 < 3 := Nat.mod_lt _ (by omega)
  simp only [id]
  rw [getElem!_pos l.toArray (j / 3) (by simpa using h1)]
  simp only [List.getElem_toArray]
  have e : l.getD (j / 3) skZ = l[j / 3] := by rw [List.getD_eq_getElem?_getD, List.getElem?_eq_getElem h1]; rfl
  rw [e, List.getElem?_eq_getElem (by rw [sk_len]; exact h2), getElem!_pos _ _ (by rw [sk_len]; exact h2)]
theorem cmpLays (g size : Nat) (w : World) : CmpLays Tryz.prog 14 #[] Sk.cells 3 cmpS g 0 size w := fun m os dk hs x y => compare_any x y _
theorem at_heapS {w : World} {g n : Nat} {cur : Array Value} {e : TypeId} {fr : Nat × Nat} {d : Array Sk} {os : Array Obj} (hb : w.heap[g]? = some (.cells cur e fr)) :
    (sortWorldK Sk.cells 3 w g 0 n d os).heap[g]? = some (.cells (putCells id 0 (flatK Sk.cells 3 d) cur) e fr) ∧ w.grownBy (sortWorldK Sk.cells 3 w g 0 n d os) (some g) := by
  have hg : g < w.heap.size := (Array.getElem?_eq_some_iff.1 hb).1
  unfold sortWorldK putRowK
  refine ⟨?_, rfl, rfl, rfl, by simp, fun k hk hne => ?_⟩
  · rw [heap_grow_old _ _ (by simpa using hg)]
    simp [putRow, mapBlock, Sort.ahead, Array.getElem?_modify, hb, onCells]
  · rw [heap_grow_old _ _ (by simpa using hk)]
    have : g ≠ k := fun e => hne (by rw [e])
    simp [putRow, mapBlock, Sort.ahead, Array.getElem?_modify, this]
theorem flat_toList (d : Array Sk) : (flatK Sk.cells 3 d).toList = d.toList.flatMap Sk.cells := by
  apply List.ext_getElem?
  intro j
  have hlen : (d.toList.flatMap Sk.cells).length = d.size * 3 := by
    rw [List.length_flatMap]
    simp only [sk_len]
    rw [List.map_const', List.sum_replicate_nat]
    simp
  by_cases hj : j < d.size * 3
  · have h1 := get_flatK Sk.cells 3 d j hj
    rw [getElem!_pos _ j (by simpa using hj)] at h1
    rw [Array.getElem?_toList, Array.getElem?_eq_getElem (by simpa using hj), h1, flat_get d.toList j (by simpa using hj)]
    have h2 : j / 3 < d.size := by omega
    have h3 : j % 3 < 3 := Nat.mod_lt _ (by omega)
    rw [getElem!_pos d (j / 3) h2, getElem!_pos _ _ (by rw [sk_len]; exact h3)]
    have e : d.toList.getD (j / 3) skZ = d[j / 3] := by rw [List.getD_eq_getElem?_getD, Array.getElem?_toList, Array.getElem?_eq_getElem h2]; rfl
    rw [e, List.getElem?_eq_getElem (by rw [sk_len]; exact h3)]
  · rw [List.getElem?_eq_none (by simp; omega), List.getElem?_eq_none (by omega)]
theorem take_putS (cur F : Array Value) (h : F.size ≤ cur.size) : (putCells id 0 F cur).toList.take F.size = F.toList := by
  apply List.ext_getElem?
  intro j
  by_cases hj : j < F.size
  · rw [List.getElem?_take_of_lt hj, Array.getElem?_toList]
    simp [putCells, hj, show j < cur.size by omega]
  · rw [List.getElem?_take_eq_none (by omega), List.getElem?_eq_none (by simp; omega)]
/-- The map's skips in order. -/
def Srtd (l d : List Sk) : Prop := ValS l d ∧ d.Pairwise (fun a b => ¬ skLt b a)
theorem srtd_of {l ss : List Sk} {d' : Array Sk} (hv : ValS l ss) (hp : PermIn 0 ss.toArray.size ss.toArray d') (hs : SortedIn (ltOf cmpS) 0 ss.toArray.size d') : Srtd l d'.toList ∧ d'.size = ss.length := by
  have hsz : d'.size = ss.toArray.size := hp.1
  have hperm : d'.toList.Perm ss := by
    have h := hp.2.2
    rw [← hsz, Array.extract_size] at h
    rw [hsz, Array.extract_size] at h
    simpa using h
  refine ⟨⟨⟨(hperm.map Sk.key).nodup_iff.2 hv.1, fun s => by rw [hperm.mem_iff]; exact hv.2 s⟩, ?_⟩, by simpa using hsz⟩
  rw [List.pairwise_iff_getElem]
  intro i j hi hj hij
  have hi' : i < d'.size := by simpa using hi
  have hj' : j < d'.size := by simpa using hj
  have h1 := hs i j (Nat.zero_le _) hij (by omega)
  rw [getElem!_pos d' i hi', getElem!_pos d' j hj', ltOf_not] at h1
  simpa using h1
def SrtPost (l : List Sk) (w : World) (e : Ending) (w' : World) : Prop := ∃ (v : Value) (d : List Sk), e = .returned v ∧ Srtd l d ∧ OwnS w' w.heap.size v d ∧ Below w.heap.size w w'
set_option maxHeartbeats 2000000 in
theorem sortedF (b nn : Nat) (l : List Sk) (Bm : Nat) (w : World) (hBm : Bm < w.heap.size)
    (hm : w.cell? ⟨Bm, 0, none⟩ = some (.map (some b))) (hown : w.ownsMap Tryz.prog 142 heldElem b nn (skD l)) (hN : Maps.size (skD l) ≤ 1000000) :
    Calls Tryz.prog 89 #[.func (.func 119) #[] #[.pointer (some ⟨Bm, 0, none⟩)], .func (.func 14) #[] #[]] w (SrtPost l w) := by
  have hcv := collect_vals b nn l Bm w hBm hm hown hN
  have HC := hid hcv
  clear hcv hm hown
  go_enter Tryz.func89, Tryz.ntmps89
  go_wp2_with fail
  refine HC.out.mono ?_
  rintro e W ⟨v, ss, rfl, hV, hsl, hrow, hb⟩
  have HV := hid hV
  have HB := hid hb
  have hrow2 := hrow
  have HR := hid hrow
  clear hV hb hrow HC
  rcases hrow2.2 with ⟨rfl, hz⟩ | ⟨gb, cap, cur, rfl, hbase, hgb, r1, r2, r3, r4⟩
  · have hss : ss = [] := List.eq_nil_of_length_eq_zero hz
    subst hss
    have cS := AnyF.slices_SortFunc_none Tryz.sortSk none 0 (.func (.func 14) #[] #[]) W
    change Calls Tryz.prog 118 _ _ _ at cS
    clear hrow2 hz
    go_wp2_with fail
    refine cS.mono ?_
    rintro e w' ⟨rfl, rfl⟩
    go_wp2_with fail
    go_ret
    exact ⟨_, [], rfl, ⟨HV.out, List.Pairwise.nil⟩, HR.out, HB.out⟩
  · have hgl : gb < W.heap.size := (Array.getElem?_eq_some_iff.1 hgb).1
    have cS := AnyQ.slices_SortFunc Tryz.sortSk 3 isAggS sizeOfS Sk.cells sk_len sk_one cmpS swoS 14 #[] gb 0 cap ss.toArray W (enters_of Tryz.func14 (by kernel_rfl) rfl) (cmpLays gb _ W) (holdsS HR.out) hgl (by simp; omega)
    change Calls Tryz.prog 118 _ _ _ at cS
    simp only [List.size_toArray] at cS
    have HG := hid hgb
    have H4 := hid r4
    clear hrow2 hgb r4
    go_wp2_with fail
    refine cS.mono ?_
    rintro e w' ⟨rfl, d', n, os, hp, hs, rfl⟩
    obtain ⟨hsr, hsz⟩ := srtd_of HV.out (by simpa using hp) (by simpa using hs)
    have hh := at_heapS (n := n) (d := d') (os := os) HG.out
    have HS := hid hsr
    clear hp hs hsr cS
    go_wp2_with fail
    go_ret
    refine ⟨_, d'.toList, rfl, HS.out, ?_, HB.out.grown hh.2 HB.out.size (fun j hj => by cases hj; exact hbase)⟩
    refine ⟨by rw [← flat_toList]; simp, .inr ⟨gb, cap, _, by simp [hsz], hbase, hh.1, by simp [hsz]; exact r1, r2, by simp [putCells, r3], ?_⟩⟩
    have := take_putS cur (flatK Sk.cells 3 d') (by simp; omega)
    rw [flat_toList] at this
    simpa using this
end Go.Proofs.YtcjcgehhmjnlcaaGreatDoor
/- 'forward.Merge', whole. -/
set_option linter.unusedVariables false
set_option linter.unusedSimpArgs false
namespace Go.Proofs.YtcjcgehhmjnlcaaGreatDoor
open Go.RowKit Go.Shelf Go.Maps Go.WideMaps Go.Proofs.YtcjcgehhmjnlcaaGreatDoor.It Go.Proofs.YtcjcgehhmjnlcaaGreatDoorW.PrintWords

theorem owns_size {w : World} {b n : Nat} {D : DataW Value} {R : Value → Option (DataW Value × List MemPlace)} (h : w.ownsMap Tryz.prog 142 R b n D) : Maps.size D ≤ n := by
  obtain ⟨es, clock, hb, F, hs, rfl⟩ := h
  have : Maps.size (.map ((es.toList.map (WideElems.rg Tryz.prog 142 R)).foldr DataW.insert [])) = es.size := by
    show ((es.toList.map (WideElems.rg Tryz.prog 142 R)).foldr DataW.insert []).length = es.size
    rw [length_sorted]
    simp
  omega
theorem merge_calls (A : Option Addr) (c : Nat) (l : List Sk) (w : World) (hS : SkC w A l) (hok : ∀ s ∈ l, s.ok) (hc : l.length ≤ c) (hl : l.length ≤ 1000000) :
    Calls Tryz.prog 44 #[.slice A l.length c] w (SrtPost l w) :=
  merge_any A c l w hS hok hc hl (SrtPost l w) (fun mb W hI => by
    have hown := hI.own
    rw [List.take_length] at hown
    have hsz := owns_size hown
    refine (sortedF mb l.length l W.heap.size (W.alloc (.cells #[.map (some mb)] 141)) (by simp) ((one (blk_new W (.cells #[.map (some mb)] 141))).1) (hown.alloc _) (by omega)).mono ?_
    rintro e w' ⟨v, d, rfl, hs, ho, hb⟩
    have B := hI.bel
    refine ⟨v, rfl, v, d, rfl, hs, ownS_lower ho (by rw [World.size_alloc]; have := B.size; omega), cthen (below_alloc B _) hb⟩)
end Go.Proofs.YtcjcgehhmjnlcaaGreatDoor
/- The plain law of merging: sorted skips of one map are one list. -/
set_option linter.unusedVariables false
set_option linter.unusedSimpArgs false
namespace Go.Proofs.YtcjcgehhmjnlcaaGreatDoor
open Go.RowKit Go.Shelf Go.Maps Go.WideMaps Go.Proofs.YtcjcgehhmjnlcaaGreatDoor.It Go.Proofs.YtcjcgehhmjnlcaaGreatDoorW.PrintWords

theorem skLt_irr (a : Sk) : ¬ skLt a a := by unfold skLt; omega
theorem skLt_asy {a b : Sk} (h : skLt a b) : ¬ skLt b a := by unfold skLt at *; omega
theorem key_same {a b : Sk} (h1 : ¬ skLt a b) (h2 : ¬ skLt b a) : a.key = b.key := by
  unfold skLt at *
  unfold Sk.key
  rw [show a.st = b.st by omega, show ofB a.un = ofB b.un by omega]
theorem srtd_strict {l d : List Sk} (h : Srtd l d) : d.Pairwise skLt := by
  have h1 := h.1.1
  have h2 := h.2
  rw [List.Nodup, List.pairwise_map] at h1
  exact (List.Pairwise.and h1 h2).imp (fun {a b} hab => by
    apply Classical.byContradiction
    intro hn
    exact hab.1 (key_same hn hab.2))
theorem strict_eq : ∀ {d d' : List Sk}, d.Pairwise skLt → d'.Pairwise skLt → (∀ s, s ∈ d ↔ s ∈ d') → d = d'
  | [], [], _, _, _ => rfl
  | [], b :: d', _, _, hm => absurd ((hm b).2 (by simp)) (by simp)
  | a :: d, [], _, _, hm => absurd ((hm a).1 (by simp)) (by simp)
  | a :: d, b :: d', h, h', hm => by
    rw [List.pairwise_cons] at h h'
    have hab : a = b := by
      rcases List.mem_cons.1 ((hm a).1 (by simp)) with e | e
      · exact e
      · rcases List.mem_cons.1 ((hm b).2 (by simp)) with e2 | e2
        · exact e2.symm
        · exact absurd (h'.1 a e) (skLt_asy (h.1 b e2))
    subst hab
    congr 1
    refine strict_eq h.2 h'.2 fun s => ⟨fun hs => ?_, fun hs => ?_⟩
    · rcases List.mem_cons.1 ((hm s).1 (List.mem_cons_of_mem _ hs)) with e | e
      · subst e; exact absurd (h.1 s hs) (skLt_irr s)
      · exact e
    · rcases List.mem_cons.1 ((hm s).2 (List.mem_cons_of_mem _ hs)) with e | e
      · subst e; exact absurd (h'.1 s hs) (skLt_irr s)
      · exact e
theorem srtd_unique {l d d' : List Sk} (h : Srtd l d) (h' : Srtd l d') : d = d' :=
  strict_eq (srtd_strict h) (srtd_strict h') fun s => by rw [h.1.2 s, h'.1.2 s]
/-- The example of 'awake'. -/
def ex3 : List Sk := [⟨5, false, 1⟩, ⟨2, false, 7⟩, ⟨5, false, 3⟩]
def ex2 : List Sk := [⟨2, false, 7⟩, ⟨5, false, 3⟩]
theorem lastIn_mem {l : List Sk} {k : Lit} {s : Sk} (h : lastIn l k = some s) : s ∈ l := by
  have := List.mem_of_find?_eq_some h
  simpa using this
theorem ex_srtd : Srtd ex3 ex2 := by
  refine ⟨⟨by simp [ex2, Sk.key, ofB, keyBytes, Lit.keyBytes]; decide, fun s => ⟨fun hs => ?_, fun hs => ?_⟩⟩, ?_⟩
  · simp only [ex2, List.mem_cons, List.not_mem_nil, or_false] at hs
    rcases hs with rfl | rfl <;> rfl
  · have hm := lastIn_mem hs
    simp only [ex3, List.mem_cons, List.not_mem_nil, or_false] at hm
    rcases hm with rfl | rfl | rfl
    · have : lastIn ex3 (Sk.key ⟨5, false, 1⟩) = some ⟨5, false, 3⟩ := rfl
      rw [this] at hs
      simp at hs
    · simp [ex2]
    · simp [ex2]
  · simp [ex2, skLt]
theorem ex_only {d : List Sk} (h : Srtd ex3 d) : d = ex2 := srtd_unique h ex_srtd
end Go.Proofs.YtcjcgehhmjnlcaaGreatDoor
/- 'awake' of the laws of forward. -/
set_option linter.unusedVariables false
set_option linter.unusedSimpArgs false
namespace Go.Proofs.YtcjcgehhmjnlcaaGreatDoor
open Go.RowKit Go.Shelf Go.Maps Go.WideMaps Go.Proofs.YtcjcgehhmjnlcaaGreatDoor.It Go.Proofs.YtcjcgehhmjnlcaaGreatDoorW.PrintWords Go.Proofs.YtcjcgehhmjnlcaaGreatDoorW.PrintLast Go.Proofs.YtcjcgehhmjnlcaaGreatDoorW.PrintMore PForwardMatchesReference

/-- Skips of the call's own can be read. -/
theorem ownS_read {w : World} {base : Nat} {v : Value} {l : List Sk} (h : OwnS w base v l) : ∃ A c, v = .slice A l.length c ∧ l.length ≤ c ∧ SkC w A l := by
  rcases h.2 with ⟨rfl, h0⟩ | ⟨g, cap, cur, rfl, h3, h4, h5, h6⟩
  · exact ⟨none, 0, by rw [h0], by omega, .inl (List.eq_nil_of_length_eq_zero h0)⟩
  · refine ⟨some ⟨g, 0, none⟩, cap, rfl, h5, .inr ⟨g, 0, rfl, fun t ht => ?_⟩⟩
    have hc : ∀ j, j < 3 → w.cell? ⟨g, 0 + t * 3 + j, none⟩ = (l.getD t skZ).cells[j]? := fun j hj => by
      rw [Nat.zero_add, own_cell h (t * 3 + j) (by omega), flat_get l _ (by omega)]
      rw [show (t * 3 + j) / 3 = t by omega, show (t * 3 + j) % 3 = j by omega]
    exact ⟨hc 0 (by omega), hc 1 (by omega), hc 2 (by omega)⟩
theorem ex3_read (b : Nat) (w : World) (h : w.heap[b]? = some (.cells (ex3.flatMap Sk.cells).toArray 28 (0, 0))) : SkC w (some ⟨b, 0, none⟩) ex3 := by
  refine .inr ⟨b, 0, rfl, fun t ht => ?_⟩
  have ht' : t < 3 := ht
  have : t = 0 ∨ t = 1 ∨ t = 2 := by omega
  unfold World.cell?
  rw [h]
  rcases this with rfl | rfl | rfl <;> exact ⟨rfl, rfl, rfl⟩
theorem sk_read1 (b : Nat) (s : Sk) (w : World) (h : w.heap[b]? = some (.cells s.cells.toArray 28 (0, 0))) : SkC w (some ⟨b, 0, none⟩) [s] := by
  refine .inr ⟨b, 0, rfl, fun t ht => ?_⟩
  have : t = 0 := by simpa using ht
  subst this
  unfold World.cell?
  rw [h]
  exact ⟨rfl, rfl, rfl⟩
theorem most_2 (w : World) : Calls Tryz.prog 16 #[.bool true, .int .i64 24] w (IsPost (.int .i64 2) w) :=
  (forward_Most.calls true 24 2 w (by simp [forward_Most.f, wrap64, mx])).mono (fun e w' h => h)
theorem ex2_good : ex2.any (skBad false) = false := rfl
def D9 : List Int := mkD false 9 ex2
theorem D9_peek : peekV 4 D9 0 = 9 := by decide
theorem D9_n : ofN false D9 = 2 := by decide
set_option maxRecDepth 100000 in
set_option maxHeartbeats 8000000 in
theorem awake_any (w : World) (hg : GTab w) : Calls Tryz.prog 13 #[] w (IsPost (.bool true) w) := by
  have HG := hid hg
  clear hg
  go_enter Tryz.func13, Tryz.ntmps13
  have hm := merge_calls (some ⟨w.heap.size, 0, none⟩) 3 ex3 (w.alloc (.cells (ex3.flatMap Sk.cells).toArray 28)) (ex3_read _ _ (blk_new _ _)) (by intro s hs; simp only [ex3, List.mem_cons, List.not_mem_nil, or_false] at hs; rcases hs with rfl | rfl | rfl <;> (unfold Sk.ok; decide)) (by decide) (by decide)
  go_wp2_with fail
  refine hm.mono ?_
  rintro e w1 ⟨v, d, rfl, hs, ho, hb⟩
  obtain rfl := ex_only hs
  obtain ⟨A, c, rfl, hc, hr⟩ := ownS_read ho
  rw [show ex2.length = 2 from rfl] at *
  have B1 := hid (cthen (below_alloc (Below.refl w.heap.size w) (.cells (ex3.flatMap Sk.cells).toArray 28)) hb)
  have HR := hid hr
  have HC := hid hc
  clear hm hs ho hb hc hr
  go_wp2_with fail
  have h2 : ∀ s ∈ ex2, s.ok := by intro s hs; simp only [ex2, List.mem_cons, List.not_mem_nil, or_false] at hs; rcases hs with rfl | rfl <;> (unfold Sk.ok; decide)
  have hmk := make_false 9 A c ex2 w1 (HG.out.below B1.out) HR.out h2 HC.out (by decide)
  rw [show ex2.length = 2 from rfl] at hmk
  refine hmk.mono ?_
  rintro e w2 ⟨hb, ⟨-, -, v, rfl, ho⟩ | ⟨hn, -⟩⟩
  rotate_left
  · exact absurd ⟨ex2_good, by decide⟩ hn
  obtain ⟨A2, c2, rfl, hc2, hr2, -⟩ := own_slice ho
  have B2 := hid (cthen B1.out hb)
  have HR2 := hid (HR.out.below hb)
  have HD := hid hr2
  have HC2 := hid hc2
  clear hb ho hr2 hc2 h2
  have hof := of_192 0 A2 none c2 0 0 2 (mkD false 9 ex2) (w2.alloc (.cells #[.int .u8 192, .int .u8 0, .slice A2 (mkD false 9 ex2).length c2, .slice none 0 0] 35)) (HD.out.below (below_alloc (Below.refl _ _) _)) (byt_mkD _ _ _) HC2.out (by decide) (by decide) (fun W hW => by
    have h := check_192 0 A2 none (mkD false 9 ex2).length c2 0 0 W ((HG.out.below B2.out).below (below_alloc (Below.refl _ _) _) |>.below hW) (by decide) (by omega)
    rw [show codeOnly (E192 0 (mkD false 9 ex2).length 0) = none from by decide] at h
    exact h)
  have HO := hid hof
  clear hof
  unfold ckV mkT at *
  go_wp2_with fail
  refine HO.out.mono ?_
  rintro e w3 ⟨v, rfl, ho, hb⟩
  rw [show peekV 4 (mkD false 9 ex2) 0 = 9 from D9_peek]
  rw [show ofN false (mkD false 9 ex2) = 2 from D9_n] at ho
  obtain ⟨A3, c3, rfl⟩ := ownS_form ho
  rw [ofL_len]
  have B3 := hid (cthen (below_alloc B2.out _) hb)
  have HR3 := hid (HR2.out.below ((below_alloc (Below.refl _ _) (.cells #[.int .u8 192, .int .u8 0, .slice A2 (mkD false 9 ex2).length c2, .slice none 0 0] 35)).trans (hb.mono (by rw [World.size_alloc]; omega))))
  clear hb ho HO HD HC2
  have hbad := make_false 9 (some ⟨w3.heap.size, 0, none⟩) 1 [⟨0, true, 0⟩] (w3.alloc (.cells (Sk.cells ⟨0, true, 0⟩).toArray 28)) ((HG.out.below B3.out).below (below_alloc (Below.refl _ _) _)) (sk_read1 _ _ _ (blk_new _ _)) (by intro s hs; simp only [List.mem_cons, List.not_mem_nil, or_false] at hs; subst hs; unfold Sk.ok; decide) (by decide) (by decide)
  go_wp2_with fail
  refine hbad.mono ?_
  rintro e w4 ⟨hb, ⟨h1, -⟩ | ⟨-, rfl⟩⟩
  · exact absurd h1 (by decide)
  have B4 := hid (below_alloc (cthen (below_alloc B3.out _) hb) chZ)
  have HR4 := (HR3.out.below ((below_alloc (Below.refl _ _) (.cells (Sk.cells ⟨0, true, 0⟩).toArray 28)).trans (hb.mono (by rw [World.size_alloc]; omega)))).below (below_alloc (Below.refl _ _) chZ)
  rcases HR4 with h | ⟨gb, off, rfl, hcell⟩
  · exact absurd h (by simp [ex2])
  obtain ⟨k0, -, -⟩ := hcell 0 (by decide)
  obtain ⟨-, -, k5⟩ := hcell 1 (by decide)
  have k0' : (w4.alloc chZ).cell? ⟨gb, off, none⟩ = some (.int .u16 2) := k0
  have k5' : (w4.alloc chZ).cell? ⟨gb, off + 3 + 2, none⟩ = some (.int .u32 3) := k5
  clear k0 k5 hcell hb hbad hmk
  unfold chZ at k0' k5' B4
  go_wp2_with fail
  refine (most_2 _).mono ?_
  rintro e w5 ⟨rfl, hb⟩
  go_wp2_with fail
  go_ret
  exact ⟨rfl, cthen B4.out hb⟩
end Go.Proofs.YtcjcgehhmjnlcaaGreatDoor
