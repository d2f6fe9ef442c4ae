/- 'awake' of the laws on actions is true. -/
import Derived.Test.YtjgcdjfeglhalaaDoorRef
import Derived.Test.YtjgcdjfeglhalaaDoorPlay
namespace Go.Proofs.YtjgcdjfeglhalaaDoor
open Go.RowKit Go.Proofs.YtjgcdjfeglhalaaDoorW.PrintWords
def GTab (w : World) : Prop := KTab w ∧ NTab w
theorem GTab.below {w w' : World} (h : GTab w) (hb : Below w.heap.size w w') : GTab w' := ⟨h.1.below hb, h.2.below hb⟩
theorem ints_C {w : World} {b t : Nat} {xs : List Int} (h : w.heap[b]? = some (.cells (nums .i64 xs).toArray t (0, 0))) (hl : xs.length ≤ 9223372036854775807) : Kd.C (Kd.int .i64) w (some ⟨b, 0, none⟩) xs.length xs := by
  refine ⟨rfl, hl, fun _ => ⟨_, rfl, fun j p hj => ⟨[.int .i64 p], rfl, rfl, fun i u hu => ?_⟩⟩⟩
  cases i with
  | zero =>
    simp only [List.getElem?_cons_zero, Option.some.injEq] at hu
    subst hu
    rw [add_plain]
    simp [World.cell?, h, nums, Kd.int, Kd.scalar, hj]
  | succ i => simp at hu
theorem play_at (l p q : List Int) (s : Bool) (k : Nat) (w : World) (A : Option Addr) (c : Nat) (hC : Kd.C (Kd.int .i64) w A l.length l) (hc : l.length ≤ c) (h : Pl.action_Play.f k l = some (p, q, s)) :
    Calls Tryd.prog 16 #[.slice A l.length c] w fun e w' => ∃ v0 v1 : Value, e = .returned (.tuple #[v0, v1, .bool s]) ∧ Kd.R (Kd.int .i64) 3 w' w.heap.size (fun _ => True) v0 p ∧ Kd.R (Kd.int .i64) 3 w' w.heap.size (fun _ => True) v1 q ∧ Below w.heap.size w w' :=
  (Pl.action_Play.calls k A c l p q s w hC hc h).mono fun _ _ ⟨v0, v1, he, h0, h1, hb⟩ => ⟨v0, v1, he, Kd.R_mono h0 (fun _ _ => trivial), Kd.R_mono h1 (fun _ _ => trivial), hb⟩
theorem eq_at (l m : List Int) (r : Bool) (k : Nat) (w : World) (A A1 : Option Addr) (c c1 : Nat) (hC : Kd.C (Kd.int .i64) w A l.length l) (hc : l.length ≤ c) (hC1 : Kd.C (Kd.int .i64) w A1 m.length m) (hc1 : m.length ≤ c1) (h : Pl.slices_Equal_int_int.f k l m = some r) :
    Calls Tryd.prog 17 #[.slice A l.length c, .slice A1 m.length c1] w (IsPost (.bool r) w) :=
  (Pl.slices_Equal_int_int.calls k A c l A1 c1 m r w hC hc hC1 hc1 h).mono fun _ _ ⟨he, hd⟩ => ⟨he, hd.below⟩
theorem chunk_at (t v : Int) (w : World) (h3 : 0 ≤ t) (h4 : t ≤ 255) (hv : chunkAct t = v) (hk : KTab w) : Calls Tryd.prog 8 #[.int .u8 t] w (IsPost (.int .i64 v) w) := hv ▸ chunk_any t w h3 h4 hk
theorem param_at (t v : Int) (w : World) (h3 : 0 ≤ t) (h4 : t ≤ 65535) (hv : pAct t = v) : Calls Tryd.prog 9 #[.int .u16 t] w (IsPost (.int .i64 v) w) := hv ▸ param_any t w h3 h4
theorem name_at (n : Int) (s : ByteArray) (w : World) (hv : aName n = s) (hn : NTab w) : Calls Tryd.prog 12 #[.int .i64 n] w (IsPost (.string s) w) := hv ▸ name_any n w hn
theorem cthen {w w1 w2 : World} (h : Below w.heap.size w w1) (k : Below w1.heap.size w1 w2) : Below w.heap.size w w2 := h.trans (k.mono h.size)
set_option maxHeartbeats 1000000 in
theorem awake_any (w : World) (hg : GTab w) : Calls Tryd.prog 7 #[] w (IsPost (.bool true) w) := by
  have hG := hid hg
  clear hg
  go_enter Tryd.func7, Tryd.ntmps7
  go_wp2_with fail
  refine (play_at [4, 3, 1, 4] [0] [1, 2] true 5 _ _ _ (ints_C (heap_alloc_new _ _) (by decide)) (by decide) (by decide +kernel)).mono ?_
  rintro e w1 ⟨v0, v1, rfl, hr0, hr1, hb⟩
  obtain ⟨A0, c0, rfl, hc0, hC0⟩ := Kd.R_reads hr0
  obtain ⟨A1, c1, rfl, hc1, hC1⟩ := Kd.R_reads hr1
  have B1 := hid (cthen (below_alloc (Below.refl _ _) _) hb)
  have X0 := hid hC0
  have X1 := hid hC1
  have Y0 := hid hc0
  have Y1 := hid hc1
  clear hr0 hr1 hb hC0 hC1 hc0 hc1
  go_wp2_with fail
  refine (chunk_at 99 1 _ (by decide) (by decide) (by decide) (hG.out.below B1.out).1).mono ?_
  rintro e w2 ⟨rfl, hb⟩
  have B2 := hid (cthen B1.out hb)
  have C2 := hid hb
  clear hb
  go_wp2_with fail
  refine (chunk_at 0 4 _ (by decide) (by decide) (by decide) (hG.out.below B2.out).1).mono ?_
  rintro e w3 ⟨rfl, hb⟩
  have B3 := hid (cthen B2.out hb)
  have C3 := hid (cthen C2.out hb)
  clear hb
  go_wp2_with fail
  refine (param_at 49407 3 _ (by decide) (by decide) (by decide)).mono ?_
  rintro e w4 ⟨rfl, hb⟩
  have B4 := hid (cthen B3.out hb)
  have C4 := hid (cthen C3.out hb)
  clear hb
  go_wp2_with fail
  refine (eq_at [0] [0] true 5 _ _ _ _ _ (Kd.C_below X0.out (below_alloc C4.out _)) Y0.out (ints_C (heap_alloc_new _ _) (by decide)) (by decide) (by decide +kernel)).mono ?_
  rintro e w5 ⟨rfl, hb⟩
  have B5 := hid (cthen (below_alloc B4.out _) hb)
  have C5 := hid (cthen (below_alloc C4.out _) hb)
  clear hb
  go_wp2_with fail
  refine (eq_at [1, 2] [1, 2] true 5 _ _ _ _ _ (Kd.C_below X1.out (below_alloc C5.out _)) Y1.out (ints_C (heap_alloc_new _ _) (by decide)) (by decide) (by decide +kernel)).mono ?_
  rintro e w6 ⟨rfl, hb⟩
  have B6 := hid (cthen (below_alloc B5.out _) hb)
  clear hb
  go_wp2_with fail
  refine (name_at 2 ⟨#[115, 107, 105, 112]⟩ _ (by decide) (hG.out.below B6.out).2).mono ?_
  rintro e w7 ⟨rfl, hb⟩
  have B7 := hid (cthen B6.out hb)
  clear hb
  go_wp2_with fail
  refine (stops_any 0 _).mono ?_
  rintro e w8 ⟨rfl, hb⟩
  have B8 := hid (cthen B7.out hb)
  clear hb
  go_wp2_with fail
  refine (reports_any 0 _).mono ?_
  rintro e w9 ⟨rfl, hb⟩
  have B9 := hid (cthen B8.out hb)
  clear hb
  go_wp2_with fail
  go_ret
  exact ⟨rfl, B9.out⟩
end Go.Proofs.YtjgcdjfeglhalaaDoor
