/- 'chunk.Clone' at any chunk: what is made is the call's own. -/
import Derived.Test.YtmfmomfhiieilaaGreatDoorBcl
import Derived.Test.YtmfmomfhiieilaaGreatDoorBch
set_option linter.unusedVariables false
set_option linter.unusedSimpArgs false
namespace Go.Proofs.YtmfmomfhiieilaaGreatDoor
open Go.RowKit Go.Shelf Go.Proofs.YtmfmomfhiieilaaGreatDoor.It Go.Proofs.YtmfmomfhiieilaaGreatDoorW.PrintWords Go.Proofs.YtmfmomfhiieilaaGreatDoorW.PrintLast Go.Proofs.YtmfmomfhiieilaaGreatDoorW.PrintMore
namespace Bn
open PBundleSorted
/-- What 'chunk.Clone' gives. -/
def CcP (t f : Int) (D : List Int) (xs : List Nd) (w : World) (e : Ending) (w' : World) : Prop := ∃ v1 v2, e = .returned (.agg #[.int .u8 t, .int .u8 f, v1, v2]) ∧ RD w' w.heap.size (fun _ => True) v1 D ∧ RK w' w.heap.size (fun _ => True) v2 xs ∧ Below w.heap.size w w'
def set4 (W : World) (q : Nat) (a b c d : Value) : World := (((W.setCell ⟨q, 0, none⟩ a).setCell ⟨q, 1, none⟩ b).setCell ⟨q, 2, none⟩ c).setCell ⟨q, 3, none⟩ d
theorem set4_R {α : Type} {k : Kd α} {e : Nat} {W : World} {q b base : Nat} {v u0 u1 u2 u3 : Value} {xs : List α} (h : k.R e W b (fun _ => True) v xs) (hb : base ≤ b) (hq : q < b) : k.R e (set4 W q u0 u1 u2 u3) base (fun _ => True) v xs := by
  have h0 : k.R e W base (fun k => k ≠ q) v xs := Kd.R_lower (Kd.R_mono (Kd.R_bound h) (fun k hk => by have := hk.2.1; show k ≠ q; omega)) hb
  exact Kd.R_mono (Kd.R_far (p := ⟨q, 3, none⟩) (Kd.R_far (p := ⟨q, 2, none⟩) (Kd.R_far (p := ⟨q, 1, none⟩) (Kd.R_far (p := ⟨q, 0, none⟩) h0 (fun k hk => hk) _) (fun k hk => hk) _) (fun k hk => hk) _) (fun k hk => hk) _) (fun _ _ => trivial)
theorem set4_below {w W : World} {q : Nat} {u0 u1 u2 u3 : Value} (h : Below w.heap.size w W) (hq : w.heap.size ≤ q) : Below w.heap.size w (set4 W q u0 u1 u2 u3) :=
  below_set (below_set (below_set (below_set h hq _) hq _) hq _) hq _
theorem field_kids (a : Int) (A B : Option Addr) (n m c d : Nat) (w : World) : (Instr.field 87 (.agg #[.int .u16 a, .slice A n c, .slice B m d]) 2).run Tryz.prog w = .ok (.slice B m d) w := by kernel_rfl
theorem cc_blw {S W W' : World} {a0 a1 a2 : Addr} {v0 v1 v2 : Value} (h : Below S.heap.size S W ∧ W.cell? a0 = some v0 ∧ W.cell? a1 = some v1 ∧ W.cell? a2 = some v2) (hb : Below W.heap.size W W') : Below S.heap.size S W' ∧ W'.cell? a0 = some v0 ∧ W'.cell? a1 = some v1 ∧ W'.cell? a2 = some v2 :=
  ⟨cthen h.1 hb, pw_cell_below hb h.2.1, pw_cell_below hb h.2.2.1, pw_cell_below hb h.2.2.2⟩
set_option maxRecDepth 100000 in
set_option maxHeartbeats 4000000 in
theorem cclone_any (t f : Int) (A K : Option Addr) (n c m d : Nat) (D : List Int) (xs : List Nd) (w : World) (hn : D.length = n) (hC : BC w A D) (hc : n ≤ c) (hl : n ≤ 1000000) (hm : xs.length = m) (hK : Kd.C k87 w K m xs) (hd : m ≤ d) (hcn : cnts xs ≤ 900) :
    Calls Tryz.prog 28 #[.agg #[.int .u8 t, .int .u8 f, .slice A n c, .slice K m d]] w (CcP t f D xs w) := by
  obtain ⟨S, hS⟩ : ∃ S, (w.alloc (.cells #[.int .u8 t, .int .u8 f, .slice A n c, .slice K m d] 42)).alloc (.cells #[.int .u8 0, .int .u8 0, .slice none 0 0, .slice none 0 0] 42) = S := ⟨_, rfl⟩
  have HS := hid hS
  have hbS : Below w.heap.size w S := by rw [← hS]; exact below_alloc (below_alloc (Below.refl _ _) _) _
  have hzS : S.heap.size = w.heap.size + 2 := by rw [← hS, World.size_alloc, World.size_alloc]
  have BS := hid hbS
  have ZS := hid hzS
  have XS := hid (show S.heap[w.heap.size]? = some (.cells #[.int .u8 t, .int .u8 f, .slice A n c, .slice K m d] 42 (0, 0)) by rw [← hS]; exact blk_alloc (blk_new w _))
  have RS := hid (show S.heap[w.heap.size + 1]? = some (.cells #[.int .u8 0, .int .u8 0, .slice none 0 0, .slice none 0 0] 42 (0, 0)) by rw [← hS]; have h := blk_new (w.alloc (.cells #[.int .u8 t, .int .u8 f, .slice A n c, .slice K m d] 42)) (.cells #[.int .u8 0, .int .u8 0, .slice none 0 0, .slice none 0 0] 42); rw [World.size_alloc] at h; exact h)
  have HCLN := hid (fun W (hW : Below S.heap.size S W) => by
    have h := clone_any A c D W (hC.below (cthen hbS hW)) (by omega) (by omega)
    rw [hn] at h
    exact h)
  have hND := ncl_any 1000 ⟨0, [], xs⟩ (by rw [cnt_eq]; simp; omega) (Nat.le_refl _) none K 0 0 m d S rfl hm (ints_nil none) (Nat.le_refl _) (Kd.C_below hK hbS) hd
  obtain ⟨⟨x0, x1, x2, x3⟩, -⟩ := four XS.out
  rw [← hS] at hND x0 x1 x2 x3
  clear hn hC hc hl hm hK hd hcn hS hbS hzS
  go_enter Tryz.func28, Tryz.ntmps28
  go_wp2_with fail
  refine hND.mono ?_
  rintro e w3 ⟨vX, vK, rfl, hrX, hrK, hb3⟩
  rw [HS.out] at hrK hb3
  obtain ⟨C2, h2, rfl, -, -⟩ := Kd.R_reads hrK
  obtain ⟨C1, h1, rfl, -, -⟩ := Kd.R_reads hrX
  have HRK := hid hrK
  have HB3 := hid hb3
  clear x0 x1 x2 x3 hrX hrK hb3 hND
  have hfk := field_kids
  go_upto_region 2 with fail
  clear hfk
  obtain ⟨⟨x0, x1, x2, x3⟩, -⟩ := four (blk_below XS.out HB3.out)
  have hS0 : Below w3.heap.size w3 w3.drew ∧ w3.drew.cell? ⟨w.heap.size, 0, none⟩ = some (.int .u8 t) ∧ w3.drew.cell? ⟨w.heap.size, 1, none⟩ = some (.int .u8 f) ∧ w3.drew.cell? ⟨w.heap.size, 2, none⟩ = some (.slice A n c) := ⟨below_drew (Below.refl _ _) 1, x0, x1, x2⟩
  clear x0 x1 x2 x3
  refine start_ (n := 10) (S := (fun W => Below w3.heap.size w3 W ∧ W.cell? ⟨w.heap.size, 0, none⟩ = some (.int .u8 t) ∧ W.cell? ⟨w.heap.size, 1, none⟩ = some (.int .u8 f) ∧ W.cell? ⟨w.heap.size, 2, none⟩ = some (.slice A n c))) (ds := [9]) (bA 10 0) (by kernel_rfl) rfl rfl hS0 (fun hHeld => ?_)
  generalize w3.drew = w44 at hS0 hHeld ⊢
  refine pU 0 (some 9) (bA 10 1) rfl rfl ?_
  refine pU 2 (some 11) (bA 10 5) rfl rfl ?_
  refine pU 4 (some 13) (bA 10 21) rfl rfl ?_
  refine pU 7 (some 16) (bA 10 149) rfl rfl ?_
  refine tU 1 (some 10) (bA 10 151) rfl rfl hHeld (by rintro w' ⟨q0, q1, q2, q3⟩; go_simp; with_reducible rfl) ?_
  refine tU 3 (some 12) (bA 10 159) rfl rfl hHeld (by rintro w' ⟨q0, q1, q2, q3⟩; go_simp; with_reducible rfl) ?_
  refine tU 5 (some 14) (bA 10 191) rfl rfl hHeld (by rintro w' ⟨q0, q1, q2, q3⟩; go_simp; with_reducible rfl) ?_
  refine one_ (i := 6) (N := some 15) (bA 10 255) rfl rfl (by kernel_rfl) (by decide) (fun KK hK => ?_)
  refine goes_ Tryz.func54 (by kernel_rfl) rfl #[.slice A n c] (by rfl) rfl rfl (by simp only [List.map_toArray, List.map_cons, List.map_nil]; rfl) ?_
  refine Calls.mono (HCLN.out _ (cthen HB3.out hHeld.1)) ?_
  rintro e W6 ⟨vD, rfl, hvD, hb6⟩
  refine ⟨_, rfl, ?_⟩
  obtain ⟨A9, c9, rfl, -, -, -⟩ := own_slice hvD
  have hS6 := cc_blw hHeld hb6
  have HRD := hid (show RD W6 w44.heap.size (fun _ => True) (.slice A9 D.length c9) D from R_of_own (k := .u8) hvD)
  have HB6 := hid (cthen hHeld.1 hb6)
  have HZ4 := hid (show w3.heap.size ≤ w44.heap.size from hHeld.1.size)
  clear hvD hb6
  refine hK.out _ _ hS6 (fun hHeld6 => ?_)
  clear hK KK
  refine nU ?_
  refine pU 8 (some 17) (bA 10 511) rfl rfl ?_
  refine last_ (i := 9) (N := none) (bA 10 1023) rfl rfl (by kernel_rfl) (by decide) (fun KK hK => ?_)
  obtain ⟨⟨r0, r1, r2, r3⟩, ⟨f0, f1, f2, f3⟩⟩ := four (blk_below (blk_below RS.out HB3.out) HB6.out)
  refine skip_ (w1 := (((W6.setCell ⟨w.heap.size + 1, 0, none⟩ (.int .u8 t)).setCell ⟨w.heap.size + 1, 1, none⟩ (.int .u8 f)).setCell ⟨w.heap.size + 1, 2, none⟩ (.slice A9 D.length c9)).setCell ⟨w.heap.size + 1, 3, none⟩ (.slice C2 xs.length h2)) (by rfl) rfl (by go_simp; done) ?_
  clear r0 r1 r2 r3 f0 f1 f2 f3
  refine hK.out _ _ ?_
  clear hK KK
  refine done_ (by kernel_rfl) ?_
  have hR := set_blk3 (set_blk3 (set_blk3 (set_blk3 (blk_below (blk_below RS.out HB3.out) HB6.out) 0 (.int .u8 t)) 1 (.int .u8 f)) 2 (.slice A9 D.length c9)) 3 (.slice C2 xs.length h2)
  obtain ⟨⟨s0, s1, s2, s3⟩, -⟩ := four (show (set4 W6 (w.heap.size + 1) (.int .u8 t) (.int .u8 f) (.slice A9 D.length c9) (.slice C2 xs.length h2)).heap[w.heap.size + 1]? = some (.cells #[.int .u8 t, .int .u8 f, .slice A9 D.length c9, .slice C2 xs.length h2] 42 (0, 0)) from hR)
  unfold set4 at s0 s1 s2 s3
  go_wp2_with fail
  have hz := ZS.out
  have hz3 := HB3.out.size
  have hz4 := HZ4.out
  exact bodyPost_ret (v := .agg #[.int .u8 t, .int .u8 f, .slice A9 D.length c9, .slice C2 xs.length h2]) (by simp [results, Tryz.results28, go_sem, s0, s1, s2, s3]) rfl ⟨_, _, rfl, set4_R HRD.out (by omega) (by omega), set4_R (Kd.R_below HRK.out HB6.out) (by omega) (by omega), set4_below (cthen BS.out (cthen HB3.out HB6.out)) (by omega)⟩
end Bn
end Go.Proofs.YtmfmomfhiieilaaGreatDoor
