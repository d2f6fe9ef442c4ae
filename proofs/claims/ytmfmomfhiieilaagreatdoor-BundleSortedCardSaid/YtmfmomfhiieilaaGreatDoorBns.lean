/- 'node.Size' at any tree. -/
import Derived.Test.YtmfmomfhiieilaaGreatDoorBsz
set_option linter.unusedVariables false
set_option linter.unusedSimpArgs false
namespace Go.Proofs.YtmfmomfhiieilaaGreatDoor
open Go.RowKit Go.Shelf Go.Proofs.YtmfmomfhiieilaaGreatDoor.It Go.Proofs.YtmfmomfhiieilaaGreatDoorW.PrintWords Go.Proofs.YtmfmomfhiieilaaGreatDoorW.PrintLast Go.Proofs.YtmfmomfhiieilaaGreatDoorW.PrintMore
namespace Bn
open PBundleSorted
def fcell (p : Option Addr × Nat × Nat) : List Value := [.int .u16 0, .slice p.1 p.2.1 p.2.2]
/-- Frames of the call's own, whose values have these lengths. -/
def OwnF (w : World) (base : Nat) (v : Value) (L : List Nat) : Prop := ∃ ps : List (Option Addr × Nat × Nat), ps.map (fun p => p.2.1) = L ∧ w.ownsRow base 147 2 v L.length (ps.flatMap fcell)
theorem fcell_at (ps : List (Option Addr × Nat × Nat)) (t j : Nat) (ht : t < ps.length) (hj : j < 2) : (ps.flatMap fcell)[t * 2 + j]? = (fcell ps[t])[j]? := by
  induction ps generalizing t with
  | nil => simp at ht
  | cons s l ih =>
    rw [List.flatMap_cons]
    rcases t with _ | t
    · rw [List.getElem?_append_left (by simp [fcell]; omega)]
      simp
    · rw [List.getElem?_append_right (by simp [fcell]; omega)]
      have := ih t (by simpa using ht)
      rw [show (t + 1) * 2 + j - (fcell s).length = t * 2 + j by simp [fcell]; omega, this]
      simp
theorem ownF_read {w : World} {base : Nat} {v : Value} {L : List Nat} (h : OwnF w base v L) : ∃ A c, v = .slice A L.length c ∧ FC w A L := by
  obtain ⟨ps, rfl, ho⟩ := h
  have hz := ho.1
  rcases ho.2 with ⟨rfl, h0⟩ | ⟨g, cap, cur, rfl, hb, hg, hcap, hmax, hcur, hpre⟩
  · exact ⟨none, 0, by rw [h0], .inl (List.eq_nil_of_length_eq_zero h0)⟩
  · refine ⟨_, _, rfl, .inr ⟨g, 0, rfl, fun t ht => ?_⟩⟩
    have ht' : t < ps.length := by simpa using ht
    have hc : ∀ j, j < 2 → w.cell? ⟨g, 0 + t * 2 + j, none⟩ = (fcell ps[t])[j]? := fun j hj => by
      rw [← fcell_at ps t j ht' hj, ← hpre, List.getElem?_take_of_lt (by omega)]
      unfold World.cell?
      rw [hg]
      simp
    have e : (ps.map (fun p => p.2.1)).getD t 0 = (ps[t]).2.1 := by
      rw [List.getD_eq_getElem?_getD, List.getElem?_map, List.getElem?_eq_getElem ht']
      rfl
    rw [e]
    exact ⟨0, _, _, hc 0 (by omega), hc 1 (by omega)⟩
theorem ownF_kept {w w' : World} {base : Nat} {v : Value} {L : List Nat} (h : OwnF w base v L) (hb : Below w.heap.size w w') : OwnF w' base v L := by
  obtain ⟨ps, e, ho⟩ := h
  exact ⟨ps, e, pw_own_below ho hb⟩
theorem grown_blw {W w9 : World} (h : W.grownBy w9 none) : Below W.heap.size W w9 := (Below.refl _ _).grown h (Nat.le_refl _) (fun k hk => by cases hk)
/-- What holds in the loop of 'node.Size'. -/
def NsI (w : World) (L : List Nat) (v : Value) (W : World) : Prop := Below w.heap.size w W ∧ OwnF W w.heap.size v L
/-- The values' lengths. -/
def nvs (l : List Nd) : List Nat := l.map (fun x => x.f1.length + szs (nszs x.f2))
theorem nvs_f4 (l : List Nd) : f4 (nvs l) = nszs l := by
  rw [nszs_map]
  unfold f4 nvs
  rw [List.map_map]
  exact List.map_congr_left (fun x _ => (nsz_eq x).symm)
theorem nvs_step (l : List Nd) (i : Nat) (h : i < l.length) : nvs (l.take (i + 1)) = nvs (l.take i) ++ [(l[i]).f1.length + szs (nszs (l[i]).f2)] := by
  unfold nvs
  rw [List.take_add_one, List.getElem?_eq_getElem h, List.map_append]
  rfl
/-- The contract of 'node.Size' at a list. -/
def NsC (l : List Nd) : Prop := ∀ (A : Option Addr) (c n : Nat) (w : World), l.length = n → Kd.C k87 w A n l → Calls Tryz.prog 66 #[.slice A n c] w (IsPost (.int .i64 (szs (nszs l))) w)
theorem nS_blw {S5 W W' : World} {p : Nat} {v1 v2 : Value} (h : Below S5.heap.size S5 W ∧ W.cell? ⟨p, 1, none⟩ = some v1 ∧ W.cell? ⟨p, 2, none⟩ = some v2) (hb : Below W.heap.size W W') : Below S5.heap.size S5 W' ∧ W'.cell? ⟨p, 1, none⟩ = some v1 ∧ W'.cell? ⟨p, 2, none⟩ = some v2 :=
  ⟨cthen h.1 hb, pw_cell_below hb h.2.1, pw_cell_below hb h.2.2⟩
theorem one_fcell {p : Option Addr × Nat × Nat} : ∀ u ∈ fcell p, u.oneCell' = true := by
  intro u hu
  unfold fcell at hu
  simp at hu
  rcases hu with rfl | rfl <;> rfl
set_option maxRecDepth 100000 in
/-- The run of a 'make' whose length is a sum. -/
theorem mk_run {w w1 : World} {o : Oper} {a : Act} {s x n : Nat} {S : Int} {v : Value} (ho : o.op = .makeSlice x (.tmp s) (.tmp s)) (he : a.eval (.tmp s) = .int .i64 S) (hS : S = ((n : Nat) : Int)) (h : (Instr.makeSlice x (.int .i64 (n : Int)) (.int .i64 (n : Int))).run Tryz.prog w = .ok v w1) : (execOp a.eval o).run Tryz.prog w = .ok (.value v) w1 := by
  subst hS
  simp [execOp, ho, he, h, Result.andThen]
set_option maxRecDepth 100000 in
set_option maxHeartbeats 2000000 in
theorem nsize_step (l : List Nd) (hcn : cnts l ≤ 1000) (ih : ∀ (i : Nat) (h : i < l.length), NsC (l[i]).f2) : NsC l := by
  intro A c n w hn hC
  have HN := hid hn
  have HC := hid hC
  have HIH := hid ih
  have HCN := hid hcn
  have HL := hid (show n ≤ 1000 by have := len_cnts l; omega)
  have HI0 := hid (show NsI w [] (.slice none 0 0) w from ⟨Below.refl _ _, [], rfl, World.ownsRow_nil _ _ _ _⟩)
  obtain ⟨i0, hi0, hz0, hz1, hz2⟩ := info_parts infoF
  obtain ⟨j0, hj0, hy0, hy1, hy2⟩ := info_parts infoB
  clear hn hC ih hcn
  go_enter Tryz.func66, Tryz.ntmps66
  go_wp2_with fail
  go_loopw [3, 8] (fun v vi W => ∃ (i : Nat) (A2 : Option Addr) (c2 : Nat), vi = .int .i64 i ∧ v = .slice A2 i c2 ∧ i ≤ n ∧ Hid (NsI w (nvs (l.take i)) (.slice A2 i c2) W)) (fun _ vi _ => n - (intOf vi).toNat)
  case atStart => exact ⟨0, none, 0, rfl, rfl, by omega, HI0⟩
  case round =>
    obtain ⟨i, A2, c2, rfl, rfl, hi, hI⟩ := hrel
    clear HI0
    by_cases hlt : i < n
    · have hil : i < l.length := by have := HN.out; omega
      obtain ⟨b, off, B1, d1, B2, d2, rfl, k0, k1, k2, l1, g1, l2, g2⟩ := node_at (HC.out.imp_ hI.out.1 (fun _ _ h => k87.K_below hI.out.1 h)) i hil
      have hstep := nvs_step l i hil
      have hih := HIH.out i hil
      have hbd := nszs_bd (l[i]).f2
      have hc1 := cnts_at l l[i] (List.getElem_mem hil)
      rw [cnt_eq] at hc1
      have hcn := HCN.out
      obtain ⟨x, hx⟩ : ∃ x, l[i] = x := ⟨_, rfl⟩
      rw [hx] at k0 k1 k2 g1 g2 hstep hih hbd hc1
      obtain ⟨m1, hm1⟩ : ∃ m, x.f1.length = m := ⟨_, rfl⟩
      obtain ⟨m2, hm2⟩ : ∃ m, x.f2.length = m := ⟨_, rfl⟩
      obtain ⟨s2, hs2⟩ : ∃ s, szs (nszs x.f2) = s := ⟨_, rfl⟩
      rw [hm1] at k1 hstep hc1
      rw [hm2] at k2 g2
      rw [hs2] at hstep hbd
      have hbm1 : m1 + s2 ≤ 2100000 := by omega
      have HBM := hid hbm1
      have HSUM := hid (show wrap64 ((m1 : Int) + (s2 : Int)) = ((m1 + s2 : Nat) : Int) by unfold wrap64; omega)
      have HST := hid hstep
      have HLN := hid (show (nvs (l.take i)).length = i by unfold nvs; rw [List.length_map, List.length_take]; omega)
      have HWI := hid (show wrap64 ((i : Int) + 1) = ((i + 1 : Nat) : Int) by have := HL.out; unfold wrap64; omega)
      have HIN := hid (show i ≤ 1000 by have := HL.out; omega)
      have hcall := fun W (hW : Below wr.heap.size wr W) => hih B2 d2 m2 W hm2 (Kd.C_below g2 hW)
      rw [hs2] at hcall
      go_upto_region 5 with fail
      obtain ⟨S5, hS5⟩ : ∃ S5, wr.alloc (.cells #[.int .u16 x.f0, .slice B1 m1 d1, .slice B2 m2 d2] 87) = S5 := ⟨_, rfl⟩
      have hbS : Below wr.heap.size wr S5 := by rw [← hS5]; exact below_alloc (Below.refl _ _) _
      have HB5 := hid (cthen hI.out.1 hbS)
      obtain ⟨⟨y0, y1, y2⟩, -⟩ := three (show S5.heap[wr.heap.size]? = some (.cells #[.int .u16 x.f0, .slice B1 m1 d1, .slice B2 m2 d2] 87 (0, 0)) by rw [← hS5]; exact blk_new wr _)
      have HCALL := hid (fun W (hW : Below S5.heap.size S5 W) => hcall W (cthen hbS hW))
      obtain ⟨ps, hps, hrow⟩ := ownF_kept hI.out.2 hbS
      rw [HLN.out] at hrow
      have HO5 := hid hrow
      have HPS := hid hps
      have hS0 : Below S5.heap.size S5 S5.drew ∧ S5.drew.cell? ⟨wr.heap.size, 1, none⟩ = some (.slice B1 m1 d1) ∧ S5.drew.cell? ⟨wr.heap.size, 2, none⟩ = some (.slice B2 m2 d2) := ⟨below_drew (Below.refl _ _) 1, y1, y2⟩
      rw [hS5]
      clear hx hstep hih hbd hc1 hcn hm1 hm2 hs2 g1 g2 l1 l2 hil hbm1 hcall hS5 hbS hps hrow y0 y1 y2 k0 k1 k2
      refine start_ (n := 13) (S := fun w' => Below S5.heap.size S5 w' ∧ w'.cell? ⟨wr.heap.size, 1, none⟩ = some (.slice B1 m1 d1) ∧ w'.cell? ⟨wr.heap.size, 2, none⟩ = some (.slice B2 m2 d2)) (ds := [8, 10, 11]) (bA 13 0) (by kernel_rfl) rfl rfl hS0 (fun hHeld => ?_)
      generalize S5.drew = w44 at hS0 hHeld ⊢
      refine pU 0 (some 12) (bA 13 1) rfl rfl ?_
      refine pU 1 (some 13) (bA 13 3) rfl rfl ?_
      refine pU 4 (some 16) (bA 13 19) rfl rfl ?_
      refine tU 2 (some 14) (bA 13 23) rfl rfl hHeld (by rintro w' ⟨q0, q1, q2⟩; go_simp; with_reducible rfl) ?_
      refine pU 3 (some 15) (bA 13 31) rfl rfl ?_
      refine tU 5 (some 17) (bA 13 63) rfl rfl hHeld (by rintro w' ⟨q0, q1, q2⟩; go_simp; with_reducible rfl) ?_
      refine one_ (i := 6) (N := some 18) (bA 13 127) rfl rfl (by kernel_rfl) (by decide) (fun K hK => ?_)
      refine goes_ Tryz.func66 (by kernel_rfl) rfl #[.slice B2 m2 d2] (by rfl) rfl rfl (by simp only [List.map_toArray, List.map_cons, List.map_nil]; rfl) ?_
      refine Calls.mono (HCALL.out _ hHeld.1) ?_
      rintro e W6 ⟨rfl, hb6⟩
      refine ⟨_, rfl, ?_⟩
      have hS6 := nS_blw hHeld hb6
      refine hK.out _ _ hS6 (fun hHeld6 => ?_)
      clear hK K
      refine nU ?_
      refine pU 7 (some 19) (bA 13 255) rfl rfl ?_
      refine last_ (i := 8) (N := some 20) (bA 13 511) rfl rfl (by kernel_rfl) (by decide) (fun K hK => ?_)
      obtain ⟨w10, hrun, hown, hgrow⟩ := run_make_full (P := Tryz.prog) W6 W6.heap.size 39 5 j0 _ 1 Tryz.underlying39 hj0 hy0 hy1 .i64 .i64 (m1 + s2) (by rw [hy2]; have := HBM.out; omega) (by have := HBM.out; unfold maxLen; omega) (Nat.le_refl _)
      have HB10 := hid (cthen hHeld6.1 (grown_blw hgrow))
      clear hown hgrow
      refine value_ (w1 := w10) (v := .slice (some ⟨W6.heap.size, 0, none⟩) (m1 + s2) (m1 + s2)) (by rfl) rfl (mk_run rfl rfl HSUM.out hrun) ?_
      clear hrun
      refine hK.out _ _ ?_
      clear hK K
      refine nU ?_
      refine pU 9 (some 21) (bA 13 1023) rfl rfl ?_
      refine last_ (i := 10) (N := some 22) (bA 13 2047) rfl rfl (by kernel_rfl) (by decide) (fun K hK => ?_)
      refine value_ (w1 := w10.alloc (.cells (fcell (some ⟨W6.heap.size, 0, none⟩, m1 + s2, m1 + s2)).toArray 147)) (v := .slice (some ⟨w10.heap.size, 0, none⟩) 1 1) (by rfl) rfl (by go_simp; rfl) ?_
      refine hK.out _ _ ?_
      clear hK K
      refine nU ?_
      refine last_ (i := 11) (N := some 23) (bA 13 4095) rfl rfl (by kernel_rfl) (by decide) (fun K hK => ?_)
      have HROW := hid (World.ownsRow.alloc (pw_own_below HO5.out HB10.out) (.cells (fcell (some ⟨W6.heap.size, 0, none⟩, m1 + s2, m1 + s2)).toArray 147))
      have HNW := hid (news_1 147 w10 (fcell (some ⟨W6.heap.size, 0, none⟩, m1 + s2, m1 + s2)))
      have HSZ := hid (show w.heap.size ≤ (w10.alloc (.cells (fcell (some ⟨W6.heap.size, 0, none⟩, m1 + s2, m1 + s2)).toArray 147)).heap.size by rw [World.size_alloc]; have := HB10.out.size; have := HB5.out.size; omega)
      refine step_append_lies _ (by rfl) _ _ _ (by rfl) w.heap.size 147 i0 _ 2 32 Tryz.underlying145 hi0 hz0 hz1 hz2 rfl (by omega) _ _ _ (by rfl) HROW.out ⟨w10.heap.size, 0, none⟩ 1 1 (fcell (some ⟨W6.heap.size, 0, none⟩, m1 + s2, m1 + s2)) (by rfl) rfl HNW.out one_fcell (by omega) (by have := HIN.out; unfold maxLen; omega) (by have := HIN.out; omega) HSZ.out _ rfl ?_
      intro gg cap w9 hown1 hgrow hat hlt'
      have HB9 := hid (grown_below (cthen HB5.out HB10.out) (pw_own_below HO5.out HB10.out) (Nat.le_refl _) hgrow)
      have HO9 := hid hown1
      clear hown1 hgrow hat hlt'
      refine hK.out _ _ ?_
      clear hK K
      refine nU ?_
      refine pU 12 (some 3) (bA 13 8191) rfl rfl ?_
      refine done_ (by kernel_rfl) ?_
      have HPS2 := hid (show (ps ++ [((some ⟨W6.heap.size, 0, none⟩ : Option Addr), m1 + s2, m1 + s2)]).map (fun p : Option Addr × Nat × Nat => p.2.1) = nvs (l.take (i + 1)) by rw [HST.out, List.map_append, HPS.out]; rfl)
      go_wp2_with fail
      refine ⟨⟨i + 1, some ⟨gg, 0, none⟩, cap, by rw [HWI.out], rfl, hlt, hid ⟨HB9.out, _, HPS2.out, ?_⟩⟩, by rw [HWI.out]; simp only [intOf, Int.toNat_natCast]; omega⟩
      rw [HST.out, List.length_append, HLN.out, List.flatMap_append]
      have := HO9.out
      simpa using this
    · obtain rfl : i = n := by omega
      have htl : l.take i = l := by rw [← HN.out, List.take_length]
      rw [htl] at hI
      obtain ⟨A8, c8, e8, hr⟩ := ownF_read hI.out.2
      injection e8 with e1 e2 e3
      subst e1
      have HR := hid hr
      have HBD := hid (nszs_bd l)
      have HN2 := hid (show (nvs l).length = i by unfold nvs; rw [List.length_map]; exact HN.out)
      have hts := tsize_any A2 c2 i (nvs l) wr HN2.out HR.out (by rw [nvs_f4]; have := HBD.out; have := HCN.out; omega) (by have := HL.out; omega)
      rw [nvs_f4] at hts
      clear e2 e3 htl hr
      go_wp2_with fail
      refine hts.mono ?_
      rintro e w2 ⟨rfl, hb⟩
      have HB := hid (cthen hI.out.1 hb)
      clear hb
      go_wp2_with fail
      go_ret
      exact ⟨rfl, HB.out⟩
/-- 'node.Size' at any list that is not too much. -/
theorem nsize_any : ∀ (k : Nat) (l : List Nd), cnts l ≤ k → k ≤ 1000 → NsC l := by
  intro k
  induction k with
  | zero =>
    intro l hl hk
    refine nsize_step l (by omega) (fun i h => ?_)
    have := cnts_at l l[i] (List.getElem_mem h)
    rw [cnt_eq] at this
    omega
  | succ k ih =>
    intro l hl hk
    refine nsize_step l (by omega) (fun i h => ih _ ?_ (by omega))
    have := cnts_at l l[i] (List.getElem_mem h)
    rw [cnt_eq] at this
    omega
end Bn
end Go.Proofs.YtmfmomfhiieilaaGreatDoor
