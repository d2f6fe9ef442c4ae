/- The walk of ForwardMatchesReference. -/
import Derived.Test.YtcjcgehhmjnlcaaGreatDoorRmk
import Derived.Test.YtcjcgehhmjnlcaaGreatDoorOpf
import Derived.Test.YtcjcgehhmjnlcaaGreatDoorSam
import Derived.Test.YtcjcgehhmjnlcaaGreatDoorMh
set_option linter.unusedVariables false
set_option linter.unusedSimpArgs false
namespace Go.Proofs.YtcjcgehhmjnlcaaGreatDoor
open Go.RowKit Go.Shelf Go.Proofs.YtcjcgehhmjnlcaaGreatDoor.It Go.Proofs.YtcjcgehhmjnlcaaGreatDoorW.PrintWords Go.Proofs.YtcjcgehhmjnlcaaGreatDoorW.PrintLast Go.Proofs.YtcjcgehhmjnlcaaGreatDoorW.PrintMore PForwardMatchesReference
theorem rd_sk (l : List Sk) (i : Nat) (h : i < l.length) : rd_T25 (l.map ofSk') (i : Int) = ofSk' (l.getD i skZ) := by
  unfold rd_T25
  simp [List.getD_eq_getElem?_getD, List.getElem?_eq_getElem h]
theorem right_ev (inter : Bool) (l : List Sk) (hl : l.length ≤ 200) : ∀ (d i : Nat), l.length - i = d → i ≤ l.length → Ev (fun k => wharfref16_Right.l0 k inter (l.map ofSk') (i : Int)) (!((l.drop i).any (skBad inter))) := by
  intro d
  induction d with
  | zero =>
    intro i hd hi
    have hdr : l.drop i = [] := by rw [show i = l.length by omega]; simp
    rw [hdr]
    refine Ev.step (f := fun _ => some true) (fun k => ?_) (Ev.now _)
    simp only [wharfref16_Right.l0]
    rw [if_neg (by simp; omega)]
    have h8 : wrap64 (4 + wrap64 (8 * ((l.map ofSk').length : Int))) ≤ 65531 := by simp; unfold wrap64; omega
    have h4 : wrap64 (4 + wrap64 (4 * ((l.map ofSk').length : Int))) ≤ 65531 := by simp; unfold wrap64; omega
    simp only [h8, h4, decide_true]
    split <;> rfl
  | succ d ih =>
    intro i hd hi
    have hil : i < l.length := by omega
    have hdr : l.drop i = l.getD i skZ :: l.drop (i + 1) := by
      rw [List.drop_eq_getElem_cons hil]
      simp [List.getD_eq_getElem?_getD, List.getElem?_eq_getElem hil]
    obtain ⟨s, hs⟩ : ∃ s, s = l.getD i skZ := ⟨_, rfl⟩
    have hr := rd_sk l i hil
    have hi1 := ih (i + 1) (by omega) (by omega)
    rw [hdr, List.any_cons]
    rw [← hs] at hr ⊢
    have hw := wrap_next i (by omega)
    have hc : (i : Int) < ((l.map ofSk').length : Int) := by simp; omega
    cases inter
    · by_cases hu : s.un = true
      · refine Ev.step (f := fun _ => some false) (fun k => ?_) (by simpa [skBad, hu] using Ev.now false)
        simp only [wharfref16_Right.l0]
        rw [if_pos hc, if_neg (by simp), if_pos (by omega), hr]
        simp [ofSk', hu]
      · by_cases hq : s.sq > 65535
        · refine Ev.step (f := fun _ => some false) (fun k => ?_) (by simpa [skBad, hq] using Ev.now false)
          simp only [wharfref16_Right.l0]
          rw [if_pos hc, if_neg (by simp), if_pos (by omega), hr]
          simp [ofSk', hu, hq]
        · have hb : skBad false s = false := by simp [skBad, hu, hq]
          rw [hb, Bool.false_or]
          refine Ev.step (fun k => ?_) hi1
          simp only [wharfref16_Right.l0]
          rw [if_pos hc, if_neg (by simp), if_pos (by omega), hr, hw]
          simp [ofSk', hu, hq]
    · have hb : skBad true s = false := by simp [skBad]
      rw [hb, Bool.false_or]
      refine Ev.step (fun k => ?_) hi1
      simp only [wharfref16_Right.l0]
      rw [if_pos hc, if_pos True.intro, hw]
theorem rright_any (inter : Bool) (A : Option Addr) (c : Nat) (l : List Sk) (w : World) (hS : SkC w A l) (hc : l.length ≤ c) (hl : l.length ≤ 200) :
    Calls Tryz.prog 38 #[.bool inter, .slice A l.length c] w (IsPost (.bool (!(l.any (skBad inter)))) w) := by
  obtain ⟨k, hk⟩ := (right_ev inter l hl l.length 0 (by omega) (by omega)).rounds
  have hC := kc_of_skc hS (by omega)
  have h := wharfref16_Right.calls k inter A c (l.map ofSk') (!(l.any (skBad inter))) w (by simpa using hC) (by simpa using hc) (by simpa [wharfref16_Right.f] using hk)
  simp only [List.length_map] at h
  exact h.mono (fun e w' h => ⟨h.1, h.2.below⟩)
theorem fsame_ev (l : List Sk) (hl : l.length ≤ 1000000) : ∀ (d i : Nat), l.length - i = d → i ≤ l.length → Ev (fun k => wharfref16_Same.l0 k (l.map ofSk') (l.map ofSk') (i : Int)) true := by
  intro d
  induction d with
  | zero =>
    intro i hd hi
    refine Ev.step (f := fun _ => some true) (fun k => ?_) (Ev.now _)
    simp only [wharfref16_Same.l0]
    rw [if_neg (by simp; omega)]
  | succ d ih =>
    intro i hd hi
    refine Ev.step (fun k => ?_) (ih (i + 1) (by omega) (by omega))
    simp only [wharfref16_Same.l0]
    have hw := wrap_next i (by omega)
    rw [if_pos (by simp; omega), if_pos (by omega), if_pos (by simp; omega), if_neg (by simp), hw]
theorem fsame_any (A B : Option Addr) (c d : Nat) (l : List Sk) (w : World) (hA : SkC w A l) (hB : SkC w B l) (hc : l.length ≤ c) (hd : l.length ≤ d) (hl : l.length ≤ 1000000) :
    Calls Tryz.prog 41 #[.slice A l.length c, .slice B l.length d] w (IsPost (.bool true) w) := by
  obtain ⟨k, hk⟩ := (fsame_ev l hl l.length 0 (by omega) (by omega)).rounds
  have hC := kc_of_skc hA (by omega)
  have hD := kc_of_skc hB (by omega)
  have h := wharfref16_Same.calls k A c (l.map ofSk') B d (l.map ofSk') true w (by simpa using hC) (by simpa using hc) (by simpa using hD) (by simpa using hd) (by simpa [wharfref16_Same.f] using hk)
  simp only [List.length_map] at h
  exact h.mono (fun e w' h => ⟨h.1, h.2.below⟩)
theorem chk_false (x : Int) (l : List Sk) (A : Option Addr) (c : Nat) (w : World) (hg : GTab w) (hz : (mkD false x l).length ≤ 65531) : Calls Tryz.prog 29 #[ckV 192 0 A (mkD false x l).length c none 0 0] w (ErrPost none w) := by
  have h := check_192 0 A none (mkD false x l).length c 0 0 w hg (by omega) (by omega)
  have hE : codeOnly (E192 0 (mkD false x l).length 0) = none := by
    rw [E192_len, if_pos ((fits_20 (k := l.length) (by rw [mkD_len, if_neg (by decide)])).2 hz)]
  rwa [hE] at h
theorem chk_true (x : Int) (l : List Sk) (A : Option Addr) (c : Nat) (w : World) (hg : GTab w) (hC : BC w A (mkD true x l)) (hc : (mkD true x l).length ≤ c) (hz : (mkD true x l).length ≤ 65531) : Calls Tryz.prog 29 #[ckV 194 0 A (mkD true x l).length c none 0 0] w (ErrPost none w) := by
  have h := check_194 0 A none c 0 0 (mkD true x l) w hg (by omega) hC (byt_mkD true x l) hc (by omega)
  rwa [E194_len, if_pos hz] at h
set_option maxRecDepth 100000 in
set_option maxHeartbeats 4000000 in
theorem law10_many (inter : Bool) (x : Int) (A : Option Addr) (n c : Nat) (w : World) (hn : 200 < n) (hg : GTab w) : Calls Tryz.prog 10 #[.bool inter, .int .u32 x, .slice A n c] w (IsPost (.bool true) w) := by
  have hA := awake_any w hg
  have HG := hid hg
  clear hg
  have h1 : (n : Int) > 200 := by omega
  go_enter Tryz.func10, Tryz.ntmps10
  go_wp2_with fail
  refine hA.mono ?_
  rintro e w1 ⟨rfl, hb⟩
  have B1 := hid hb
  clear hb hA
  have hA := awake_any w1 (HG.out.below B1.out)
  go_wp2_with fail
  refine hA.mono ?_
  rintro e w2 ⟨rfl, hb⟩
  have B2 := hid (cthen B1.out hb)
  clear hb hA
  go_wp2_with fail
  go_ret
  exact ⟨rfl, B2.out⟩
def CkS (wr : World) (b : Nat) (t : Int) (A : Option Addr) (n c : Nat) (w' : World) : Prop := Below wr.heap.size wr w' ∧ w'.cell? ⟨b, 0, none⟩ = some (.int .u8 t) ∧ w'.cell? ⟨b, 1, none⟩ = some (.int .u8 0) ∧ w'.cell? ⟨b, 2, none⟩ = some (.slice A n c) ∧ w'.cell? ⟨b, 3, none⟩ = some (.slice none 0 0)
theorem ckS_below {wr W W' : World} {b n c : Nat} {t : Int} {A : Option Addr} (hb : Below W.heap.size W W') (h : CkS wr b t A n c W) : CkS wr b t A n c W' :=
  ⟨cthen h.1 hb, (hb.cell (World.block_lt_of_cell? W _ h.2.1)).trans h.2.1, (hb.cell (World.block_lt_of_cell? W _ h.2.2.1)).trans h.2.2.1, (hb.cell (World.block_lt_of_cell? W _ h.2.2.2.1)).trans h.2.2.2.1, (hb.cell (World.block_lt_of_cell? W _ h.2.2.2.2)).trans h.2.2.2.2⟩
set_option maxRecDepth 100000 in
set_option maxHeartbeats 8000000 in
theorem law10_false_good (x : Int) (A : Option Addr) (c : Nat) (l : List Sk) (w : World) (hx0 : 0 ≤ x) (hx1 : x ≤ 4294967295) (hS : SkC w A l) (hok : ∀ s ∈ l, s.ok) (hc : l.length ≤ c) (hl : l.length ≤ 200) (hgd : l.any (skBad false) = false) (hg : GTab w) :
    Calls Tryz.prog 10 #[.bool false, .int .u32 x, .slice A l.length c] w (IsPost (.bool true) w) := by
  have hA := awake_any w hg
  have h1 : ¬ (l.length : Int) > 200 := by omega
  have HS := hid hS
  have HO := hid hok
  have HC := hid hc
  have HL := hid hl
  have HGD := hid hgd
  have HG := hid hg
  have HX := hid hx0
  have HY := hid hx1
  obtain ⟨D, hD⟩ : ∃ D, D = mkD false x l := ⟨_, rfl⟩
  have HD := hid hD
  have HDL := hid (show D.length ≤ 65531 by rw [hD, mkD_len]; split <;> omega)
  clear hg hS hok hc hgd hx0 hx1 hD
  go_enter Tryz.func10, Tryz.ntmps10
  go_wp2_with fail
  refine hA.mono ?_
  rintro e w1 ⟨rfl, hb⟩
  have B1 := hid hb
  clear hb hA
  go_wp2_with fail
  refine (given_any A c l _ (HS.out.below B1.out) HC.out (by omega)).mono ?_
  rintro e w2 ⟨v, rfl, hO, hb⟩
  obtain ⟨A1, c1, rfl, hc1, hr1⟩ := ownT_read hO
  have B2 := hid (cthen B1.out hb)
  have R1 := hid hr1
  have C1 := hid hc1
  clear hO hb hc1 hr1
  go_wp2_with fail
  refine (make_false x A1 c1 l _ (HG.out.below B2.out) R1.out HO.out C1.out (by omega)).mono ?_
  rintro e w3 ⟨hb, ⟨-, -, v, rfl, ho⟩ | ⟨hn, -⟩⟩
  rotate_left
  · exact absurd ⟨HGD.out, by rw [← HD.out]; exact HDL.out⟩ hn
  obtain ⟨A4, c4, rfl, hc4, hr4, -⟩ := own_slice ho
  rw [← HD.out] at hc4 hr4 ⊢
  have B3 := hid (cthen B2.out hb)
  have R4 := hid hr4
  have C4 := hid hc4
  clear hb ho hc4 hr4
  simp only [mkT, Bool.false_eq_true, if_true, if_false]
  obtain ⟨o4, ho4⟩ : ∃ o4 : Obj, o4 = .cells #[.int .u8 192, .int .u8 0, .slice A4 D.length c4, .slice none 0 0] 35 (0, 0) := ⟨_, rfl⟩
  have K3 := hid (blk_new w3 o4)
  have B3a := hid (below_alloc B3.out o4)
  have R4 := hid (R4.out.below (below_alloc (Below.refl _ _) o4))
  have hri := rright_any false A c l (w3.alloc o4) (HS.out.below B3a.out) HC.out HL.out
  rw [HGD.out] at hri
  subst ho4
  have HRI := hid hri
  clear hri
  obtain ⟨b7, hb7⟩ : ∃ b7, b7 = w3.heap.size := ⟨_, rfl⟩
  rw [← hb7] at K3
  have HB7 := hid hb7
  go_wp2_with fail
  refine HRI.out.mono ?_
  rintro e w4 ⟨rfl, hb⟩
  have B4 := hid (cthen B3a.out hb)
  have K4 := hid (blk_below K3.out hb)
  have R4 := hid (R4.out.below hb)
  rw [← hb7]
  clear hb HRI K3 hb7
  obtain ⟨⟨x0, x1, x2, x3⟩, -⟩ := four K4.out
  have hof := hid (of_192 0 A4 none c4 0 0 l.length (mkD false x l) w4 (by rw [← HD.out]; exact R4.out) (byt_mkD _ _ _) (by rw [← HD.out]; exact C4.out) (by rw [← HD.out]; exact HDL.out) (by rw [mkD_len, if_neg (by decide)]) (fun W hW => chk_false x l A4 c4 W (HG.out.below (cthen B4.out hW)) (by rw [← HD.out]; exact HDL.out)))
  rw [← HD.out] at hof
  go_wp2_with fail
  refine hof.out.mono ?_
  rintro e wr ⟨v, rfl, ho, hb⟩
  have BW := hid (cthen B4.out hb)
  have K5 := hid (blk_below K4.out hb)
  have R4 := hid (R4.out.below hb)
  rw [show peekV 4 D 0 = x by rw [HD.out]; exact mkD_head false x l HX.out HY.out]
  rw [show ofL false D (ofN false D) = l by rw [HD.out, ofN_mk, ofL_mk false x l HO.out HGD.out]] at ho
  obtain ⟨A6, c6, rfl, hc6, hr6⟩ := ownS_read ho
  have R6 := hid hr6
  have C6 := hid hc6
  clear ho hb hr6 hc6 hof x0 x1 x2 x3 K4
  go_upto_region 9 with fail
  have hS0 : CkS wr b7 192 A4 D.length c4 wr.drew := ⟨below_drew (Below.refl _ _) 1, (four K5.out).1.1, (four K5.out).1.2.1, (four K5.out).1.2.2.1, (four K5.out).1.2.2.2⟩
  refine start_ (n := 26) (S := fun w' => Below wr.heap.size wr w' ∧ w'.cell? ⟨b7, 0, none⟩ = some (.int .u8 192) ∧ w'.cell? ⟨b7, 1, none⟩ = some (.int .u8 0) ∧ w'.cell? ⟨b7, 2, none⟩ = some (.slice A4 D.length c4) ∧ w'.cell? ⟨b7, 3, none⟩ = some (.slice none 0 0)) (ds := []) #[false, false, false, false, false, false, false, false, false, false, false, false, false, false, false, false, false, false, false, false, false, false, false, false, false, false] (by kernel_rfl) rfl rfl hS0 (fun hHeld => ?_)
  generalize wr.drew = w44 at hS0 hHeld ⊢
  refine pure_ (i := 1) (N := some 49) (v := ?_) (a' := ?_) #[false, true, false, false, false, false, false, false, false, false, false, false, false, false, false, false, false, false, false, false, false, false, false, false, false, false] rfl rfl (by kernel_rfl) (fun _ _ _ h => h) (Or.inl ⟨by rfl, ?_⟩) ?_ ?_
  rotate_left
  · intro w'
    go_simp
    with_reducible rfl
  rotate_left
  · simp only [Act.put, List.setIfInBounds_toArray, List.set_cons_zero, List.set_cons_succ, i64_w, i32_w]
    rfl
  refine pure_ (i := 2) (N := some 50) (v := ?_) (a' := ?_) #[false, true, true, false, false, false, false, false, false, false, false, false, false, false, false, false, false, false, false, false, false, false, false, false, false, false] rfl rfl (by kernel_rfl) (fun _ _ _ h => h) (Or.inl ⟨by rfl, ?_⟩) ?_ ?_
  rotate_left
  · intro w'
    go_simp
    with_reducible rfl
  rotate_left
  · simp only [Act.put, List.setIfInBounds_toArray, List.set_cons_zero, List.set_cons_succ, i64_w, i32_w]
    rfl
  refine pure_ (i := 3) (N := some 51) (v := ?_) (a' := ?_) #[false, true, true, true, false, false, false, false, false, false, false, false, false, false, false, false, false, false, false, false, false, false, false, false, false, false] rfl rfl (by kernel_rfl) (fun _ _ _ h => h) (Or.inl ⟨by rfl, ?_⟩) ?_ ?_
  rotate_left
  · intro w'
    go_simp
    with_reducible rfl
  rotate_left
  · simp only [Act.put, List.setIfInBounds_toArray, List.set_cons_zero, List.set_cons_succ, i64_w, i32_w]
    rfl
  refine take_ (i := 0) (N := some 48) (v := ?_) (a' := ?_) #[true, true, true, true, false, false, false, false, false, false, false, false, false, false, false, false, false, false, false, false, false, false, false, false, false, false] rfl rfl (by kernel_rfl) (fun _ _ _ h => h) (Or.inl ⟨by rfl, ?_⟩) hHeld ?_ ?_
  rotate_left
  · rintro w' ⟨q0, q1, q2, q3, q4⟩
    go_simp
    with_reducible rfl
  rotate_left
  · simp only [Act.put, List.setIfInBounds_toArray, List.set_cons_zero, List.set_cons_succ, i64_w, i32_w]
    rfl
  refine one_ (i := 4) (N := some 52) #[true, true, true, true, true, false, false, false, false, false, false, false, false, false, false, false, false, false, false, false, false, false, false, false, false, false] rfl rfl (by kernel_rfl) (by decide) (fun K hK => ?_)
  refine goes_ Tryz.func40 (by kernel_rfl) rfl #[.bool false, .int .u32 x, .slice A l.length c] (by rfl) rfl rfl (by simp only [List.map_toArray, List.map_cons, List.map_nil]; rfl) ?_
  refine Calls.mono (rmake_false x A c l _ (HS.out.below (cthen BW.out hHeld.1)) HO.out HGD.out HC.out (by have := HL.out; omega)) ?_
  rintro e W4 ⟨hb, v, rfl, ho⟩
  refine ⟨_, rfl, ?_⟩
  obtain ⟨A5, c5, rfl, hc5, hr5, -⟩ := own_slice ho
  rw [← HD.out] at hc5 hr5 ⊢
  have R5 := hid hr5
  have C5 := hid hc5
  have hH := ckS_below hb hHeld
  clear hb ho hr5 hc5
  refine hK.out _ _ hH (fun hHeld => ?_)
  clear hK K
  refine norm_ (a' := ?_) ?_ ?_
  rotate_left
  · show Act.put _ (some 52) _ = _
    simp only [Act.put, List.setIfInBounds_toArray, List.set_cons_zero, List.set_cons_succ, i64_w, i32_w]
    rfl
  refine one_ (i := 5) (N := some 53) #[true, true, true, true, true, true, false, false, false, false, false, false, false, false, false, false, false, false, false, false, false, false, false, false, false, false] rfl rfl (by kernel_rfl) (by decide) (fun K hK => ?_)
  refine goes_ Tryz.func24 (by kernel_rfl) rfl #[ckV 192 0 A4 D.length c4 none 0 0, ckV 192 0 A5 D.length c5 none 0 0] (by rfl) rfl rfl (by simp only [List.map_toArray, List.map_cons, List.map_nil]; rfl) ?_
  refine Calls.mono (same12_any 192 0 A4 A5 none none c4 c5 0 0 D _ (R4.out.below hHeld.1) R5.out C4.out C5.out (by have := HDL.out; omega)) ?_
  rintro e W5 ⟨rfl, hb⟩
  refine ⟨_, rfl, ?_⟩
  have hH := ckS_below hb hHeld
  clear hb
  refine hK.out _ _ hH (fun hHeld => ?_)
  clear hK K
  refine norm_ (a' := ?_) ?_ ?_
  rotate_left
  · show Act.put _ (some 53) _ = _
    simp only [Act.put, List.setIfInBounds_toArray, List.set_cons_zero, List.set_cons_succ, i64_w, i32_w]
    rfl
  refine pure_ (i := 6) (N := some 54) (v := ?_) (a' := ?_) #[true, true, true, true, true, true, true, false, false, false, false, false, false, false, false, false, false, false, false, false, false, false, false, false, false, false] rfl rfl (by kernel_rfl) (fun _ _ _ h => h) (Or.inl ⟨by rfl, ?_⟩) ?_ ?_
  rotate_left
  · intro w'
    go_simp
    with_reducible rfl
  rotate_left
  · simp only [Act.put, List.setIfInBounds_toArray, List.set_cons_zero, List.set_cons_succ, i64_w, i32_w]
    rfl
  refine take_ (i := 7) (N := some 55) (v := ?_) (a' := ?_) #[true, true, true, true, true, true, true, true, false, false, false, false, false, false, false, false, false, false, false, false, false, false, false, false, false, false] rfl rfl (by kernel_rfl) (fun _ _ _ h => h) (Or.inl ⟨by rfl, ?_⟩) hHeld ?_ ?_
  rotate_left
  · rintro w' ⟨q0, q1, q2, q3, q4⟩
    go_simp
    with_reducible rfl
  rotate_left
  · simp only [Act.put, List.setIfInBounds_toArray, List.set_cons_zero, List.set_cons_succ, i64_w, i32_w]
    rfl
  refine one_ (i := 8) (N := some 56) #[true, true, true, true, true, true, true, true, true, false, false, false, false, false, false, false, false, false, false, false, false, false, false, false, false, false] rfl rfl (by kernel_rfl) (by decide) (fun K hK => ?_)
  refine goes_ Tryz.func29 (by kernel_rfl) rfl #[ckV 192 0 A4 D.length c4 none 0 0] (by rfl) rfl rfl (by simp only [List.map_toArray, List.map_cons, List.map_nil]; rfl) ?_
  have hck := chk_false x l A4 c4 _ (HG.out.below (cthen BW.out hHeld.1)) (by rw [← HD.out]; exact HDL.out)
  rw [← HD.out] at hck
  refine Calls.mono hck ?_
  rintro e W8 ⟨rfl, hb⟩
  refine ⟨.nilIface, rfl, ?_⟩
  have hH := ckS_below hb hHeld
  clear hb hck
  refine hK.out _ _ hH (fun hHeld => ?_)
  clear hK K
  refine norm_ (a' := ?_) ?_ ?_
  rotate_left
  · show Act.put _ (some 56) _ = _
    simp only [Act.put, List.setIfInBounds_toArray, List.set_cons_zero, List.set_cons_succ, i64_w, i32_w]
    rfl
  refine pure_ (i := 9) (N := some 57) (v := ?_) (a' := ?_) #[true, true, true, true, true, true, true, true, true, true, false, false, false, false, false, false, false, false, false, false, false, false, false, false, false, false] rfl rfl (by kernel_rfl) (fun _ _ _ h => h) (Or.inl ⟨by rfl, ?_⟩) ?_ ?_
  rotate_left
  · intro w'
    go_simp
    with_reducible rfl
  rotate_left
  · simp only [Act.put, List.setIfInBounds_toArray, List.set_cons_zero, List.set_cons_succ, i64_w, i32_w]
    rfl
  refine pure_ (i := 10) (N := some 58) (v := ?_) (a' := ?_) #[true, true, true, true, true, true, true, true, true, true, true, false, false, false, false, false, false, false, false, false, false, false, false, false, false, false] rfl rfl (by kernel_rfl) (fun _ _ _ h => h) (Or.inl ⟨by rfl, ?_⟩) ?_ ?_
  rotate_left
  · intro w'
    go_simp
    with_reducible rfl
  rotate_left
  · simp only [Act.put, List.setIfInBounds_toArray, List.set_cons_zero, List.set_cons_succ, i64_w, i32_w]
    rfl
  refine pure_ (i := 11) (N := some 59) (v := ?_) (a' := ?_) #[true, true, true, true, true, true, true, true, true, true, true, true, false, false, false, false, false, false, false, false, false, false, false, false, false, false] rfl rfl (by kernel_rfl) (fun _ _ _ h => h) (Or.inl ⟨by rfl, ?_⟩) ?_ ?_
  rotate_left
  · intro w'
    go_simp
    with_reducible rfl
  rotate_left
  · simp only [Act.put, List.setIfInBounds_toArray, List.set_cons_zero, List.set_cons_succ, i64_w, i32_w]
    rfl
  refine pure_ (i := 12) (N := some 60) (v := ?_) (a' := ?_) #[true, true, true, true, true, true, true, true, true, true, true, true, true, false, false, false, false, false, false, false, false, false, false, false, false, false] rfl rfl (by kernel_rfl) (fun _ _ _ h => h) (Or.inl ⟨by rfl, ?_⟩) ?_ ?_
  rotate_left
  · intro w'
    go_simp
    with_reducible rfl
  rotate_left
  · simp only [Act.put, List.setIfInBounds_toArray, List.set_cons_zero, List.set_cons_succ, i64_w, i32_w]
    rfl
  refine pure_ (i := 13) (N := some 61) (v := ?_) (a' := ?_) #[true, true, true, true, true, true, true, true, true, true, true, true, true, true, false, false, false, false, false, false, false, false, false, false, false, false] rfl rfl (by kernel_rfl) (fun _ _ _ h => h) (Or.inl ⟨by rfl, ?_⟩) ?_ ?_
  rotate_left
  · intro w'
    go_simp
    with_reducible rfl
  rotate_left
  · simp only [Act.put, List.setIfInBounds_toArray, List.set_cons_zero, List.set_cons_succ, i64_w, i32_w]
    rfl
  refine pure_ (i := 14) (N := some 62) (v := ?_) (a' := ?_) #[true, true, true, true, true, true, true, true, true, true, true, true, true, true, true, false, false, false, false, false, false, false, false, false, false, false] rfl rfl (by kernel_rfl) (fun _ _ _ h => h) (Or.inl ⟨by rfl, ?_⟩) ?_ ?_
  rotate_left
  · intro w'
    go_simp
    with_reducible rfl
  rotate_left
  · simp only [Act.put, List.setIfInBounds_toArray, List.set_cons_zero, List.set_cons_succ, i64_w, i32_w]
    rfl
  refine pure_ (i := 15) (N := some 63) (v := ?_) (a' := ?_) #[true, true, true, true, true, true, true, true, true, true, true, true, true, true, true, true, false, false, false, false, false, false, false, false, false, false] rfl rfl (by kernel_rfl) (fun _ _ _ h => h) (Or.inl ⟨by rfl, ?_⟩) ?_ ?_
  rotate_left
  · intro w'
    go_simp
    with_reducible rfl
  rotate_left
  · simp only [Act.put, List.setIfInBounds_toArray, List.set_cons_zero, List.set_cons_succ, i64_w, i32_w]
    rfl
  refine pure_ (i := 16) (N := some 64) (v := ?_) (a' := ?_) #[true, true, true, true, true, true, true, true, true, true, true, true, true, true, true, true, true, false, false, false, false, false, false, false, false, false] rfl rfl (by kernel_rfl) (fun _ _ _ h => h) (Or.inl ⟨by rfl, ?_⟩) ?_ ?_
  rotate_left
  · intro w'
    go_simp
    with_reducible rfl
  rotate_left
  · simp only [Act.put, List.setIfInBounds_toArray, List.set_cons_zero, List.set_cons_succ, i64_w, i32_w]
    rfl
  refine pure_ (i := 17) (N := some 65) (v := ?_) (a' := ?_) #[true, true, true, true, true, true, true, true, true, true, true, true, true, true, true, true, true, true, false, false, false, false, false, false, false, false] rfl rfl (by kernel_rfl) (fun _ _ _ h => h) (Or.inl ⟨by rfl, ?_⟩) ?_ ?_
  rotate_left
  · intro w'
    go_simp
    with_reducible rfl
  rotate_left
  · simp only [Act.put, List.setIfInBounds_toArray, List.set_cons_zero, List.set_cons_succ, i64_w, i32_w]
    rfl
  refine pure_ (i := 18) (N := some 66) (v := ?_) (a' := ?_) #[true, true, true, true, true, true, true, true, true, true, true, true, true, true, true, true, true, true, true, false, false, false, false, false, false, false] rfl rfl (by kernel_rfl) (fun _ _ _ h => h) (Or.inl ⟨by rfl, ?_⟩) ?_ ?_
  rotate_left
  · intro w'
    go_simp
    with_reducible rfl
  rotate_left
  · simp only [Act.put, List.setIfInBounds_toArray, List.set_cons_zero, List.set_cons_succ, i64_w, i32_w]
    rfl
  refine pure_ (i := 19) (N := some 67) (v := ?_) (a' := ?_) #[true, true, true, true, true, true, true, true, true, true, true, true, true, true, true, true, true, true, true, true, false, false, false, false, false, false] rfl rfl (by kernel_rfl) (fun _ _ _ h => h) (Or.inl ⟨by rfl, ?_⟩) ?_ ?_
  rotate_left
  · intro w'
    go_simp
    with_reducible rfl
  rotate_left
  · simp only [Act.put, List.setIfInBounds_toArray, List.set_cons_zero, List.set_cons_succ, i64_w, i32_w]
    rfl
  refine pure_ (i := 20) (N := some 68) (v := ?_) (a' := ?_) #[true, true, true, true, true, true, true, true, true, true, true, true, true, true, true, true, true, true, true, true, true, false, false, false, false, false] rfl rfl (by kernel_rfl) (fun _ _ _ h => h) (Or.inl ⟨by rfl, ?_⟩) ?_ ?_
  rotate_left
  · intro w'
    go_simp
    with_reducible rfl
  rotate_left
  · simp only [Act.put, List.setIfInBounds_toArray, List.set_cons_zero, List.set_cons_succ, i64_w, i32_w]
    rfl
  refine pure_ (i := 22) (N := some 70) (v := ?_) (a' := ?_) #[true, true, true, true, true, true, true, true, true, true, true, true, true, true, true, true, true, true, true, true, true, false, true, false, false, false] rfl rfl (by kernel_rfl) (fun _ _ _ h => h) (Or.inl ⟨by rfl, ?_⟩) ?_ ?_
  rotate_left
  · intro w'
    go_simp
    with_reducible rfl
  rotate_left
  · simp only [Act.put, List.setIfInBounds_toArray, List.set_cons_zero, List.set_cons_succ, i64_w, i32_w]
    rfl
  refine one_ (i := 21) (N := some 69) #[true, true, true, true, true, true, true, true, true, true, true, true, true, true, true, true, true, true, true, true, true, true, true, false, false, false] rfl rfl (by kernel_rfl) (by decide) (fun K hK => ?_)
  refine goes_ Tryz.func42 (by kernel_rfl) rfl #[.slice A6 l.length c6] (by rfl) rfl rfl (by simp only [List.map_toArray, List.map_cons, List.map_nil]; rfl) ?_
  refine Calls.mono (back_any A6 c6 l _ (R6.out.below hHeld.1) C6.out (by have := HL.out; omega)) ?_
  rintro e W21 ⟨v, rfl, ho, hb⟩
  refine ⟨_, rfl, ?_⟩
  obtain ⟨A7, c7, rfl, hc7, hr7⟩ := ownT_read ho
  have R7 := hid hr7
  have C7 := hid hc7
  have hH := ckS_below hb hHeld
  clear hb ho hr7 hc7
  refine hK.out _ _ hH (fun hHeld => ?_)
  clear hK K
  refine norm_ (a' := ?_) ?_ ?_
  rotate_left
  · show Act.put _ (some 69) _ = _
    simp only [Act.put, List.setIfInBounds_toArray, List.set_cons_zero, List.set_cons_succ, i64_w, i32_w]
    rfl
  refine one_ (i := 23) (N := some 71) #[true, true, true, true, true, true, true, true, true, true, true, true, true, true, true, true, true, true, true, true, true, true, true, true, false, false] rfl rfl (by kernel_rfl) (by decide) (fun K hK => ?_)
  refine goes_ Tryz.func41 (by kernel_rfl) rfl #[.slice A7 l.length c7, .slice A l.length c] (by rfl) rfl rfl (by simp only [List.map_toArray, List.map_cons, List.map_nil]; rfl) ?_
  refine Calls.mono (fsame_any A7 A c7 c l _ R7.out (HS.out.below (cthen BW.out hHeld.1)) C7.out HC.out (by have := HL.out; omega)) ?_
  rintro e W23 ⟨rfl, hb⟩
  refine ⟨_, rfl, ?_⟩
  have hH := ckS_below hb hHeld
  clear hb
  refine hK.out _ _ hH (fun hHeld => ?_)
  clear hK K
  refine norm_ (a' := ?_) ?_ ?_
  rotate_left
  · show Act.put _ (some 71) _ = _
    simp only [Act.put, List.setIfInBounds_toArray, List.set_cons_zero, List.set_cons_succ, i64_w, i32_w]
    rfl
  refine pure_ (i := 24) (N := some 72) (v := ?_) (a' := ?_) #[true, true, true, true, true, true, true, true, true, true, true, true, true, true, true, true, true, true, true, true, true, true, true, true, true, false] rfl rfl (by kernel_rfl) (fun _ _ _ h => h) (Or.inl ⟨by rfl, ?_⟩) ?_ ?_
  rotate_left
  · intro w'
    go_simp
    with_reducible rfl
  rotate_left
  · simp only [Act.put, List.setIfInBounds_toArray, List.set_cons_zero, List.set_cons_succ, i64_w, i32_w]
    rfl
  refine pure_ (i := 25) (N := some 6) (v := ?_) (a' := ?_) #[true, true, true, true, true, true, true, true, true, true, true, true, true, true, true, true, true, true, true, true, true, true, true, true, true, true] rfl rfl (by kernel_rfl) (fun _ _ _ h => h) (Or.inl ⟨by rfl, ?_⟩) ?_ ?_
  rotate_left
  · intro w'
    go_simp
    with_reducible rfl
  rotate_left
  · simp only [Act.put, List.setIfInBounds_toArray, List.set_cons_zero, List.set_cons_succ, i64_w, i32_w]
    rfl
  refine done_ (by kernel_rfl) ?_
  go_wp2_with fail
  go_ret
  exact ⟨rfl, cthen BW.out hHeld.1⟩
set_option maxRecDepth 100000 in
set_option maxHeartbeats 8000000 in
theorem law10_false_bad (x : Int) (A : Option Addr) (c : Nat) (l : List Sk) (w : World) (hx0 : 0 ≤ x) (hx1 : x ≤ 4294967295) (hS : SkC w A l) (hok : ∀ s ∈ l, s.ok) (hc : l.length ≤ c) (hl : l.length ≤ 200) (hgd : l.any (skBad false) = true) (hg : GTab w) :
    Calls Tryz.prog 10 #[.bool false, .int .u32 x, .slice A l.length c] w (IsPost (.bool true) w) := by
  have hA := awake_any w hg
  have h1 : ¬ (l.length : Int) > 200 := by omega
  have HS := hid hS
  have HO := hid hok
  have HC := hid hc
  have HL := hid hl
  have HGD := hid hgd
  have HG := hid hg
  have HX := hid hx0
  have HY := hid hx1
  obtain ⟨D, hD⟩ : ∃ D, D = mkD false x l := ⟨_, rfl⟩
  have HD := hid hD
  have HDL := hid (show D.length ≤ 65531 by rw [hD, mkD_len]; split <;> omega)
  clear hg hS hok hc hgd hx0 hx1 hD
  go_enter Tryz.func10, Tryz.ntmps10
  go_wp2_with fail
  refine hA.mono ?_
  rintro e w1 ⟨rfl, hb⟩
  have B1 := hid hb
  clear hb hA
  go_wp2_with fail
  refine (given_any A c l _ (HS.out.below B1.out) HC.out (by omega)).mono ?_
  rintro e w2 ⟨v, rfl, hO, hb⟩
  obtain ⟨A1, c1, rfl, hc1, hr1⟩ := ownT_read hO
  have B2 := hid (cthen B1.out hb)
  have R1 := hid hr1
  have C1 := hid hc1
  clear hO hb hc1 hr1
  go_wp2_with fail
  refine (make_false x A1 c1 l _ (HG.out.below B2.out) R1.out HO.out C1.out (by omega)).mono ?_
  rintro e w3 ⟨hb, ⟨h1, -⟩ | ⟨-, rfl⟩⟩
  · rw [HGD.out] at h1; exact absurd h1 (by simp)
  have B3 := hid (cthen B2.out hb)
  have hri := rright_any false A c l (w3.alloc chZ) (HS.out.below (below_alloc B3.out _)) HC.out HL.out
  rw [HGD.out] at hri
  have K3 := hid (blk_new w3 chZ)
  have B3a := hid (below_alloc B3.out chZ)
  unfold chZ at hri K3 B3a
  have HRI := hid hri
  clear hb hri
  go_wp2_with fail
  refine HRI.out.mono ?_
  rintro e w4 ⟨rfl, hb⟩
  have B4 := hid (cthen B3a.out hb)
  have K4 := hid (blk_below K3.out hb)
  clear hb HRI K3
  obtain ⟨⟨x0, x1, x2, x3⟩, -⟩ := four K4.out
  have hof := hid (of_other 0 0 none none 0 0 0 0 w4 (by decide) (by decide))
  unfold ckV FofNo at hof
  go_wp2_with fail
  refine hof.out.mono ?_
  rintro e w5 ⟨rfl, hb⟩
  have B5 := hid (cthen B4.out hb)
  have K5 := hid (blk_below K4.out hb)
  clear hb hof x0 x1 x2 x3 K4
  obtain ⟨⟨x0, x1, x2, x3⟩, -⟩ := four K5.out
  have hsm := hid (same12_any 0 0 none none none none 0 0 0 0 [] w5 (ints_nil none) (ints_nil none) (by simp) (by simp) (by simp))
  unfold ckV at hsm
  go_wp2_with fail
  refine hsm.out.mono ?_
  rintro e w6 ⟨rfl, hb⟩
  have B6 := hid (cthen B5.out hb)
  clear hb
  go_wp2_with fail
  go_ret
  exact ⟨rfl, B6.out⟩
set_option maxRecDepth 100000 in
set_option maxHeartbeats 8000000 in
theorem law10_true_good (x : Int) (A : Option Addr) (c : Nat) (l : List Sk) (w : World) (hx0 : 0 ≤ x) (hx1 : x ≤ 4294967295) (hS : SkC w A l) (hok : ∀ s ∈ l, s.ok) (hc : l.length ≤ c) (hl : l.length ≤ 200) (hgd : l.any (skBad true) = false) (hg : GTab w) :
    Calls Tryz.prog 10 #[.bool true, .int .u32 x, .slice A l.length c] w (IsPost (.bool true) w) := by
  have hA := awake_any w hg
  have h1 : ¬ (l.length : Int) > 200 := by omega
  have HS := hid hS
  have HO := hid hok
  have HC := hid hc
  have HL := hid hl
  have HGD := hid hgd
  have HG := hid hg
  have HX := hid hx0
  have HY := hid hx1
  obtain ⟨D, hD⟩ : ∃ D, D = mkD true x l := ⟨_, rfl⟩
  have HD := hid hD
  have HDL := hid (show D.length ≤ 65531 by rw [hD, mkD_len]; split <;> omega)
  clear hg hS hok hc hgd hx0 hx1 hD
  go_enter Tryz.func10, Tryz.ntmps10
  go_wp2_with fail
  refine hA.mono ?_
  rintro e w1 ⟨rfl, hb⟩
  have B1 := hid hb
  clear hb hA
  go_wp2_with fail
  refine (given_any A c l _ (HS.out.below B1.out) HC.out (by omega)).mono ?_
  rintro e w2 ⟨v, rfl, hO, hb⟩
  obtain ⟨A1, c1, rfl, hc1, hr1⟩ := ownT_read hO
  have B2 := hid (cthen B1.out hb)
  have R1 := hid hr1
  have C1 := hid hc1
  clear hO hb hc1 hr1
  go_wp2_with fail
  refine (make_true x A1 c1 l _ (HG.out.below B2.out) R1.out HO.out C1.out (by omega)).mono ?_
  rintro e w3 ⟨hb, ⟨-, -, v, rfl, ho⟩ | ⟨hn, -⟩⟩
  rotate_left
  · exact absurd ⟨HGD.out, by rw [← HD.out]; exact HDL.out⟩ hn
  obtain ⟨A4, c4, rfl, hc4, hr4, -⟩ := own_slice ho
  rw [← HD.out] at hc4 hr4 ⊢
  have B3 := hid (cthen B2.out hb)
  have R4 := hid hr4
  have C4 := hid hc4
  clear hb ho hc4 hr4
  simp only [mkT, Bool.false_eq_true, if_true, if_false]
  obtain ⟨o4, ho4⟩ : ∃ o4 : Obj, o4 = .cells #[.int .u8 194, .int .u8 0, .slice A4 D.length c4, .slice none 0 0] 35 (0, 0) := ⟨_, rfl⟩
  have K3 := hid (blk_new w3 o4)
  have B3a := hid (below_alloc B3.out o4)
  have R4 := hid (R4.out.below (below_alloc (Below.refl _ _) o4))
  have hri := rright_any true A c l (w3.alloc o4) (HS.out.below B3a.out) HC.out HL.out
  rw [HGD.out] at hri
  subst ho4
  have HRI := hid hri
  clear hri
  obtain ⟨b7, hb7⟩ : ∃ b7, b7 = w3.heap.size := ⟨_, rfl⟩
  rw [← hb7] at K3
  have HB7 := hid hb7
  go_wp2_with fail
  refine HRI.out.mono ?_
  rintro e w4 ⟨rfl, hb⟩
  have B4 := hid (cthen B3a.out hb)
  have K4 := hid (blk_below K3.out hb)
  have R4 := hid (R4.out.below hb)
  rw [← hb7]
  clear hb HRI K3 hb7
  obtain ⟨⟨x0, x1, x2, x3⟩, -⟩ := four K4.out
  have hof := hid (of_194 0 A4 none c4 0 0 l.length (mkD true x l) w4 (by rw [← HD.out]; exact R4.out) (byt_mkD _ _ _) (by rw [← HD.out]; exact C4.out) (by rw [← HD.out]; exact HDL.out) (by rw [mkD_len, if_pos rfl]) (fun W hW => chk_true x l A4 c4 W (HG.out.below (cthen B4.out hW)) (by rw [← HD.out]; exact R4.out.below hW) (by rw [← HD.out]; exact C4.out) (by rw [← HD.out]; exact HDL.out)))
  rw [← HD.out] at hof
  go_wp2_with fail
  refine hof.out.mono ?_
  rintro e wr ⟨v, rfl, ho, hb⟩
  have BW := hid (cthen B4.out hb)
  have K5 := hid (blk_below K4.out hb)
  have R4 := hid (R4.out.below hb)
  rw [show peekV 4 D 0 = x by rw [HD.out]; exact mkD_head true x l HX.out HY.out]
  rw [show ofL true D (ofN true D) = l by rw [HD.out, ofN_mk, ofL_mk true x l HO.out HGD.out]] at ho
  obtain ⟨A6, c6, rfl, hc6, hr6⟩ := ownS_read ho
  have R6 := hid hr6
  have C6 := hid hc6
  clear ho hb hr6 hc6 hof x0 x1 x2 x3 K4
  go_upto_region 9 with fail
  have hS0 : CkS wr b7 194 A4 D.length c4 wr.drew := ⟨below_drew (Below.refl _ _) 1, (four K5.out).1.1, (four K5.out).1.2.1, (four K5.out).1.2.2.1, (four K5.out).1.2.2.2⟩
  refine start_ (n := 26) (S := fun w' => Below wr.heap.size wr w' ∧ w'.cell? ⟨b7, 0, none⟩ = some (.int .u8 194) ∧ w'.cell? ⟨b7, 1, none⟩ = some (.int .u8 0) ∧ w'.cell? ⟨b7, 2, none⟩ = some (.slice A4 D.length c4) ∧ w'.cell? ⟨b7, 3, none⟩ = some (.slice none 0 0)) (ds := []) #[false, false, false, false, false, false, false, false, false, false, false, false, false, false, false, false, false, false, false, false, false, false, false, false, false, false] (by kernel_rfl) rfl rfl hS0 (fun hHeld => ?_)
  generalize wr.drew = w44 at hS0 hHeld ⊢
  refine pure_ (i := 1) (N := some 49) (v := ?_) (a' := ?_) #[false, true, false, false, false, false, false, false, false, false, false, false, false, false, false, false, false, false, false, false, false, false, false, false, false, false] rfl rfl (by kernel_rfl) (fun _ _ _ h => h) (Or.inl ⟨by rfl, ?_⟩) ?_ ?_
  rotate_left
  · intro w'
    go_simp
    with_reducible rfl
  rotate_left
  · simp only [Act.put, List.setIfInBounds_toArray, List.set_cons_zero, List.set_cons_succ, i64_w, i32_w]
    rfl
  refine pure_ (i := 2) (N := some 50) (v := ?_) (a' := ?_) #[false, true, true, false, false, false, false, false, false, false, false, false, false, false, false, false, false, false, false, false, false, false, false, false, false, false] rfl rfl (by kernel_rfl) (fun _ _ _ h => h) (Or.inl ⟨by rfl, ?_⟩) ?_ ?_
  rotate_left
  · intro w'
    go_simp
    with_reducible rfl
  rotate_left
  · simp only [Act.put, List.setIfInBounds_toArray, List.set_cons_zero, List.set_cons_succ, i64_w, i32_w]
    rfl
  refine pure_ (i := 3) (N := some 51) (v := ?_) (a' := ?_) #[false, true, true, true, false, false, false, false, false, false, false, false, false, false, false, false, false, false, false, false, false, false, false, false, false, false] rfl rfl (by kernel_rfl) (fun _ _ _ h => h) (Or.inl ⟨by rfl, ?_⟩) ?_ ?_
  rotate_left
  · intro w'
    go_simp
    with_reducible rfl
  rotate_left
  · simp only [Act.put, List.setIfInBounds_toArray, List.set_cons_zero, List.set_cons_succ, i64_w, i32_w]
    rfl
  refine take_ (i := 0) (N := some 48) (v := ?_) (a' := ?_) #[true, true, true, true, false, false, false, false, false, false, false, false, false, false, false, false, false, false, false, false, false, false, false, false, false, false] rfl rfl (by kernel_rfl) (fun _ _ _ h => h) (Or.inl ⟨by rfl, ?_⟩) hHeld ?_ ?_
  rotate_left
  · rintro w' ⟨q0, q1, q2, q3, q4⟩
    go_simp
    with_reducible rfl
  rotate_left
  · simp only [Act.put, List.setIfInBounds_toArray, List.set_cons_zero, List.set_cons_succ, i64_w, i32_w]
    rfl
  refine one_ (i := 4) (N := some 52) #[true, true, true, true, true, false, false, false, false, false, false, false, false, false, false, false, false, false, false, false, false, false, false, false, false, false] rfl rfl (by kernel_rfl) (by decide) (fun K hK => ?_)
  refine goes_ Tryz.func40 (by kernel_rfl) rfl #[.bool true, .int .u32 x, .slice A l.length c] (by rfl) rfl rfl (by simp only [List.map_toArray, List.map_cons, List.map_nil]; rfl) ?_
  refine Calls.mono (rmake_true x A c l _ (HS.out.below (cthen BW.out hHeld.1)) HO.out HC.out (by have := HL.out; omega)) ?_
  rintro e W4 ⟨hb, v, rfl, ho⟩
  refine ⟨_, rfl, ?_⟩
  obtain ⟨A5, c5, rfl, hc5, hr5, -⟩ := own_slice ho
  rw [← HD.out] at hc5 hr5 ⊢
  have R5 := hid hr5
  have C5 := hid hc5
  have hH := ckS_below hb hHeld
  clear hb ho hr5 hc5
  refine hK.out _ _ hH (fun hHeld => ?_)
  clear hK K
  refine norm_ (a' := ?_) ?_ ?_
  rotate_left
  · show Act.put _ (some 52) _ = _
    simp only [Act.put, List.setIfInBounds_toArray, List.set_cons_zero, List.set_cons_succ, i64_w, i32_w]
    rfl
  refine one_ (i := 5) (N := some 53) #[true, true, true, true, true, true, false, false, false, false, false, false, false, false, false, false, false, false, false, false, false, false, false, false, false, false] rfl rfl (by kernel_rfl) (by decide) (fun K hK => ?_)
  refine goes_ Tryz.func24 (by kernel_rfl) rfl #[ckV 194 0 A4 D.length c4 none 0 0, ckV 194 0 A5 D.length c5 none 0 0] (by rfl) rfl rfl (by simp only [List.map_toArray, List.map_cons, List.map_nil]; rfl) ?_
  refine Calls.mono (same12_any 194 0 A4 A5 none none c4 c5 0 0 D _ (R4.out.below hHeld.1) R5.out C4.out C5.out (by have := HDL.out; omega)) ?_
  rintro e W5 ⟨rfl, hb⟩
  refine ⟨_, rfl, ?_⟩
  have hH := ckS_below hb hHeld
  clear hb
  refine hK.out _ _ hH (fun hHeld => ?_)
  clear hK K
  refine norm_ (a' := ?_) ?_ ?_
  rotate_left
  · show Act.put _ (some 53) _ = _
    simp only [Act.put, List.setIfInBounds_toArray, List.set_cons_zero, List.set_cons_succ, i64_w, i32_w]
    rfl
  refine pure_ (i := 6) (N := some 54) (v := ?_) (a' := ?_) #[true, true, true, true, true, true, true, false, false, false, false, false, false, false, false, false, false, false, false, false, false, false, false, false, false, false] rfl rfl (by kernel_rfl) (fun _ _ _ h => h) (Or.inl ⟨by rfl, ?_⟩) ?_ ?_
  rotate_left
  · intro w'
    go_simp
    with_reducible rfl
  rotate_left
  · simp only [Act.put, List.setIfInBounds_toArray, List.set_cons_zero, List.set_cons_succ, i64_w, i32_w]
    rfl
  refine take_ (i := 7) (N := some 55) (v := ?_) (a' := ?_) #[true, true, true, true, true, true, true, true, false, false, false, false, false, false, false, false, false, false, false, false, false, false, false, false, false, false] rfl rfl (by kernel_rfl) (fun _ _ _ h => h) (Or.inl ⟨by rfl, ?_⟩) hHeld ?_ ?_
  rotate_left
  · rintro w' ⟨q0, q1, q2, q3, q4⟩
    go_simp
    with_reducible rfl
  rotate_left
  · simp only [Act.put, List.setIfInBounds_toArray, List.set_cons_zero, List.set_cons_succ, i64_w, i32_w]
    rfl
  refine one_ (i := 8) (N := some 56) #[true, true, true, true, true, true, true, true, true, false, false, false, false, false, false, false, false, false, false, false, false, false, false, false, false, false] rfl rfl (by kernel_rfl) (by decide) (fun K hK => ?_)
  refine goes_ Tryz.func29 (by kernel_rfl) rfl #[ckV 194 0 A4 D.length c4 none 0 0] (by rfl) rfl rfl (by simp only [List.map_toArray, List.map_cons, List.map_nil]; rfl) ?_
  have hck := chk_true x l A4 c4 _ (HG.out.below (cthen BW.out hHeld.1)) (by rw [← HD.out]; exact R4.out.below hHeld.1) (by rw [← HD.out]; exact C4.out) (by rw [← HD.out]; exact HDL.out)
  rw [← HD.out] at hck
  refine Calls.mono hck ?_
  rintro e W8 ⟨rfl, hb⟩
  refine ⟨.nilIface, rfl, ?_⟩
  have hH := ckS_below hb hHeld
  clear hb hck
  refine hK.out _ _ hH (fun hHeld => ?_)
  clear hK K
  refine norm_ (a' := ?_) ?_ ?_
  rotate_left
  · show Act.put _ (some 56) _ = _
    simp only [Act.put, List.setIfInBounds_toArray, List.set_cons_zero, List.set_cons_succ, i64_w, i32_w]
    rfl
  refine pure_ (i := 9) (N := some 57) (v := ?_) (a' := ?_) #[true, true, true, true, true, true, true, true, true, true, false, false, false, false, false, false, false, false, false, false, false, false, false, false, false, false] rfl rfl (by kernel_rfl) (fun _ _ _ h => h) (Or.inl ⟨by rfl, ?_⟩) ?_ ?_
  rotate_left
  · intro w'
    go_simp
    with_reducible rfl
  rotate_left
  · simp only [Act.put, List.setIfInBounds_toArray, List.set_cons_zero, List.set_cons_succ, i64_w, i32_w]
    rfl
  refine pure_ (i := 10) (N := some 58) (v := ?_) (a' := ?_) #[true, true, true, true, true, true, true, true, true, true, true, false, false, false, false, false, false, false, false, false, false, false, false, false, false, false] rfl rfl (by kernel_rfl) (fun _ _ _ h => h) (Or.inl ⟨by rfl, ?_⟩) ?_ ?_
  rotate_left
  · intro w'
    go_simp
    with_reducible rfl
  rotate_left
  · simp only [Act.put, List.setIfInBounds_toArray, List.set_cons_zero, List.set_cons_succ, i64_w, i32_w]
    rfl
  refine pure_ (i := 11) (N := some 59) (v := ?_) (a' := ?_) #[true, true, true, true, true, true, true, true, true, true, true, true, false, false, false, false, false, false, false, false, false, false, false, false, false, false] rfl rfl (by kernel_rfl) (fun _ _ _ h => h) (Or.inl ⟨by rfl, ?_⟩) ?_ ?_
  rotate_left
  · intro w'
    go_simp
    with_reducible rfl
  rotate_left
  · simp only [Act.put, List.setIfInBounds_toArray, List.set_cons_zero, List.set_cons_succ, i64_w, i32_w]
    rfl
  refine pure_ (i := 12) (N := some 60) (v := ?_) (a' := ?_) #[true, true, true, true, true, true, true, true, true, true, true, true, true, false, false, false, false, false, false, false, false, false, false, false, false, false] rfl rfl (by kernel_rfl) (fun _ _ _ h => h) (Or.inl ⟨by rfl, ?_⟩) ?_ ?_
  rotate_left
  · intro w'
    go_simp
    with_reducible rfl
  rotate_left
  · simp only [Act.put, List.setIfInBounds_toArray, List.set_cons_zero, List.set_cons_succ, i64_w, i32_w]
    rfl
  refine pure_ (i := 13) (N := some 61) (v := ?_) (a' := ?_) #[true, true, true, true, true, true, true, true, true, true, true, true, true, true, false, false, false, false, false, false, false, false, false, false, false, false] rfl rfl (by kernel_rfl) (fun _ _ _ h => h) (Or.inl ⟨by rfl, ?_⟩) ?_ ?_
  rotate_left
  · intro w'
    go_simp
    with_reducible rfl
  rotate_left
  · simp only [Act.put, List.setIfInBounds_toArray, List.set_cons_zero, List.set_cons_succ, i64_w, i32_w]
    rfl
  refine pure_ (i := 14) (N := some 62) (v := ?_) (a' := ?_) #[true, true, true, true, true, true, true, true, true, true, true, true, true, true, true, false, false, false, false, false, false, false, false, false, false, false] rfl rfl (by kernel_rfl) (fun _ _ _ h => h) (Or.inl ⟨by rfl, ?_⟩) ?_ ?_
  rotate_left
  · intro w'
    go_simp
    with_reducible rfl
  rotate_left
  · simp only [Act.put, List.setIfInBounds_toArray, List.set_cons_zero, List.set_cons_succ, i64_w, i32_w]
    rfl
  refine pure_ (i := 15) (N := some 63) (v := ?_) (a' := ?_) #[true, true, true, true, true, true, true, true, true, true, true, true, true, true, true, true, false, false, false, false, false, false, false, false, false, false] rfl rfl (by kernel_rfl) (fun _ _ _ h => h) (Or.inl ⟨by rfl, ?_⟩) ?_ ?_
  rotate_left
  · intro w'
    go_simp
    with_reducible rfl
  rotate_left
  · simp only [Act.put, List.setIfInBounds_toArray, List.set_cons_zero, List.set_cons_succ, i64_w, i32_w]
    rfl
  refine pure_ (i := 16) (N := some 64) (v := ?_) (a' := ?_) #[true, true, true, true, true, true, true, true, true, true, true, true, true, true, true, true, true, false, false, false, false, false, false, false, false, false] rfl rfl (by kernel_rfl) (fun _ _ _ h => h) (Or.inl ⟨by rfl, ?_⟩) ?_ ?_
  rotate_left
  · intro w'
    go_simp
    with_reducible rfl
  rotate_left
  · simp only [Act.put, List.setIfInBounds_toArray, List.set_cons_zero, List.set_cons_succ, i64_w, i32_w]
    rfl
  refine pure_ (i := 17) (N := some 65) (v := ?_) (a' := ?_) #[true, true, true, true, true, true, true, true, true, true, true, true, true, true, true, true, true, true, false, false, false, false, false, false, false, false] rfl rfl (by kernel_rfl) (fun _ _ _ h => h) (Or.inl ⟨by rfl, ?_⟩) ?_ ?_
  rotate_left
  · intro w'
    go_simp
    with_reducible rfl
  rotate_left
  · simp only [Act.put, List.setIfInBounds_toArray, List.set_cons_zero, List.set_cons_succ, i64_w, i32_w]
    rfl
  refine pure_ (i := 18) (N := some 66) (v := ?_) (a' := ?_) #[true, true, true, true, true, true, true, true, true, true, true, true, true, true, true, true, true, true, true, false, false, false, false, false, false, false] rfl rfl (by kernel_rfl) (fun _ _ _ h => h) (Or.inl ⟨by rfl, ?_⟩) ?_ ?_
  rotate_left
  · intro w'
    go_simp
    with_reducible rfl
  rotate_left
  · simp only [Act.put, List.setIfInBounds_toArray, List.set_cons_zero, List.set_cons_succ, i64_w, i32_w]
    rfl
  refine pure_ (i := 19) (N := some 67) (v := ?_) (a' := ?_) #[true, true, true, true, true, true, true, true, true, true, true, true, true, true, true, true, true, true, true, true, false, false, false, false, false, false] rfl rfl (by kernel_rfl) (fun _ _ _ h => h) (Or.inl ⟨by rfl, ?_⟩) ?_ ?_
  rotate_left
  · intro w'
    go_simp
    with_reducible rfl
  rotate_left
  · simp only [Act.put, List.setIfInBounds_toArray, List.set_cons_zero, List.set_cons_succ, i64_w, i32_w]
    rfl
  refine pure_ (i := 20) (N := some 68) (v := ?_) (a' := ?_) #[true, true, true, true, true, true, true, true, true, true, true, true, true, true, true, true, true, true, true, true, true, false, false, false, false, false] rfl rfl (by kernel_rfl) (fun _ _ _ h => h) (Or.inl ⟨by rfl, ?_⟩) ?_ ?_
  rotate_left
  · intro w'
    go_simp
    with_reducible rfl
  rotate_left
  · simp only [Act.put, List.setIfInBounds_toArray, List.set_cons_zero, List.set_cons_succ, i64_w, i32_w]
    rfl
  refine pure_ (i := 22) (N := some 70) (v := ?_) (a' := ?_) #[true, true, true, true, true, true, true, true, true, true, true, true, true, true, true, true, true, true, true, true, true, false, true, false, false, false] rfl rfl (by kernel_rfl) (fun _ _ _ h => h) (Or.inl ⟨by rfl, ?_⟩) ?_ ?_
  rotate_left
  · intro w'
    go_simp
    with_reducible rfl
  rotate_left
  · simp only [Act.put, List.setIfInBounds_toArray, List.set_cons_zero, List.set_cons_succ, i64_w, i32_w]
    rfl
  refine one_ (i := 21) (N := some 69) #[true, true, true, true, true, true, true, true, true, true, true, true, true, true, true, true, true, true, true, true, true, true, true, false, false, false] rfl rfl (by kernel_rfl) (by decide) (fun K hK => ?_)
  refine goes_ Tryz.func42 (by kernel_rfl) rfl #[.slice A6 l.length c6] (by rfl) rfl rfl (by simp only [List.map_toArray, List.map_cons, List.map_nil]; rfl) ?_
  refine Calls.mono (back_any A6 c6 l _ (R6.out.below hHeld.1) C6.out (by have := HL.out; omega)) ?_
  rintro e W21 ⟨v, rfl, ho, hb⟩
  refine ⟨_, rfl, ?_⟩
  obtain ⟨A7, c7, rfl, hc7, hr7⟩ := ownT_read ho
  have R7 := hid hr7
  have C7 := hid hc7
  have hH := ckS_below hb hHeld
  clear hb ho hr7 hc7
  refine hK.out _ _ hH (fun hHeld => ?_)
  clear hK K
  refine norm_ (a' := ?_) ?_ ?_
  rotate_left
  · show Act.put _ (some 69) _ = _
    simp only [Act.put, List.setIfInBounds_toArray, List.set_cons_zero, List.set_cons_succ, i64_w, i32_w]
    rfl
  refine one_ (i := 23) (N := some 71) #[true, true, true, true, true, true, true, true, true, true, true, true, true, true, true, true, true, true, true, true, true, true, true, true, false, false] rfl rfl (by kernel_rfl) (by decide) (fun K hK => ?_)
  refine goes_ Tryz.func41 (by kernel_rfl) rfl #[.slice A7 l.length c7, .slice A l.length c] (by rfl) rfl rfl (by simp only [List.map_toArray, List.map_cons, List.map_nil]; rfl) ?_
  refine Calls.mono (fsame_any A7 A c7 c l _ R7.out (HS.out.below (cthen BW.out hHeld.1)) C7.out HC.out (by have := HL.out; omega)) ?_
  rintro e W23 ⟨rfl, hb⟩
  refine ⟨_, rfl, ?_⟩
  have hH := ckS_below hb hHeld
  clear hb
  refine hK.out _ _ hH (fun hHeld => ?_)
  clear hK K
  refine norm_ (a' := ?_) ?_ ?_
  rotate_left
  · show Act.put _ (some 71) _ = _
    simp only [Act.put, List.setIfInBounds_toArray, List.set_cons_zero, List.set_cons_succ, i64_w, i32_w]
    rfl
  refine pure_ (i := 24) (N := some 72) (v := ?_) (a' := ?_) #[true, true, true, true, true, true, true, true, true, true, true, true, true, true, true, true, true, true, true, true, true, true, true, true, true, false] rfl rfl (by kernel_rfl) (fun _ _ _ h => h) (Or.inl ⟨by rfl, ?_⟩) ?_ ?_
  rotate_left
  · intro w'
    go_simp
    with_reducible rfl
  rotate_left
  · simp only [Act.put, List.setIfInBounds_toArray, List.set_cons_zero, List.set_cons_succ, i64_w, i32_w]
    rfl
  refine pure_ (i := 25) (N := some 6) (v := ?_) (a' := ?_) #[true, true, true, true, true, true, true, true, true, true, true, true, true, true, true, true, true, true, true, true, true, true, true, true, true, true] rfl rfl (by kernel_rfl) (fun _ _ _ h => h) (Or.inl ⟨by rfl, ?_⟩) ?_ ?_
  rotate_left
  · intro w'
    go_simp
    with_reducible rfl
  rotate_left
  · simp only [Act.put, List.setIfInBounds_toArray, List.set_cons_zero, List.set_cons_succ, i64_w, i32_w]
    rfl
  refine done_ (by kernel_rfl) ?_
  go_wp2_with fail
  go_ret
  exact ⟨rfl, cthen BW.out hHeld.1⟩
theorem law10_any (inter : Bool) (x : Int) (A : Option Addr) (c : Nat) (l : List Sk) (w : World) (hx0 : 0 ≤ x) (hx1 : x ≤ 4294967295) (hS : SkC w A l) (hok : ∀ s ∈ l, s.ok) (hc : l.length ≤ c) (hg : GTab w) :
    Calls Tryz.prog 10 #[.bool inter, .int .u32 x, .slice A l.length c] w (IsPost (.bool true) w) := by
  rcases Nat.lt_or_ge 200 l.length with h | h
  · exact law10_many inter x A l.length c w h hg
  · cases inter
    · cases hb : l.any (skBad false)
      · exact law10_false_good x A c l w hx0 hx1 hS hok hc h hb hg
      · exact law10_false_bad x A c l w hx0 hx1 hS hok hc h hb hg
    · exact law10_true_good x A c l w hx0 hx1 hS hok hc h (by simp [skBad]) hg
end Go.Proofs.YtcjcgehhmjnlcaaGreatDoor
