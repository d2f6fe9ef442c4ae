/- 'wharfref16.Make': the chunk of the reference implementation. -/
import Derived.Test.YtcjcgehhmjnlcaaGreatDoorGvn
import Derived.Test.YtcjcgehhmjnlcaaGreatDoorQfm
import Derived.Deep.AppendLies
set_option linter.unusedVariables false
set_option linter.unusedSimpArgs false
namespace Go.Proofs.YtcjcgehhmjnlcaaGreatDoor
open Go.RowKit Go.Shelf Go.Proofs.YtcjcgehhmjnlcaaGreatDoor.It Go.Proofs.YtcjcgehhmjnlcaaGreatDoorW.PrintWords Go.Proofs.YtcjcgehhmjnlcaaGreatDoorW.PrintLast Go.Proofs.YtcjcgehhmjnlcaaGreatDoorW.PrintMore PForwardMatchesReference
theorem rput_4 (x : Int) : wharfref01_Put.f 20 4 [x] = some (b4 x) := by simp [wharfref01_Put.f, wharfref01_Right.f, wharfref01_Put.l0, wrap64, rd, b4]
theorem rput_44 (x y : Int) : wharfref01_Put.f 20 4 [x, y] = some (b4 x ++ b4 y) := by simp [wharfref01_Put.f, wharfref01_Right.f, wharfref01_Put.l0, wrap64, rd, b4]
theorem rput4_any (b : Nat) (x : Int) (w : World) (h : w.heap[b]? = some (.cells #[.int .u32 x] 23 (0, 0))) :
    Calls Tryz.prog 56 #[.int .i64 4, .slice (some ⟨b, 0, none⟩) 1 1] w (BytesPost (b4 x) w) :=
  (wharfref01_Put.calls 20 4 (some ⟨b, 0, none⟩) 1 [x] (b4 x) w (row_put w b [x] (by simp) h) (by simp) (rput_4 x)).mono (by
    rintro e w' ⟨v, rfl, hR, hb⟩
    exact ⟨v, rfl, own_of_R hR, hb⟩)
theorem rput44_any (b : Nat) (x y : Int) (w : World) (h : w.heap[b]? = some (.cells #[.int .u32 x, .int .u32 y] 23 (0, 0))) :
    Calls Tryz.prog 56 #[.int .i64 4, .slice (some ⟨b, 0, none⟩) 2 2] w (BytesPost (b4 x ++ b4 y) w) :=
  (wharfref01_Put.calls 20 4 (some ⟨b, 0, none⟩) 2 [x, y] (b4 x ++ b4 y) w (row_put w b [x, y] (by simp) h) (by simp) (rput_44 x y)).mono (by
    rintro e w' ⟨v, rfl, hR, hb⟩
    exact ⟨v, rfl, own_of_R hR, hb⟩)
/-- What 'wharfref16.Make' gives for skips that have a chunk. -/
def RmPost (inter : Bool) (x : Int) (l : List Sk) (w : World) (e : Ending) (w' : World) : Prop :=
  Below w.heap.size w w' ∧ ∃ v, e = .returned (.agg #[.int .u8 (mkT inter), .int .u8 0, v, .slice none 0 0]) ∧ OwnB w' w.heap.size v (mkD inter x l)
abbrev RS (w2 : World) (p b o : Nat) (A : Option Addr) (c n : Nat) (s : Sk) (W : World) : Prop := Below w2.heap.size w2 W ∧ W.cell? ⟨p, 2, none⟩ = some (.slice A n c) ∧ W.cell? ⟨b, o, none⟩ = some (.int .u16 s.st) ∧ W.cell? ⟨b, o + 2, none⟩ = some (.int .u32 s.sq)
section
variable {w2 W W' : World} {p b o c n : Nat} {A : Option Addr} {s : Sk}
theorem RS.blw (hb : Blw W W') (h : RS w2 p b o A c n s W) : RS w2 p b o A c n s W' :=
  ⟨cthen h.1 hb, (hb.cell (World.block_lt_of_cell? W _ h.2.1)).trans h.2.1, (hb.cell (World.block_lt_of_cell? W _ h.2.2.1)).trans h.2.2.1, (hb.cell (World.block_lt_of_cell? W _ h.2.2.2)).trans h.2.2.2⟩
theorem RS.alloc {o' : Obj} (h : RS w2 p b o A c n s W) : RS w2 p b o A c n s (W.alloc o') := h.blw (below_alloc (Below.refl _ _) o')
end
theorem rput4_lit (b : Nat) (x : Int) (w : World) (h : w.heap[b]? = some (.cells #[.int .u32 x] 23 (0, 0))) :
    Calls Tryz.prog 56 #[.int .i64 4, .slice (some ⟨b, 0, none⟩) 1 1] w (Put4 (b4 x) w) := (rput4_any b x w h).mono (by
    rintro e w' ⟨v, rfl, ho, hb⟩
    obtain ⟨A, c, rfl, -, hr, -⟩ := own_slice ho
    exact ⟨A, c, rfl, hr, hb⟩)
theorem b4_pair {a q : Int} (h0 : 0 ≤ a) (h1 : a ≤ 65535) (h2 : 0 ≤ q) (h3 : q ≤ 65535) : b4 (IntKind.u32.wrap (IntKind.u32.wrap (IntKind.u32.wrap a * 65536) + q)) = b2 a ++ b2 q := by
  have e : ∀ y : Int, IntKind.u32.wrap y = y % 4294967296 := fun y => rfl
  rw [e, e, e]
  unfold b4 b2
  simp only [List.cons_append, List.nil_append, List.cons.injEq, and_true]
  omega
theorem rm_bel {w W : World} {o : Obj} (hb : Blw (w.drew.alloc o) W) : Below w.heap.size w W := cthen (below_alloc (below_drew (Below.refl _ _) 1) o) hb
theorem rm_size {w wr W : World} (h1 : Below w.heap.size w wr) (h2 : Below wr.heap.size wr W) : w.heap.size ≤ W.heap.size := Nat.le_trans h1.size h2.size
theorem grow_step {w W W' : World} {b8 : Nat} {ty : Int} {D y : List Int} {A : Option Addr} {c gg cap n m : Nat} (h : MkI w b8 ty D W) (hc : W.heap[b8]? = some (.cells #[.int .u8 ty, .int .u8 0, .slice A n c, .slice none 0 0] 35 (0, 0))) (ho : OwnB W w.heap.size (.slice A n c) D) (hg : W.grownBy W' (Value.slice A n c).ownBlock)
    (ho' : W'.ownsRow w.heap.size 5 1 (.slice (some ⟨gg, 0, none⟩) m cap) m (D.map (Value.int .u8) ++ y.map (Value.int .u8))) (hm : m = D.length + y.length) :
    MkI w b8 ty (D ++ y) (W'.setCell ⟨b8, 2, none⟩ (.slice (some ⟨gg, 0, none⟩) m cap)) ∧ (W'.cell? ⟨b8, 2, none⟩ = some (.slice A n c) ∧ W'.frozen? ⟨b8, 2, none⟩ = false) := by
  have hO' : OwnB W' w.heap.size (.slice (some ⟨gg, 0, none⟩) m cap) (D ++ y) := by
    unfold OwnB
    rw [List.length_append, List.map_append, ← hm]
    exact ho'
  refine ⟨h.grow hc ho hg hO', ?_⟩
  have := four (h.after hc ho hg)
  exact ⟨this.1.2.2.1, this.2.2.2.1⟩
set_option maxRecDepth 100000 in
set_option maxHeartbeats 8000000 in
theorem rmake_false (x : Int) (A : Option Addr) (c : Nat) (l : List Sk) (w : World) (hS : SkC w A l) (hok : ∀ s ∈ l, s.ok) (hgd : l.any (skBad false) = false) (hc : l.length ≤ c) (hl : l.length ≤ 1000000) :
    Calls Tryz.prog 40 #[.bool false, .int .u32 x, .slice A l.length c] w (RmPost false x l w) := by
  have HS := hid hS
  have HO := hid hok
  have HL := hid hl
  have HGD := hid hgd
  clear hS hok hc hl hgd
  go_enter Tryz.func40, Tryz.ntmps40
  go_wp2_with fail
  have hP := rput4_any (w.heap.size + 1) x ((w.alloc chZ).alloc (.cells #[.int .u32 x] 23)) (by
    have := blk_new (w.alloc chZ) (.cells #[.int .u32 x] 23)
    rwa [World.size_alloc] at this)
  unfold chZ at hP
  refine hP.mono ?_
  rintro e w1 ⟨v, rfl, hO, hb⟩
  have HZ := hid (blk_below (blk_alloc (blk_new w chZ)) hb)
  obtain ⟨A1, c1, rfl⟩ := own_form hO
  have HO1 := hid (OwnB.lower (b0 := w.heap.size) hO (by rw [World.size_alloc, World.size_alloc]; omega))
  have HB := hid (cthen (below_alloc (below_alloc (Below.refl _ _) _) _) hb)
  clear hO hb hP
  go_wp2_with fail
  have HI := hid (MkI.start HZ.out HO1.out HB.out 192)
  clear HZ HO1
  go_loopw [8] (fun iv W => ∃ i : Nat, iv = .int .i64 i ∧ i ≤ l.length ∧ Hid (MkI w w1.heap.size 192 (mkD false x (l.take i)) W)) (fun iv _ => l.length - (intOf iv).toNat)
  case atStart => exact ⟨0, rfl, by omega, HI⟩
  case round =>
    obtain ⟨i, rfl, hi, hI⟩ := hrel
    clear HI HB
    by_cases hlt : i < l.length
    · have hs : (l.getD i skZ).ok := HO.out _ (by rw [List.getD_eq_getElem?_getD, List.getElem?_eq_getElem hlt]; exact List.getElem_mem hlt)
      rcases HS.out.below hI.out.bel with h | ⟨b, off, rfl, hc⟩
      · rw [h] at hlt; exact absurd hlt (by simp)
      · obtain ⟨k0, k1, k2⟩ := hc i hlt
        clear hc
        obtain ⟨s, hsd⟩ : ∃ s, l.getD i skZ = s := ⟨_, rfl⟩
        rw [hsd] at hs k0 k1 k2
        have HSD := hid hsd
        clear hsd k1
        obtain ⟨s0, s1, s2, s3⟩ := hs
        obtain ⟨v, hc8, hO⟩ := hI.out.c
        obtain ⟨A2, c2, rfl⟩ := own_form hO
        have HO2 := hid hO
        have HC8 := hid hc8
        obtain ⟨⟨d0, d1, d2, d3⟩, ⟨e0, e1, e2, e3⟩⟩ := four hc8
        clear hc8 hO d0 d1 d3 e0 e1 e3
        obtain ⟨i0, hi0, hz0, hz1, hz2⟩ := info_parts infoB
        have hD := mkD_len false x (l.take i)
        have hDl : (l.take i).length ≤ 1000000 := by rw [List.length_take]; exact Nat.le_trans (Nat.min_le_right _ _) HL.out
        have hlen : (mkD false x (l.take i)).length + 4 ≤ 8000000 := by rw [hD, if_neg (by decide)]; omega
        have HLEN := hid hlen
        have hq : s.un = false ∧ s.sq ≤ 65535 := by
          have := List.any_eq_false.1 HGD.out s (by rw [← HSD.out, List.getD_eq_getElem?_getD, List.getElem?_eq_getElem hlt]; exact List.getElem_mem hlt)
          simpa [skBad] using this
        have hY := hid (show b4 (IntKind.u32.wrap (IntKind.u32.wrap (IntKind.u32.wrap s.st * 65536) + s.sq)) = skB false s by rw [b4_pair s0 s1 s2 hq.2]; rfl)
        clear hD hDl hlen hq
        go_upto_region 6 with fail
        go_cut [] from 22 to 40 (fun wx => Hid (MkI w w1.heap.size 192 (mkD false x (l.take (i + 1))) wx))
        case first =>
          have hS0 : RS wr w1.heap.size b (off + i * 3) A2 c2 (mkD false x (l.take i)).length s wr.drew := ⟨below_drew (Below.refl _ _) 1, d2, k0, k2⟩
          have hix : (0 : Int) ≤ (i : Int) := by omega
          have hiy : (i : Int) < (l.length : Int) := by omega
          clear d2 e2 k0 k2
          refine start_ (n := 20) (S := fun w' => Below wr.heap.size wr w' ∧ w'.cell? ⟨w1.heap.size, 2, none⟩ = some (.slice A2 (mkD false x (l.take i)).length c2) ∧ w'.cell? ⟨b, off + i * 3, none⟩ = some (.int .u16 s.st) ∧ w'.cell? ⟨b, off + i * 3 + 2, none⟩ = some (.int .u32 s.sq)) (ds := [17, 19]) #[false, false, false, false, false, false, false, false, false, false, false, false, false, false, false, false, false, false, false, false] (by kernel_rfl) rfl rfl hS0 (fun hHeld => ?_)
          generalize wr.drew = w44 at hS0 hHeld ⊢
          refine pure_ (i := 0) (N := some 22) (v := ?_) (a' := ?_) #[true, false, false, false, false, false, false, false, false, false, false, false, false, false, false, false, false, false, false, false] rfl rfl (by kernel_rfl) (fun _ _ _ h => h) (Or.inl ⟨by rfl, ?_⟩) ?_ ?_
          rotate_left
          · intro w'
            go_simp
            with_reducible rfl
          rotate_left
          · simp only [Act.put, List.setIfInBounds_toArray, List.set_cons_zero, List.set_cons_succ, i64_w, i32_w]
            rfl
          refine take_ (i := 1) (N := some 23) (v := ?_) (a' := ?_) #[true, true, false, false, false, false, false, false, false, false, false, false, false, false, false, false, false, false, false, false] rfl rfl (by kernel_rfl) (fun _ _ _ h => h) (Or.inl ⟨by rfl, ?_⟩) hHeld ?_ ?_
          rotate_left
          · rintro w' ⟨q0, q1, q2, q3⟩
            go_simp
            with_reducible rfl
          rotate_left
          · simp only [Act.put, List.setIfInBounds_toArray, List.set_cons_zero, List.set_cons_succ, i64_w, i32_w]
            rfl
          refine pure_ (i := 2) (N := some 24) (v := ?_) (a' := ?_) #[true, true, true, false, false, false, false, false, false, false, false, false, false, false, false, false, false, false, false, false] rfl rfl (by kernel_rfl) (fun _ _ _ h => h) (Or.inl ⟨by rfl, ?_⟩) ?_ ?_
          rotate_left
          · intro w'
            go_simp
            with_reducible rfl
          rotate_left
          · simp only [Act.put, List.setIfInBounds_toArray, List.set_cons_zero, List.set_cons_succ, i64_w, i32_w]
            rfl
          refine pure_ (i := 3) (N := some 25) (v := ?_) (a' := ?_) #[true, true, true, true, false, false, false, false, false, false, false, false, false, false, false, false, false, false, false, false] rfl rfl (by kernel_rfl) (fun _ _ _ h => h) (Or.inl ⟨by rfl, ?_⟩) ?_ ?_
          rotate_left
          · intro w'
            go_simp
            with_reducible rfl
          rotate_left
          · simp only [Act.put, List.setIfInBounds_toArray, List.set_cons_zero, List.set_cons_succ, i64_w, i32_w]
            rfl
          refine pure_ (i := 4) (N := some 26) (v := ?_) (a' := ?_) #[true, true, true, true, true, false, false, false, false, false, false, false, false, false, false, false, false, false, false, false] rfl rfl (by kernel_rfl) (fun _ _ _ h => h) (Or.inl ⟨by rfl, ?_⟩) ?_ ?_
          rotate_left
          · intro w'
            go_simp
            with_reducible rfl
          rotate_left
          · simp only [Act.put, List.setIfInBounds_toArray, List.set_cons_zero, List.set_cons_succ, i64_w, i32_w]
            rfl
          refine pure_ (i := 5) (N := some 27) (v := ?_) (a' := ?_) #[true, true, true, true, true, true, false, false, false, false, false, false, false, false, false, false, false, false, false, false] rfl rfl (by kernel_rfl) (fun _ _ _ h => h) (Or.inl ⟨by rfl, ?_⟩) ?_ ?_
          rotate_left
          · intro w'
            go_simp
            with_reducible rfl
          rotate_left
          · simp only [Act.put, List.setIfInBounds_toArray, List.set_cons_zero, List.set_cons_succ, i64_w, i32_w]
            rfl
          refine take_ (i := 6) (N := some 28) (v := ?_) (a' := ?_) #[true, true, true, true, true, true, true, false, false, false, false, false, false, false, false, false, false, false, false, false] rfl rfl (by kernel_rfl) (fun _ _ _ h => h) (Or.inl ⟨by rfl, ?_⟩) hHeld ?_ ?_
          rotate_left
          · rintro w' ⟨q0, q1, q2, q3⟩
            go_simp
            with_reducible rfl
          rotate_left
          · simp only [Act.put, List.setIfInBounds_toArray, List.set_cons_zero, List.set_cons_succ, i64_w, i32_w]
            rfl
          refine pure_ (i := 7) (N := some 29) (v := ?_) (a' := ?_) #[true, true, true, true, true, true, true, true, false, false, false, false, false, false, false, false, false, false, false, false] rfl rfl (by kernel_rfl) (fun _ _ _ h => h) (Or.inl ⟨by rfl, ?_⟩) ?_ ?_
          rotate_left
          · intro w'
            go_simp
            with_reducible rfl
          rotate_left
          · simp only [Act.put, List.setIfInBounds_toArray, List.set_cons_zero, List.set_cons_succ, i64_w, i32_w]
            rfl
          refine pure_ (i := 8) (N := some 30) (v := ?_) (a' := ?_) #[true, true, true, true, true, true, true, true, true, false, false, false, false, false, false, false, false, false, false, false] rfl rfl (by kernel_rfl) (fun _ _ _ h => h) (Or.inl ⟨by rfl, ?_⟩) ?_ ?_
          rotate_left
          · intro w'
            go_simp
            with_reducible rfl
          rotate_left
          · simp only [Act.put, List.setIfInBounds_toArray, List.set_cons_zero, List.set_cons_succ, i64_w, i32_w]
            rfl
          refine pure_ (i := 9) (N := some 31) (v := ?_) (a' := ?_) #[true, true, true, true, true, true, true, true, true, true, false, false, false, false, false, false, false, false, false, false] rfl rfl (by kernel_rfl) (fun _ _ _ h => h) (Or.inl ⟨by rfl, ?_⟩) ?_ ?_
          rotate_left
          · intro w'
            go_simp
            with_reducible rfl
          rotate_left
          · simp only [Act.put, List.setIfInBounds_toArray, List.set_cons_zero, List.set_cons_succ, i64_w, i32_w]
            rfl
          refine pure_ (i := 10) (N := some 32) (v := ?_) (a' := ?_) #[true, true, true, true, true, true, true, true, true, true, true, false, false, false, false, false, false, false, false, false] rfl rfl (by kernel_rfl) (fun _ _ _ h => h) (Or.inl ⟨by rfl, ?_⟩) ?_ ?_
          rotate_left
          · intro w'
            go_simp
            with_reducible rfl
          rotate_left
          · simp only [Act.put, List.setIfInBounds_toArray, List.set_cons_zero, List.set_cons_succ, i64_w, i32_w]
            rfl
          refine pure_ (i := 11) (N := some 33) (v := ?_) (a' := ?_) #[true, true, true, true, true, true, true, true, true, true, true, true, false, false, false, false, false, false, false, false] rfl rfl (by kernel_rfl) (fun _ _ _ h => h) (Or.inl ⟨by rfl, ?_⟩) ?_ ?_
          rotate_left
          · intro w'
            go_simp
            with_reducible rfl
          rotate_left
          · simp only [Act.put, List.setIfInBounds_toArray, List.set_cons_zero, List.set_cons_succ, i64_w, i32_w]
            rfl
          refine pure_ (i := 12) (N := some 34) (v := ?_) (a' := ?_) #[true, true, true, true, true, true, true, true, true, true, true, true, true, false, false, false, false, false, false, false] rfl rfl (by kernel_rfl) (fun _ _ _ h => h) (Or.inl ⟨by rfl, ?_⟩) ?_ ?_
          rotate_left
          · intro w'
            go_simp
            with_reducible rfl
          rotate_left
          · simp only [Act.put, List.setIfInBounds_toArray, List.set_cons_zero, List.set_cons_succ, i64_w, i32_w]
            rfl
          refine take_ (i := 13) (N := some 35) (v := ?_) (a' := ?_) #[true, true, true, true, true, true, true, true, true, true, true, true, true, true, false, false, false, false, false, false] rfl rfl (by kernel_rfl) (fun _ _ _ h => h) (Or.inl ⟨by rfl, ?_⟩) hHeld ?_ ?_
          rotate_left
          · rintro w' ⟨q0, q1, q2, q3⟩
            go_simp
            with_reducible rfl
          rotate_left
          · simp only [Act.put, List.setIfInBounds_toArray, List.set_cons_zero, List.set_cons_succ, i64_w, i32_w]
            rfl
          refine pure_ (i := 14) (N := some 36) (v := ?_) (a' := ?_) #[true, true, true, true, true, true, true, true, true, true, true, true, true, true, true, false, false, false, false, false] rfl rfl (by kernel_rfl) (fun _ _ _ h => h) (Or.inl ⟨by rfl, ?_⟩) ?_ ?_
          rotate_left
          · intro w'
            go_simp
            with_reducible rfl
          rotate_left
          · simp only [Act.put, List.setIfInBounds_toArray, List.set_cons_zero, List.set_cons_succ, i64_w, i32_w]
            rfl
          refine one_ (i := 15) (N := some 37) #[true, true, true, true, true, true, true, true, true, true, true, true, true, true, true, true, false, false, false, false] rfl rfl (by kernel_rfl) (by decide) (fun K hK => ?_)
          have hS1 := RS.alloc (o' := .cells #[.int .u32 (IntKind.u32.wrap (IntKind.u32.wrap (IntKind.u32.wrap s.st * 65536) + s.sq))] 23) hHeld
          refine value_ (w1 := w44.alloc (.cells #[.int .u32 (IntKind.u32.wrap (IntKind.u32.wrap (IntKind.u32.wrap s.st * 65536) + s.sq))] 23)) (v := .slice (some ⟨w44.heap.size, 0, none⟩) 1 1) (by rfl) rfl (by go_simp; done) ?_
          refine hK.out _ _ hS1 (fun hHeld => ?_)
          clear hK K
          refine norm_ (a' := ?_) ?_ ?_
          rotate_left
          · show Act.put _ (some 37) _ = _
            simp only [Act.put, List.setIfInBounds_toArray, List.set_cons_zero, List.set_cons_succ, i64_w, i32_w]
            rfl
          refine one_ (i := 16) (N := some 38) #[true, true, true, true, true, true, true, true, true, true, true, true, true, true, true, true, true, false, false, false] rfl rfl (by kernel_rfl) (by decide) (fun K hK => ?_)
          refine goes_ Tryz.func56 (by kernel_rfl) rfl #[.int .i64 4, .slice (some ⟨w44.heap.size, 0, none⟩) 1 1] (by rfl) rfl rfl (by simp only [List.map_toArray, List.map_cons, List.map_nil]; rfl) ?_
          refine Calls.mono (rput4_lit _ _ _ (blk_new _ _)) ?_
          rintro e W ⟨A9, c9, rfl, hr, hb⟩
          refine ⟨_, rfl, ?_⟩
          obtain ⟨a9, rfl, hn9'⟩ := some_of' hr (by simp [b4])
          have hn9 := hid hn9'
          have hS2 := RS.blw hb hHeld
          have hBW := hid hS2.1
          have hSZ := hid (rm_size hI.out.bel hBW.out)
          clear hr hb hn9'
          refine hK.out _ _ hS2 (fun hHeld => ?_)
          clear hK K
          refine norm_ (a' := ?_) ?_ ?_
          rotate_left
          · show Act.put _ (some 38) _ = _
            simp only [Act.put, List.setIfInBounds_toArray, List.set_cons_zero, List.set_cons_succ, i64_w, i32_w]
            rfl
          refine last_ (i := 17) (N := some 39) #[true, true, true, true, true, true, true, true, true, true, true, true, true, true, true, true, true, true, false, false] rfl rfl (by kernel_rfl) (by decide) (fun K hK => ?_)
          refine step_append_lies _ (by rfl) _ _ _ (by rfl) w.heap.size 5 i0 _ 1 1 Tryz.underlying32 hi0 hz0 hz1 hz2 rfl (by omega) _ _ _ (by rfl) (own_kept HO2.out hBW.out) a9 4 c9 ((b4 _).map (Value.int .u8)) (by rfl) (by simp [b4]) (hn9.out) (by intro u hu; obtain ⟨_, _, rfl⟩ := List.mem_map.1 hu; rfl) (by omega) (by have := HLEN.out; unfold maxLen; omega) (by have := HLEN.out; omega) hSZ.out _ rfl ?_
          intro gg cap W' hown1 hgrow hat hlt'
          obtain ⟨hfin, g2, f2⟩ := grow_step (hI.out.step hBW.out) (blk_below HC8.out hBW.out) (own_kept HO2.out hBW.out) hgrow hown1 (by simp [b4])
          have HF := hid hfin
          clear hfin hown1 hgrow hat hlt'
          refine hK.out _ _ ?_
          clear hK K
          refine norm_ (a' := ?_) ?_ ?_
          rotate_left
          · show Act.put _ (some 39) _ = _
            simp only [Act.put, List.setIfInBounds_toArray, List.set_cons_zero, List.set_cons_succ, i64_w, i32_w]
            rfl
          refine pure_ (i := 18) (N := some 40) (v := ?_) (a' := ?_) #[true, true, true, true, true, true, true, true, true, true, true, true, true, true, true, true, true, true, true, false] rfl rfl (by kernel_rfl) (fun _ _ _ h => h) (Or.inl ⟨by rfl, ?_⟩) ?_ ?_
          rotate_left
          · intro w'
            go_simp
            with_reducible rfl
          rotate_left
          · simp only [Act.put, List.setIfInBounds_toArray, List.set_cons_zero, List.set_cons_succ, i64_w, i32_w]
            rfl
          refine last_ (i := 19) (N := none) #[true, true, true, true, true, true, true, true, true, true, true, true, true, true, true, true, true, true, true, true] rfl rfl (by kernel_rfl) (by decide) (fun K hK => ?_)
          refine skip_ (w1 := W'.setCell ⟨w1.heap.size, 2, none⟩ (.slice (some ⟨gg, 0, none⟩) ((mkD false x (l.take i)).length + 4) cap)) (by rfl) rfl (by go_simp; done) ?_
          refine hK.out _ _ ?_
          clear hK K
          refine done_ (by kernel_rfl) ?_
          go_wp2_with fail
          go_meet
          rw [mkD_step hlt HSD.out, ← hY.out]
          exact HF
        case rest =>
          have HI2 := hid hcut.out
          clear hcut hI d2 e2 k0 k2
          have hl' := HL.out
          go_wp2_with fail
          exact ⟨⟨i + 1, by go_num, by omega, HI2⟩, by simp [intOf]; omega⟩
    · obtain ⟨v, hc8, hO⟩ := hI.out.c
      obtain ⟨A2, c2, rfl⟩ := own_form hO
      obtain rfl : i = l.length := by omega
      rw [List.take_length] at hO hc8
      have hz := hI.out.z
      unfold chZ at hz
      obtain ⟨⟨z0, z1, z2, z3⟩, ⟨y0, y1, y2, y3⟩⟩ := four hz
      obtain ⟨⟨d0, d1, d2, d3⟩, ⟨e0, e1, e2, e3⟩⟩ := four hc8
      have HOO := hid hO
      have HBB := hid hI.out.bel
      have HZZ := hid hI.out.z
      clear hO hz hc8 hI HS HO
      go_wp2_with fail
      refine bodyPost_ret (v := .agg #[.int .u8 192, .int .u8 0, .slice A2 (mkD false x l).length c2, .slice none 0 0]) (by simp [results, Tryz.results40, go_sem, z0, z1, z2, z3]) rfl ?_
      have hne := own_apart HOO.out HZZ.out
      refine ⟨below_set (below_set (below_set (below_set HBB.out (Nat.le_refl _) _) (Nat.le_refl _) _) (Nat.le_refl _) _) (Nat.le_refl _) _, _, rfl, ?_⟩
      exact ownsRow_setCell_other (ownsRow_setCell_other (ownsRow_setCell_other (ownsRow_setCell_other HOO.out (Ne.symm hne) _) (Ne.symm hne) _) (Ne.symm hne) _) (Ne.symm hne) _
theorem rput44_lit (b : Nat) (x y : Int) (w : World) (h : w.heap[b]? = some (.cells #[.int .u32 x, .int .u32 y] 23 (0, 0))) :
    Calls Tryz.prog 56 #[.int .i64 4, .slice (some ⟨b, 0, none⟩) 2 2] w (fun e w' => ∃ A c, e = .returned (.slice A 8 c) ∧ BC w' A (b4 x ++ b4 y) ∧ Blw w w') := (rput44_any b x y w h).mono (by
    rintro e w' ⟨v, rfl, ho, hb⟩
    obtain ⟨A, c, rfl, -, hr, -⟩ := own_slice ho
    exact ⟨A, c, rfl, hr, hb⟩)
theorem b4_or {a : Int} (h0 : 0 ≤ a) (h1 : a ≤ 65535) : b4 (a * 65536) = b2 a ++ b2 0 := by
  unfold b4 b2
  simp only [List.cons_append, List.nil_append, List.cons.injEq, and_true]
  omega
theorem b4_un {a : Int} (h0 : 0 ≤ a) (h1 : a ≤ 65535) : b4 (a * 65536 + 1) = b2 a ++ b2 1 := by
  unfold b4 b2
  simp only [List.cons_append, List.nil_append, List.cons.injEq, and_true]
  omega
set_option maxRecDepth 100000 in
set_option maxHeartbeats 8000000 in
theorem rmake_true (x : Int) (A : Option Addr) (c : Nat) (l : List Sk) (w : World) (hS : SkC w A l) (hok : ∀ s ∈ l, s.ok) (hc : l.length ≤ c) (hl : l.length ≤ 1000000) :
    Calls Tryz.prog 40 #[.bool true, .int .u32 x, .slice A l.length c] w (RmPost true x l w) := by
  have HS := hid hS
  have HO := hid hok
  have HL := hid hl
  clear hS hok hc hl
  go_enter Tryz.func40, Tryz.ntmps40
  go_wp2_with fail
  have hP := rput4_any (w.heap.size + 1) x ((w.alloc chZ).alloc (.cells #[.int .u32 x] 23)) (by
    have := blk_new (w.alloc chZ) (.cells #[.int .u32 x] 23)
    rwa [World.size_alloc] at this)
  unfold chZ at hP
  refine hP.mono ?_
  rintro e w1 ⟨v, rfl, hO, hb⟩
  have HZ := hid (blk_below (blk_alloc (blk_new w chZ)) hb)
  obtain ⟨A1, c1, rfl⟩ := own_form hO
  have HO1 := hid (OwnB.lower (b0 := w.heap.size) hO (by rw [World.size_alloc, World.size_alloc]; omega))
  have HB := hid (cthen (below_alloc (below_alloc (Below.refl _ _) _) _) hb)
  clear hO hb hP
  go_wp2_with fail
  have HI := hid (MkI.start HZ.out HO1.out HB.out 192)
  clear HZ HO1
  go_loopw [8] (fun iv W => ∃ i : Nat, iv = .int .i64 i ∧ i ≤ l.length ∧ Hid (MkI w w1.heap.size 192 (mkD true x (l.take i)) W)) (fun iv _ => l.length - (intOf iv).toNat)
  case atStart => exact ⟨0, rfl, by omega, HI⟩
  case round =>
    obtain ⟨i, rfl, hi, hI⟩ := hrel
    clear HI HB
    by_cases hlt : i < l.length
    · have hs : (l.getD i skZ).ok := HO.out _ (by rw [List.getD_eq_getElem?_getD, List.getElem?_eq_getElem hlt]; exact List.getElem_mem hlt)
      rcases HS.out.below hI.out.bel with h | ⟨b, off, rfl, hc⟩
      · rw [h] at hlt; exact absurd hlt (by simp)
      · obtain ⟨k0, k1, k2⟩ := hc i hlt
        clear hc
        obtain ⟨s, hsd⟩ : ∃ s, l.getD i skZ = s := ⟨_, rfl⟩
        rw [hsd] at hs k0 k1 k2
        have HSD := hid hsd
        clear hsd
        obtain ⟨s0, s1, s2, s3⟩ := hs
        obtain ⟨v, hc8, hO⟩ := hI.out.c
        obtain ⟨A2, c2, rfl⟩ := own_form hO
        have HO2 := hid hO
        have HC8 := hid hc8
        obtain ⟨⟨d0, d1, d2, d3⟩, ⟨e0, e1, e2, e3⟩⟩ := four hc8
        clear hc8 hO d0 d1 d3 e0 e1 e3
        obtain ⟨i0, hi0, hz0, hz1, hz2⟩ := info_parts infoB
        have hD : (mkD true x (l.take i)).length = 4 + 8 * (l.take i).length := mkD_len true x (l.take i)
        have hDl : (l.take i).length ≤ 1000000 := by rw [List.length_take]; exact Nat.le_trans (Nat.min_le_right _ _) HL.out
        have hlen : (mkD true x (l.take i)).length + 8 ≤ 16000000 := by rw [hD]; omega
        have HLEN := hid hlen
        obtain ⟨i0, hi0, hz0, hz1, hz2⟩ := info_parts infoB
        clear hD hDl hlen
        rcases hu : s.un with _ | _
        · rw [hu] at k1
          have hY := hid (show b4 (s.st * 65536) ++ b4 s.sq = skB true s by rw [b4_or s0 s1]; unfold skB ofB; rw [hu]; rfl)
          clear hu
          go_upto_region 10 with fail
          have hS0 : RS wr w1.heap.size b (off + i * 3) A2 c2 (mkD true x (l.take i)).length s wr.drew := ⟨below_drew (Below.refl _ _) 1, d2, k0, k2⟩
          have hix : (0 : Int) ≤ (i : Int) := by omega
          have hiy : (i : Int) < (l.length : Int) := by omega
          clear d2 e2 k0 k1 k2
          refine start_ (n := 13) (S := fun w' => Below wr.heap.size wr w' ∧ w'.cell? ⟨w1.heap.size, 2, none⟩ = some (.slice A2 (mkD true x (l.take i)).length c2) ∧ w'.cell? ⟨b, off + i * 3, none⟩ = some (.int .u16 s.st) ∧ w'.cell? ⟨b, off + i * 3 + 2, none⟩ = some (.int .u32 s.sq)) (ds := [10, 12]) #[false, false, false, false, false, false, false, false, false, false, false, false, false] (by kernel_rfl) rfl rfl hS0 (fun hHeld => ?_)
          generalize wr.drew = w44 at hS0 hHeld ⊢
          refine pure_ (i := 0) (N := some 55) (v := ?_) (a' := ?_) #[true, false, false, false, false, false, false, false, false, false, false, false, false] rfl rfl (by kernel_rfl) (fun _ _ _ h => h) (Or.inl ⟨by rfl, ?_⟩) ?_ ?_
          rotate_left
          · intro w'
            go_simp
            with_reducible rfl
          rotate_left
          · simp only [Act.put, List.setIfInBounds_toArray, List.set_cons_zero, List.set_cons_succ, i64_w, i32_w]
            rfl
          refine take_ (i := 1) (N := some 56) (v := ?_) (a' := ?_) #[true, true, false, false, false, false, false, false, false, false, false, false, false] rfl rfl (by kernel_rfl) (fun _ _ _ h => h) (Or.inl ⟨by rfl, ?_⟩) hHeld ?_ ?_
          rotate_left
          · rintro w' ⟨q0, q1, q2, q3⟩
            go_simp
            with_reducible rfl
          rotate_left
          · simp only [Act.put, List.setIfInBounds_toArray, List.set_cons_zero, List.set_cons_succ, i64_w, i32_w]
            rfl
          refine pure_ (i := 2) (N := some 57) (v := ?_) (a' := ?_) #[true, true, true, false, false, false, false, false, false, false, false, false, false] rfl rfl (by kernel_rfl) (fun _ _ _ h => h) (Or.inl ⟨by rfl, ?_⟩) ?_ ?_
          rotate_left
          · intro w'
            go_simp
            with_reducible rfl
          rotate_left
          · simp only [Act.put, List.setIfInBounds_toArray, List.set_cons_zero, List.set_cons_succ, i64_w, i32_w]
            rfl
          refine pure_ (i := 3) (N := some 58) (v := ?_) (a' := ?_) #[true, true, true, true, false, false, false, false, false, false, false, false, false] rfl rfl (by kernel_rfl) (fun _ _ _ h => h) (Or.inl ⟨by rfl, ?_⟩) ?_ ?_
          rotate_left
          · intro w'
            go_simp
            with_reducible rfl
          rotate_left
          · simp only [Act.put, List.setIfInBounds_toArray, List.set_cons_zero, List.set_cons_succ, i64_w, i32_w]
            rfl
          refine pure_ (i := 4) (N := some 59) (v := ?_) (a' := ?_) #[true, true, true, true, true, false, false, false, false, false, false, false, false] rfl rfl (by kernel_rfl) (fun _ _ _ h => h) (Or.inl ⟨by rfl, ?_⟩) ?_ ?_
          rotate_left
          · intro w'
            go_simp
            with_reducible rfl
          rotate_left
          · simp only [Act.put, List.setIfInBounds_toArray, List.set_cons_zero, List.set_cons_succ, i64_w, i32_w]
            rfl
          refine pure_ (i := 5) (N := some 60) (v := ?_) (a' := ?_) #[true, true, true, true, true, true, false, false, false, false, false, false, false] rfl rfl (by kernel_rfl) (fun _ _ _ h => h) (Or.inl ⟨by rfl, ?_⟩) ?_ ?_
          rotate_left
          · intro w'
            go_simp
            with_reducible rfl
          rotate_left
          · simp only [Act.put, List.setIfInBounds_toArray, List.set_cons_zero, List.set_cons_succ, i64_w, i32_w]
            rfl
          refine pure_ (i := 6) (N := some 61) (v := ?_) (a' := ?_) #[true, true, true, true, true, true, true, false, false, false, false, false, false] rfl rfl (by kernel_rfl) (fun _ _ _ h => h) (Or.inl ⟨by rfl, ?_⟩) ?_ ?_
          rotate_left
          · intro w'
            go_simp
            with_reducible rfl
          rotate_left
          · simp only [Act.put, List.setIfInBounds_toArray, List.set_cons_zero, List.set_cons_succ, i64_w, i32_w]
            rfl
          refine take_ (i := 7) (N := some 62) (v := ?_) (a' := ?_) #[true, true, true, true, true, true, true, true, false, false, false, false, false] rfl rfl (by kernel_rfl) (fun _ _ _ h => h) (Or.inl ⟨by rfl, ?_⟩) hHeld ?_ ?_
          rotate_left
          · rintro w' ⟨q0, q1, q2, q3⟩
            go_simp
            with_reducible rfl
          rotate_left
          · simp only [Act.put, List.setIfInBounds_toArray, List.set_cons_zero, List.set_cons_succ, i64_w, i32_w]
            rfl
          refine one_ (i := 8) (N := some 63) #[true, true, true, true, true, true, true, true, true, false, false, false, false] rfl rfl (by kernel_rfl) (by decide) (fun K hK => ?_)
          have hS1 := RS.alloc (o' := .cells #[.int .u32 (s.st * 65536), .int .u32 s.sq] 23) hHeld
          refine value_ (w1 := w44.alloc (.cells #[.int .u32 (s.st * 65536), .int .u32 s.sq] 23)) (v := .slice (some ⟨w44.heap.size, 0, none⟩) 2 2) (by rfl) rfl (by go_simp; done) ?_
          refine hK.out _ _ hS1 (fun hHeld => ?_)
          clear hK K
          refine norm_ (a' := ?_) ?_ ?_
          rotate_left
          · show Act.put _ (some 63) _ = _
            simp only [Act.put, List.setIfInBounds_toArray, List.set_cons_zero, List.set_cons_succ, i64_w, i32_w]
            rfl
          refine one_ (i := 9) (N := some 64) #[true, true, true, true, true, true, true, true, true, true, false, false, false] rfl rfl (by kernel_rfl) (by decide) (fun K hK => ?_)
          refine goes_ Tryz.func56 (by kernel_rfl) rfl #[.int .i64 4, .slice (some ⟨w44.heap.size, 0, none⟩) 2 2] (by rfl) rfl rfl (by simp only [List.map_toArray, List.map_cons, List.map_nil]; rfl) ?_
          refine Calls.mono (rput44_lit _ _ _ _ (blk_new _ _)) ?_
          rintro e W ⟨A9, c9, rfl, hr, hb⟩
          refine ⟨_, rfl, ?_⟩
          obtain ⟨a9, rfl, hn9'⟩ := some_of' hr (by simp [b4])
          have hn9 := hid hn9'
          have hS2 := RS.blw hb hHeld
          have hBW := hid hS2.1
          have hSZ := hid (rm_size hI.out.bel hBW.out)
          clear hr hb hn9'
          refine hK.out _ _ hS2 (fun hHeld => ?_)
          clear hK K
          refine norm_ (a' := ?_) ?_ ?_
          rotate_left
          · show Act.put _ (some 64) _ = _
            simp only [Act.put, List.setIfInBounds_toArray, List.set_cons_zero, List.set_cons_succ, i64_w, i32_w]
            rfl
          refine last_ (i := 10) (N := some 65) #[true, true, true, true, true, true, true, true, true, true, true, false, false] rfl rfl (by kernel_rfl) (by decide) (fun K hK => ?_)
          refine step_append_lies _ (by rfl) _ _ _ (by rfl) w.heap.size 5 i0 _ 1 1 Tryz.underlying32 hi0 hz0 hz1 hz2 rfl (by omega) _ _ _ (by rfl) (own_kept HO2.out hBW.out) a9 8 c9 ((b4 _ ++ b4 _).map (Value.int .u8)) (by rfl) (by simp [b4]) (hn9.out) (by intro u hu; obtain ⟨_, _, rfl⟩ := List.mem_map.1 hu; rfl) (by omega) (by have := HLEN.out; unfold maxLen; omega) (by have := HLEN.out; omega) hSZ.out _ rfl ?_
          intro gg cap W' hown1 hgrow hat hlt'
          obtain ⟨hfin, g2, f2⟩ := grow_step (hI.out.step hBW.out) (blk_below HC8.out hBW.out) (own_kept HO2.out hBW.out) hgrow hown1 (by simp [b4])
          have HF := hid hfin
          clear hfin hown1 hgrow hat hlt'
          refine hK.out _ _ ?_
          clear hK K
          refine norm_ (a' := ?_) ?_ ?_
          rotate_left
          · show Act.put _ (some 65) _ = _
            simp only [Act.put, List.setIfInBounds_toArray, List.set_cons_zero, List.set_cons_succ, i64_w, i32_w]
            rfl
          refine pure_ (i := 11) (N := some 66) (v := ?_) (a' := ?_) #[true, true, true, true, true, true, true, true, true, true, true, true, false] rfl rfl (by kernel_rfl) (fun _ _ _ h => h) (Or.inl ⟨by rfl, ?_⟩) ?_ ?_
          rotate_left
          · intro w'
            go_simp
            with_reducible rfl
          rotate_left
          · simp only [Act.put, List.setIfInBounds_toArray, List.set_cons_zero, List.set_cons_succ, i64_w, i32_w]
            rfl
          refine last_ (i := 12) (N := none) #[true, true, true, true, true, true, true, true, true, true, true, true, true] rfl rfl (by kernel_rfl) (by decide) (fun K hK => ?_)
          refine skip_ (w1 := W'.setCell ⟨w1.heap.size, 2, none⟩ (.slice (some ⟨gg, 0, none⟩) ((mkD true x (l.take i)).length + 8) cap)) (by rfl) rfl (by go_simp; done) ?_
          refine hK.out _ _ ?_
          clear hK K
          refine done_ (by kernel_rfl) ?_
          have HI2 : Hid (MkI w w1.heap.size 192 (mkD true x (l.take (i + 1))) _) := hid (by rw [mkD_step hlt HSD.out, ← hY.out]; exact HF.out)
          clear HF g2 f2 hI
          have hl' := HL.out
          go_wp2_with fail
          exact ⟨⟨i + 1, by go_num, by omega, HI2⟩, by simp [intOf]; omega⟩
        · rw [hu] at k1
          have hY := hid (show b4 (s.st * 65536 + 1) ++ b4 s.sq = skB true s by rw [b4_un s0 s1]; unfold skB ofB; rw [hu]; rfl)
          clear hu
          go_upto_region 10 with fail
          have hS0 : RS wr w1.heap.size b (off + i * 3) A2 c2 (mkD true x (l.take i)).length s wr.drew := ⟨below_drew (Below.refl _ _) 1, d2, k0, k2⟩
          have hix : (0 : Int) ≤ (i : Int) := by omega
          have hiy : (i : Int) < (l.length : Int) := by omega
          clear d2 e2 k0 k1 k2
          refine start_ (n := 13) (S := fun w' => Below wr.heap.size wr w' ∧ w'.cell? ⟨w1.heap.size, 2, none⟩ = some (.slice A2 (mkD true x (l.take i)).length c2) ∧ w'.cell? ⟨b, off + i * 3, none⟩ = some (.int .u16 s.st) ∧ w'.cell? ⟨b, off + i * 3 + 2, none⟩ = some (.int .u32 s.sq)) (ds := [10, 12]) #[false, false, false, false, false, false, false, false, false, false, false, false, false] (by kernel_rfl) rfl rfl hS0 (fun hHeld => ?_)
          generalize wr.drew = w44 at hS0 hHeld ⊢
          refine pure_ (i := 0) (N := some 55) (v := ?_) (a' := ?_) #[true, false, false, false, false, false, false, false, false, false, false, false, false] rfl rfl (by kernel_rfl) (fun _ _ _ h => h) (Or.inl ⟨by rfl, ?_⟩) ?_ ?_
          rotate_left
          · intro w'
            go_simp
            with_reducible rfl
          rotate_left
          · simp only [Act.put, List.setIfInBounds_toArray, List.set_cons_zero, List.set_cons_succ, i64_w, i32_w]
            rfl
          refine take_ (i := 1) (N := some 56) (v := ?_) (a' := ?_) #[true, true, false, false, false, false, false, false, false, false, false, false, false] rfl rfl (by kernel_rfl) (fun _ _ _ h => h) (Or.inl ⟨by rfl, ?_⟩) hHeld ?_ ?_
          rotate_left
          · rintro w' ⟨q0, q1, q2, q3⟩
            go_simp
            with_reducible rfl
          rotate_left
          · simp only [Act.put, List.setIfInBounds_toArray, List.set_cons_zero, List.set_cons_succ, i64_w, i32_w]
            rfl
          refine pure_ (i := 2) (N := some 57) (v := ?_) (a' := ?_) #[true, true, true, false, false, false, false, false, false, false, false, false, false] rfl rfl (by kernel_rfl) (fun _ _ _ h => h) (Or.inl ⟨by rfl, ?_⟩) ?_ ?_
          rotate_left
          · intro w'
            go_simp
            with_reducible rfl
          rotate_left
          · simp only [Act.put, List.setIfInBounds_toArray, List.set_cons_zero, List.set_cons_succ, i64_w, i32_w]
            rfl
          refine pure_ (i := 3) (N := some 58) (v := ?_) (a' := ?_) #[true, true, true, true, false, false, false, false, false, false, false, false, false] rfl rfl (by kernel_rfl) (fun _ _ _ h => h) (Or.inl ⟨by rfl, ?_⟩) ?_ ?_
          rotate_left
          · intro w'
            go_simp
            with_reducible rfl
          rotate_left
          · simp only [Act.put, List.setIfInBounds_toArray, List.set_cons_zero, List.set_cons_succ, i64_w, i32_w]
            rfl
          refine pure_ (i := 4) (N := some 59) (v := ?_) (a' := ?_) #[true, true, true, true, true, false, false, false, false, false, false, false, false] rfl rfl (by kernel_rfl) (fun _ _ _ h => h) (Or.inl ⟨by rfl, ?_⟩) ?_ ?_
          rotate_left
          · intro w'
            go_simp
            with_reducible rfl
          rotate_left
          · simp only [Act.put, List.setIfInBounds_toArray, List.set_cons_zero, List.set_cons_succ, i64_w, i32_w]
            rfl
          refine pure_ (i := 5) (N := some 60) (v := ?_) (a' := ?_) #[true, true, true, true, true, true, false, false, false, false, false, false, false] rfl rfl (by kernel_rfl) (fun _ _ _ h => h) (Or.inl ⟨by rfl, ?_⟩) ?_ ?_
          rotate_left
          · intro w'
            go_simp
            with_reducible rfl
          rotate_left
          · simp only [Act.put, List.setIfInBounds_toArray, List.set_cons_zero, List.set_cons_succ, i64_w, i32_w]
            rfl
          refine pure_ (i := 6) (N := some 61) (v := ?_) (a' := ?_) #[true, true, true, true, true, true, true, false, false, false, false, false, false] rfl rfl (by kernel_rfl) (fun _ _ _ h => h) (Or.inl ⟨by rfl, ?_⟩) ?_ ?_
          rotate_left
          · intro w'
            go_simp
            with_reducible rfl
          rotate_left
          · simp only [Act.put, List.setIfInBounds_toArray, List.set_cons_zero, List.set_cons_succ, i64_w, i32_w]
            rfl
          refine take_ (i := 7) (N := some 62) (v := ?_) (a' := ?_) #[true, true, true, true, true, true, true, true, false, false, false, false, false] rfl rfl (by kernel_rfl) (fun _ _ _ h => h) (Or.inl ⟨by rfl, ?_⟩) hHeld ?_ ?_
          rotate_left
          · rintro w' ⟨q0, q1, q2, q3⟩
            go_simp
            with_reducible rfl
          rotate_left
          · simp only [Act.put, List.setIfInBounds_toArray, List.set_cons_zero, List.set_cons_succ, i64_w, i32_w]
            rfl
          refine one_ (i := 8) (N := some 63) #[true, true, true, true, true, true, true, true, true, false, false, false, false] rfl rfl (by kernel_rfl) (by decide) (fun K hK => ?_)
          have hS1 := RS.alloc (o' := .cells #[.int .u32 (s.st * 65536 + 1), .int .u32 s.sq] 23) hHeld
          refine value_ (w1 := w44.alloc (.cells #[.int .u32 (s.st * 65536 + 1), .int .u32 s.sq] 23)) (v := .slice (some ⟨w44.heap.size, 0, none⟩) 2 2) (by rfl) rfl (by go_simp; done) ?_
          refine hK.out _ _ hS1 (fun hHeld => ?_)
          clear hK K
          refine norm_ (a' := ?_) ?_ ?_
          rotate_left
          · show Act.put _ (some 63) _ = _
            simp only [Act.put, List.setIfInBounds_toArray, List.set_cons_zero, List.set_cons_succ, i64_w, i32_w]
            rfl
          refine one_ (i := 9) (N := some 64) #[true, true, true, true, true, true, true, true, true, true, false, false, false] rfl rfl (by kernel_rfl) (by decide) (fun K hK => ?_)
          refine goes_ Tryz.func56 (by kernel_rfl) rfl #[.int .i64 4, .slice (some ⟨w44.heap.size, 0, none⟩) 2 2] (by rfl) rfl rfl (by simp only [List.map_toArray, List.map_cons, List.map_nil]; rfl) ?_
          refine Calls.mono (rput44_lit _ _ _ _ (blk_new _ _)) ?_
          rintro e W ⟨A9, c9, rfl, hr, hb⟩
          refine ⟨_, rfl, ?_⟩
          obtain ⟨a9, rfl, hn9'⟩ := some_of' hr (by simp [b4])
          have hn9 := hid hn9'
          have hS2 := RS.blw hb hHeld
          have hBW := hid hS2.1
          have hSZ := hid (rm_size hI.out.bel hBW.out)
          clear hr hb hn9'
          refine hK.out _ _ hS2 (fun hHeld => ?_)
          clear hK K
          refine norm_ (a' := ?_) ?_ ?_
          rotate_left
          · show Act.put _ (some 64) _ = _
            simp only [Act.put, List.setIfInBounds_toArray, List.set_cons_zero, List.set_cons_succ, i64_w, i32_w]
            rfl
          refine last_ (i := 10) (N := some 65) #[true, true, true, true, true, true, true, true, true, true, true, false, false] rfl rfl (by kernel_rfl) (by decide) (fun K hK => ?_)
          refine step_append_lies _ (by rfl) _ _ _ (by rfl) w.heap.size 5 i0 _ 1 1 Tryz.underlying32 hi0 hz0 hz1 hz2 rfl (by omega) _ _ _ (by rfl) (own_kept HO2.out hBW.out) a9 8 c9 ((b4 _ ++ b4 _).map (Value.int .u8)) (by rfl) (by simp [b4]) (hn9.out) (by intro u hu; obtain ⟨_, _, rfl⟩ := List.mem_map.1 hu; rfl) (by omega) (by have := HLEN.out; unfold maxLen; omega) (by have := HLEN.out; omega) hSZ.out _ rfl ?_
          intro gg cap W' hown1 hgrow hat hlt'
          obtain ⟨hfin, g2, f2⟩ := grow_step (hI.out.step hBW.out) (blk_below HC8.out hBW.out) (own_kept HO2.out hBW.out) hgrow hown1 (by simp [b4])
          have HF := hid hfin
          clear hfin hown1 hgrow hat hlt'
          refine hK.out _ _ ?_
          clear hK K
          refine norm_ (a' := ?_) ?_ ?_
          rotate_left
          · show Act.put _ (some 65) _ = _
            simp only [Act.put, List.setIfInBounds_toArray, List.set_cons_zero, List.set_cons_succ, i64_w, i32_w]
            rfl
          refine pure_ (i := 11) (N := some 66) (v := ?_) (a' := ?_) #[true, true, true, true, true, true, true, true, true, true, true, true, false] rfl rfl (by kernel_rfl) (fun _ _ _ h => h) (Or.inl ⟨by rfl, ?_⟩) ?_ ?_
          rotate_left
          · intro w'
            go_simp
            with_reducible rfl
          rotate_left
          · simp only [Act.put, List.setIfInBounds_toArray, List.set_cons_zero, List.set_cons_succ, i64_w, i32_w]
            rfl
          refine last_ (i := 12) (N := none) #[true, true, true, true, true, true, true, true, true, true, true, true, true] rfl rfl (by kernel_rfl) (by decide) (fun K hK => ?_)
          refine skip_ (w1 := W'.setCell ⟨w1.heap.size, 2, none⟩ (.slice (some ⟨gg, 0, none⟩) ((mkD true x (l.take i)).length + 8) cap)) (by rfl) rfl (by go_simp; done) ?_
          refine hK.out _ _ ?_
          clear hK K
          refine done_ (by kernel_rfl) ?_
          have HI2 : Hid (MkI w w1.heap.size 192 (mkD true x (l.take (i + 1))) _) := hid (by rw [mkD_step hlt HSD.out, ← hY.out]; exact HF.out)
          clear HF g2 f2 hI
          have hl' := HL.out
          go_wp2_with fail
          exact ⟨⟨i + 1, by go_num, by omega, HI2⟩, by simp [intOf]; omega⟩
    · obtain ⟨v, hc8, hO⟩ := hI.out.c
      obtain ⟨A2, c2, rfl⟩ := own_form hO
      obtain rfl : i = l.length := by omega
      rw [List.take_length] at hO hc8
      have hz := hI.out.z
      unfold chZ at hz
      obtain ⟨⟨z0, z1, z2, z3⟩, ⟨y0, y1, y2, y3⟩⟩ := four hz
      obtain ⟨⟨d0, d1, d2, d3⟩, ⟨e0, e1, e2, e3⟩⟩ := four hc8
      have HOO := hid hO
      have HBB := hid hI.out.bel
      have HZZ := hid hI.out.z
      have HC8 := hid hc8
      have hbw := HBB.out.size
      have hb8 : w.heap.size ≠ w1.heap.size := by have := hI.out.b; omega
      have hb8l := hid (show w.heap.size ≤ w1.heap.size by have := hI.out.b; omega)
      clear hO hz hc8 hI HS HO hbw
      go_wp2_with fail
      refine bodyPost_ret (v := .agg #[.int .u8 194, .int .u8 0, .slice A2 (mkD true x l).length c2, .slice none 0 0]) (by simp [results, Tryz.results40, go_sem, z0, z1, z2, z3]) rfl ?_
      have hne := own_apart HOO.out HZZ.out
      have hn8 := own_apart HOO.out HC8.out
      have hlt8 := hb8l.out
      refine ⟨below_set (below_set (below_set (below_set (below_set HBB.out hlt8 _) (Nat.le_refl _) _) (Nat.le_refl _) _) (Nat.le_refl _) _) (Nat.le_refl _) _, _, rfl, ?_⟩
      exact ownsRow_setCell_other (ownsRow_setCell_other (ownsRow_setCell_other (ownsRow_setCell_other (ownsRow_setCell_other HOO.out (Ne.symm hn8) _) (Ne.symm hne) _) (Ne.symm hne) _) (Ne.symm hne) _) (Ne.symm hne) _
end Go.Proofs.YtcjcgehhmjnlcaaGreatDoor
