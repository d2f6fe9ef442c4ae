/- The walk of SackMatchesReference. -/
import Derived.Test.YtcjcgehhmjnlcaaGreatDoorSrm
import Derived.Test.YtcjcgehhmjnlcaaGreatDoorSgv
import Derived.Test.YtcjcgehhmjnlcaaGreatDoorSaw
import Derived.Test.YtcjcgehhmjnlcaaGreatDoorSbr
import Derived.Test.YtcjcgehhmjnlcaaGreatDoorSam
set_option linter.unusedVariables false
set_option linter.unusedSimpArgs false
namespace Go.Proofs.YtcjcgehhmjnlcaaGreatDoor
open Go.RowKit Go.Shelf Go.Proofs.YtcjcgehhmjnlcaaGreatDoor.It Go.Proofs.YtcjcgehhmjnlcaaGreatDoorW.PrintWords Go.Proofs.YtcjcgehhmjnlcaaGreatDoorW.PrintLast Go.Proofs.YtcjcgehhmjnlcaaGreatDoorW.PrintMore
namespace Sk14
open PSackMatchesReference
/-- A row of bytes and no nodes: a chunk that a reader sees. -/
def CkPost (M : List Int) (k : Nat) (w : World) (e : Ending) (w' : World) : Prop := ∃ A c K d, e = .returned (ckV 3 0 A k c K 0 d) ∧ k ≤ c ∧ BC w' A M ∧ Below w.heap.size w w'
theorem rmake_any (cu wi : Int) (A B : Option Addr) (c d n m k : Nat) (G : List Gp) (D M : List Int) (w : World) (hn : G.length = n) (hm : D.length = m) (hM : sMd cu wi G D = M) (hk : M.length = k) (hG : GpC w A G) (hU : UC w B D) (hd : m ≤ d) (h1 : n ≤ 16379) (h2 : m ≤ 16379) :
    Calls Tryz.prog 25 #[.agg #[.int .u32 cu, .int .u32 wi, .slice A n c, .slice B m d]] w (CkPost M k w) := by
  refine (rmk_hand cu wi A B c d n m G D w hn hm hG hU hd h1 h2).mono ?_
  rintro e w' ⟨v, rfl, hO, hb⟩
  obtain ⟨A', c', rfl, hcd, hbc, -⟩ := own_slice hO
  rw [hM] at hcd hbc ⊢
  rw [hk] at hcd ⊢
  exact ⟨A', c', none, 0, rfl, hcd, hbc, hb⟩
theorem ssame_any (cu wi : Int) (A1 A2 B1 B2 : Option Addr) (c1 c2 d1 d2 n m : Nat) (l : List Gp) (D : List Int) (w : World) (hn : l.length = n) (hm : D.length = m) (h1 : GpC w A1 l) (hc1 : n ≤ c1) (h2 : GpC w A2 l) (hc2 : n ≤ c2) (u1 : UC w B1 D) (hd1 : m ≤ d1) (u2 : UC w B2 D) (hd2 : m ≤ d2) (hl : n ≤ 1000000) (hD : m ≤ 1000000) :
    Calls Tryz.prog 28 #[.agg #[.int .u32 cu, .int .u32 wi, .slice A1 n c1, .slice B1 m d1], .agg #[.int .u32 cu, .int .u32 wi, .slice A2 n c2, .slice B2 m d2]] w (IsPost (.bool true) w) := by
  subst hn
  subst hm
  exact (sack_Same.calls _ cu wi A1 c1 l B1 d1 D cu wi A2 c2 l B2 d2 D true w (kc_of_gpc h1 (by omega)) hc1 u1 hd1 (kc_of_gpc h2 (by omega)) hc2 u2 hd2 (ssame_f cu wi l D hl hD)).mono (fun e w' h => h)
def Gv2 (cu wi : Int) (n m : Nat) (G : List Gp) (D : List Int) (w : World) (e : Ending) (w' : World) : Prop := ∃ A c B d, e = .returned (.agg #[.int .u32 cu, .int .u32 wi, .slice A n c, .slice B m d]) ∧ n ≤ c ∧ GpC w' A G ∧ m ≤ d ∧ UC w' B D ∧ Below w.heap.size w w'
theorem given2 (cu wi : Int) (A B : Option Addr) (c d n m : Nat) (l : List Gr) (D : List Int) (w : World) (hn : l.length = n) (hm : D.length = m) (hL : Kd.C k94 w A n l) (hc : n ≤ c) (hU : UC w B D) (hd : m ≤ d) (hl : n ≤ 1000000) (hD : m ≤ 1000000) :
    Calls Tryz.prog 22 #[.agg #[.int .u32 cu, .int .u32 wi, .slice A n c, .slice B m d]] w (Gv2 cu wi n m (l.map toG) D w) := by
  subst hn
  subst hm
  exact given_any cu wi A B c d l D w hL hc hU hd hl hD
theorem smake2 (cu wi : Int) (A B : Option Addr) (c d n m k : Nat) (G : List Gp) (D M : List Int) (w : World) (hn : G.length = n) (hm : D.length = m) (hM : sMd cu wi G D = M) (hk : M.length = k) (hS : GpC w A G) (hc : n ≤ c) (hU : UC w B D) (hd : m ≤ d) (hs : n + m ≤ 16379) :
    Calls Tryz.prog 21 #[.agg #[.int .u32 cu, .int .u32 wi, .slice A n c, .slice B m d]] w (fun e w' => ∃ A c, e = .returned (.tuple #[.agg #[.int .u8 3, .int .u8 0, .slice A k c, .slice none 0 0], .bool true]) ∧ k ≤ c ∧ BC w' A M ∧ Below w.heap.size w w') := by
  subst hn
  subst hm
  refine (smake_yes cu wi A B c d G D w hS hc hU hd hs).mono ?_
  rintro e w' ⟨v, rfl, hO, hb⟩
  obtain ⟨A', c', rfl, hcd, hbc, -⟩ := own_slice hO
  rw [hM] at hcd hbc ⊢
  rw [hk] at hcd ⊢
  exact ⟨A', c', rfl, hcd, hbc, hb⟩
set_option maxRecDepth 100000 in
theorem sof2 (cu wi : Int) (A : Option Addr) (c n m k : Nat) (G : List Gp) (D M : List Int) (w w0 : World) (hn : G.length = n) (hm : D.length = m) (hM : sMd cu wi G D = M) (hk : M.length = k) (hcu : U32 cu) (hwi : U32 wi) (hG : ∀ g ∈ G, g.ok) (hD : ∀ x ∈ D, U32 x) (hs : n + m ≤ 16379) (hC : BC w A M) (hc : k ≤ c) (hg : GTab w) :
    Calls Tryz.prog 23 #[ckV 3 0 A k c none 0 0] w (fun e w' => ∃ A c B d, e = .returned (.tuple #[.agg #[.int .u32 cu, .int .u32 wi, .slice A n c, .slice B m d], .bool true]) ∧ n ≤ c ∧ GpC w' A G ∧ m ≤ d ∧ UC w' B D ∧ Below w.heap.size w w') := by
  subst hn
  subst hm
  have h1 : G.length ≤ 65535 := by omega
  have h2 : D.length ≤ 65535 := by omega
  have hl := md_len (cu := cu) (wi := wi) hG h1 h2
  rw [hM] at hl
  have hB : Byt M := by rw [← hM]; exact md_byt hG h1 h2
  have he : E3 0 M 0 = none := by rw [← hM]; exact md_e3 hG h1 h2 hs
  subst hk
  refine (sof_yes 0 A none c 0 0 M w hC hB hc (by omega) (by omega) (by rw [← hM]; exact of_le hcu hwi hG hD h1 h2) (fun W hW => by
    have := check_3 0 A none c 0 0 M W (hg.below hW) (by omega) (hC.below hW) hB hc (by omega)
    rw [he] at this
    exact this)).mono ?_
  rintro e w' ⟨v, u, rfl, hv, hu, hb⟩
  rw [← hM] at hv hu ⊢
  rw [of_gs hcu hwi hG hD h1 h2] at hv
  rw [of_ds hcu hwi hG hD h1 h2] at hu
  rw [of_0 hcu hwi hG hD h1 h2, of_1 hcu hwi hG hD h1 h2]
  obtain ⟨A3, c3, rfl, hc3, hg3, -⟩ := ownG_read hv
  obtain ⟨A4, c4, rfl, hc4, hu4⟩ := ownU_read hu
  exact ⟨A3, c3, A4, c4, rfl, hc3, hg3, hc4, hu4, hb⟩
theorem scheck2 (cu wi : Int) (A : Option Addr) (c n m k : Nat) (G : List Gp) (D M : List Int) (w : World) (hn : G.length = n) (hm : D.length = m) (hM : sMd cu wi G D = M) (hk : M.length = k) (hG : ∀ g ∈ G, g.ok) (hs : n + m ≤ 16379) (hC : BC w A M) (hc : k ≤ c) (hg : GTab w) :
    Calls Tryz.prog 29 #[ckV 3 0 A k c none 0 0] w (IsPost .nilIface w) := by
  subst hn
  subst hm
  subst hk
  have h1 : G.length ≤ 65535 := by omega
  have h2 : D.length ≤ 65535 := by omega
  have hl := md_len (cu := cu) (wi := wi) hG h1 h2
  rw [hM] at hl
  have hB : Byt M := by rw [← hM]; exact md_byt hG h1 h2
  have he : E3 0 M 0 = none := by rw [← hM]; exact md_e3 hG h1 h2 hs
  have := check_3 0 A none c 0 0 M w hg (by omega) hC hB hc (by omega)
  rw [he] at this
  exact this
/-- What 'back' gives, for a reader. -/
def Bk4Post (cu wi : Int) (g : Nat) (l : List Gp) (u : Value) (w : World) (e : Ending) (w' : World) : Prop :=
  ∃ A c, e = .returned (.agg #[.int .u32 cu, .int .u32 wi, .slice A g c, u]) ∧ g ≤ c ∧ GpC w' A l ∧ Below w.heap.size w w'
theorem bk4_of {cu wi : Int} {g : Nat} {l : List Gp} {u : Value} {w w' : World} {e : Ending} (hg : l.length = g) (h : Bk2Post cu wi l u w e w') : Bk4Post cu wi g l u w e w' := by
  obtain ⟨A, c, rfl, hG, hb⟩ := h
  obtain ⟨A', c', e', hc, hr, -⟩ := ownG_read hG
  injection e' with e1 e2 e3
  subst e1
  subst e3
  rw [hg] at hc ⊢
  exact ⟨A, c, rfl, hc, hr, hb⟩
abbrev S12 (w0 : World) (p q r : Nat) (a0 a1 a2 a3 b0 b1 b2 b3 c0 c1 c2 c3 : Value) (W : World) : Prop := Below w0.heap.size w0 W ∧ W.cell? ⟨p, 0, none⟩ = some a0 ∧ W.cell? ⟨p, 1, none⟩ = some a1 ∧ W.cell? ⟨p, 2, none⟩ = some a2 ∧ W.cell? ⟨p, 3, none⟩ = some a3 ∧ W.cell? ⟨q, 0, none⟩ = some b0 ∧ W.cell? ⟨q, 1, none⟩ = some b1 ∧ W.cell? ⟨q, 2, none⟩ = some b2 ∧ W.cell? ⟨q, 3, none⟩ = some b3 ∧ W.cell? ⟨r, 0, none⟩ = some c0 ∧ W.cell? ⟨r, 1, none⟩ = some c1 ∧ W.cell? ⟨r, 2, none⟩ = some c2 ∧ W.cell? ⟨r, 3, none⟩ = some c3
theorem S12.blw {w0 W W' : World} {p q r : Nat} {a0 a1 a2 a3 b0 b1 b2 b3 c0 c1 c2 c3 : Value} (h : S12 w0 p q r a0 a1 a2 a3 b0 b1 b2 b3 c0 c1 c2 c3 W) (hb : Below W.heap.size W W') : S12 w0 p q r a0 a1 a2 a3 b0 b1 b2 b3 c0 c1 c2 c3 W' :=
  have k : ∀ {p : Addr} {v : Value}, W.cell? p = some v → W'.cell? p = some v := fun h => (hb.cell (World.block_lt_of_cell? W _ h)).trans h
  ⟨cthen h.1 hb, k h.2.1, k h.2.2.1, k h.2.2.2.1, k h.2.2.2.2.1, k h.2.2.2.2.2.1, k h.2.2.2.2.2.2.1, k h.2.2.2.2.2.2.2.1, k h.2.2.2.2.2.2.2.2.1, k h.2.2.2.2.2.2.2.2.2.1, k h.2.2.2.2.2.2.2.2.2.2.1, k h.2.2.2.2.2.2.2.2.2.2.2.1, k h.2.2.2.2.2.2.2.2.2.2.2.2⟩
theorem made_u (n : Nat) : (madeCells (Value.int .u32 0).cells (n * 1)).toList = (List.replicate n (0 : Int)).map (Value.int .u32) := by
  have hz : (Value.int .u32 0).cells = #[.int .u32 0] := rfl
  rw [hz]
  apply List.ext_getElem?
  intro j
  unfold madeCells
  rw [Array.getElem?_toList, Array.getElem?_map, Array.getElem?_range, List.getElem?_map, List.getElem?_replicate]
  rcases Nat.lt_or_ge j n with h | h
  · rw [if_pos (by omega), if_pos h]
    simp [Nat.mod_one]
  · rw [if_neg (by omega), if_neg (by omega)]
    rfl
theorem zeros_u32 (n : Nat) : ∀ x ∈ List.replicate n (0 : Int), U32 x := fun x hx => by
  rw [List.eq_of_mem_replicate hx]
  exact ⟨by omega, by omega⟩
theorem le_sum {L n : Nat} (h : 16300 ≤ L ∧ L ≤ 16499) (hn : n ≤ 100) (hs : (L : Int) + (n : Int) ≤ 16379) : (wrap64 ((L : Int) + (n : Int)) ≤ 16379) = True := by
  have e : wrap64 ((L : Int) + (n : Int)) = (L : Int) + (n : Int) := by unfold wrap64; omega
  rw [e]
  exact eq_true hs
theorem gt_sum {L n : Nat} (h : 16300 ≤ L ∧ L ≤ 16499) (hn : n ≤ 100) (hs : ¬ ((L : Int) + (n : Int) ≤ 16379)) : (wrap64 ((L : Int) + (n : Int)) ≤ 16379) = False := by
  have e : wrap64 ((L : Int) + (n : Int)) = (L : Int) + (n : Int) := by unfold wrap64; omega
  rw [e]
  exact eq_false hs
theorem bcnil (w : World) : BC w none [] := ⟨rfl, by simp, fun h => absurd h (by simp)⟩
set_option maxRecDepth 100000 in
set_option maxHeartbeats 8000000 in
theorem law5_any (cu wi more : Int) (A B : Option Addr) (c d : Nat) (l : List Gr) (D : List Int) (w : World) (hcu : U32 cu) (hwi : U32 wi) (hmore : 0 ≤ more ∧ more ≤ 65535) (hL : KR w A l) (hc : l.length ≤ c) (hU : UC w B D) (hd : D.length ≤ d) (hok : ∀ g ∈ l.map toG, g.ok) (hD : ∀ x ∈ D, U32 x) (hg : GTab w) :
    Calls Tryz.prog 5 #[.agg #[.int .u32 cu, .int .u32 wi, .slice A l.length c, .slice B D.length d], .int .u16 more] w (IsPost (.bool true) w) := by
  have hA := sawake_any (w.alloc (.cells #[.int .u32 cu, .int .u32 wi, .slice A l.length c, .slice B D.length d] 44)) (hg.below (below_alloc (Below.refl _ _) _))
  have hF := fun W hW => sfew_any cu wi A B c d l D W (Kd.C_below hL hW) hc (hU.below hW) hd
  have HFW := hid hF
  obtain ⟨bF, hbF⟩ : ∃ b, fewB l D = b := ⟨_, rfl⟩
  obtain ⟨n, hn⟩ : ∃ n, l.length = n := ⟨_, rfl⟩
  obtain ⟨m, hm⟩ : ∃ m, D.length = m := ⟨_, rfl⟩
  rw [hn] at hc hA ⊢
  rw [hm] at hd hA ⊢
  rw [hn, hm, hbF] at HFW
  obtain ⟨G, hG⟩ : ∃ G, l.map toG = G := ⟨_, rfl⟩
  have hGn : G.length = n := by rw [← hG, List.length_map, hn]
  rw [hG] at hok
  have HBX := hid (blk_new w (.cells #[.int .u32 cu, .int .u32 wi, .slice A n c, .slice B m d] 44))
  have HB0 := hid (below_alloc (Below.refl w.heap.size w) (.cells #[.int .u32 cu, .int .u32 wi, .slice A n c, .slice B m d] 44))
  have HL : Hid (Kd.C k94 w A n l) := hid (by rw [← hn]; exact hL)
  have HU := hid hU
  have HG := hid hg
  have HC := hid hc
  have HD := hid hd
  have HN := hid hn
  have HM := hid hm
  have HGG := hid hG
  have HGN := hid hGn
  have HOK := hid hok
  have HDU := hid hD
  have HCU := hid hcu
  have HWI := hid hwi
  have HMO := hid hmore
  have HBF := hid hbF
  clear hL hU hg hc hd hn hm hG hGn hok hD hcu hwi hmore hF hbF
  go_enter Tryz.func5, Tryz.ntmps5
  go_wp2_with fail
  refine hA.mono ?_
  rintro e w1 ⟨rfl, hb⟩
  have HB1 := hid (cthen HB0.out hb)
  have HX1 := hid (blk_below HBX.out hb)
  have hF := HFW.out w1 HB1.out
  obtain ⟨⟨q0, q1, q2, q3⟩, -⟩ := four HX1.out
  clear hA hb
  go_wp2_with fail
  refine hF.mono ?_
  rintro e w2 ⟨rfl, hb⟩
  have HB2 := hid (cthen HB1.out hb)
  have HX2 := hid (blk_below HX1.out hb)
  clear hF hb q0 q1 q2 q3
  cases bF with
  | false =>
    have hA := sawake_any _ (HG.out.below HB2.out)
    go_wp2_with fail
    refine hA.mono ?_
    rintro e w3 ⟨rfl, hb⟩
    have HB3 := hid (cthen HB2.out hb)
    clear hb hA
    go_wp2_with fail
    go_ret
    exact ⟨rfl, HB3.out⟩
  | true =>
    have HFEW := hid (show n ≤ 100 ∧ m ≤ 100 by have h := HBF.out; unfold fewB at h; rw [HN.out, HM.out] at h; simpa using h)
    obtain ⟨M, hM⟩ : ∃ M, sMd cu wi G D = M := ⟨_, rfl⟩
    obtain ⟨k, hk⟩ : ∃ k, M.length = k := ⟨_, rfl⟩
    have HMM := hid hM
    have HK := hid hk
    obtain ⟨⟨q0, q1, q2, q3⟩, -⟩ := four HX2.out
    have hgv := given2 cu wi A B c d n m l D w2 HN.out HM.out (Kd.C_below HL.out HB2.out) HC.out (HU.out.below HB2.out) HD.out (by have := HFEW.out; omega) (by have := HFEW.out; omega)
    rw [HGG.out] at hgv
    clear hM hk
    go_wp2_with fail
    refine hgv.mono ?_
    rintro e w3 ⟨A3, c3, B3, d3, rfl, hc3, hg3, hd3, hu3, hb3⟩
    have HB3 := hid (cthen HB2.out hb3)
    have HX3 := hid (blk_below HX2.out hb3)
    have hmk := smake2 cu wi A3 B3 c3 d3 n m k G D M w3 HGN.out HM.out HMM.out HK.out hg3 hc3 hu3 hd3 (by have := HFEW.out; omega)
    clear hgv hc3 hg3 hd3 hu3 hb3 q0 q1 q2 q3
    go_wp2_with fail
    refine hmk.mono ?_
    rintro e w4 ⟨Ad, cd, rfl, hcd, hbc, hb4⟩
    have HB4 := hid (cthen HB3.out hb4)
    have HX4 := hid (blk_below HX3.out hb4)
    have HCD := hid hcd
    have HBC := hid hbc
    clear hmk hcd hbc hb4
    go_upto_region 4 with fail
    obtain ⟨S5, hS5⟩ : ∃ S5, w4.alloc (.cells #[.int .u8 3, .int .u8 0, .slice Ad k cd, .slice none 0 0] 35) = S5 := ⟨_, rfl⟩
    have hbS : Below w4.heap.size w4 S5 := by rw [← hS5]; exact below_alloc (Below.refl _ _) _
    have HP5 := hid (show S5.heap[w4.heap.size]? = some (.cells #[.int .u8 3, .int .u8 0, .slice Ad k cd, .slice none 0 0] 35 (0, 0)) by rw [← hS5]; exact blk_new w4 _)
    have HB5 := hid (cthen HB4.out hbS)
    have HX5 := hid (blk_below HX4.out hbS)
    have HBC5 := hid (HBC.out.below hbS)
    rw [hS5]
    clear hS5 hbS
    obtain ⟨⟨p0, p1, p2, p3⟩, -⟩ := four HP5.out
    have hof := sof2 cu wi Ad cd n m k G D M S5 S5 HGN.out HM.out HMM.out HK.out HCU.out HWI.out HOK.out HDU.out (by have := HFEW.out; omega) HBC5.out HCD.out (HG.out.below HB5.out)
    unfold ckV at hof
    go_wp2_with fail
    refine hof.mono ?_
    rintro e w6 ⟨A6, c6, B6, d6, rfl, hc6, hg6, hd6, hu6, hb6⟩
    have HB6 := hid (cthen HB5.out hb6)
    have HX6 := hid (blk_below HX5.out hb6)
    have HP6 := hid (blk_below HP5.out hb6)
    have HBC6 := hid (HBC5.out.below hb6)
    have HC6 := hid hc6
    have HG6 := hid hg6
    have HD6 := hid hd6
    have HU6 := hid hu6
    clear hof hc6 hg6 hd6 hu6 hb6 p0 p1 p2 p3
    go_upto_region 5 with fail
    obtain ⟨S7, hS7⟩ : ∃ S7, w6.alloc (.cells #[.int .u32 cu, .int .u32 wi, .slice A6 n c6, .slice B6 m d6] 49) = S7 := ⟨_, rfl⟩
    have hbS : Below w6.heap.size w6 S7 := by rw [← hS7]; exact below_alloc (Below.refl _ _) _
    have HY7 := hid (show S7.heap[w6.heap.size]? = some (.cells #[.int .u32 cu, .int .u32 wi, .slice A6 n c6, .slice B6 m d6] 49 (0, 0)) by rw [← hS7]; exact blk_new w6 _)
    have HB7 := hid (cthen HB6.out hbS)
    have HX7 := hid (blk_below HX6.out hbS)
    have HP7 := hid (blk_below HP6.out hbS)
    have HBC7 := hid (HBC6.out.below hbS)
    have HG7 := hid (HG6.out.below hbS)
    have HU7 := hid (HU6.out.below hbS)
    rw [hS7]
    clear hS7 hbS
    obtain ⟨⟨p0, p1, p2, p3⟩, -⟩ := four HP7.out
    obtain ⟨⟨y0, y1, y2, y3⟩, -⟩ := four HY7.out
    obtain ⟨⟨q0, q1, q2, q3⟩, -⟩ := four HX7.out
    have hS0 : S12 S7 w4.heap.size w6.heap.size w.heap.size (.int .u8 3) (.int .u8 0) (.slice Ad k cd) (.slice none 0 0) (.int .u32 cu) (.int .u32 wi) (.slice A6 n c6) (.slice B6 m d6) (.int .u32 cu) (.int .u32 wi) (.slice A n c) (.slice B m d) S7.drew := ⟨below_drew (Below.refl _ _) 1, p0, p1, p2, p3, y0, y1, y2, y3, q0, q1, q2, q3⟩
    unfold S12 at hS0
    have HL7 := hid (Kd.C_below HL.out HB7.out)
    have HV7 := hid (HU.out.below HB7.out)
    have HR7 : Hid (GpC S7 A G) := hid (by rw [← HGG.out]; exact gpc_of_kr HL7.out)
    have C1 := hid (fun W (hW : Below S7.heap.size S7 W) => rmake_any cu wi A B c d n m k G D M W HGN.out HM.out HMM.out HK.out (HR7.out.below hW) (HV7.out.below hW) HD.out (by have := HFEW.out; omega) (by have := HFEW.out; omega))
    have C3 := hid (fun W (hW : Below S7.heap.size S7 W) => show Calls Tryz.prog 27 #[.agg #[.int .u32 cu, .int .u32 wi, .slice A6 n c6, .slice B6 m d6]] W (Bk4Post cu wi n G (.slice B6 m d6) W) by
      have := sbk_any cu wi A6 B6 c6 m d6 G W (HG7.out.below hW) (by rw [HGN.out]; have := HFEW.out; omega)
      rw [HGN.out] at this
      exact this.mono (fun e w' h => bk4_of HGN.out h))
    have C5 := hid (fun W (hW : Below S7.heap.size S7 W) => show Calls Tryz.prog 22 #[.agg #[.int .u32 cu, .int .u32 wi, .slice A n c, .slice B m d]] W (Gv2 cu wi n m G D W) by
      have := given2 cu wi A B c d n m l D W HN.out HM.out (Kd.C_below HL7.out hW) HC.out (HV7.out.below hW) HD.out (by have := HFEW.out; omega) (by have := HFEW.out; omega)
      rw [HGG.out] at this
      exact this)
    have C7 := hid (fun W (hW : Below S7.heap.size S7 W) => show Calls Tryz.prog 29 #[.agg #[.int .u8 3, .int .u8 0, .slice Ad k cd, .slice none 0 0]] W (IsPost .nilIface W) from scheck2 cu wi Ad cd n m k G D M W HGN.out HM.out HMM.out HK.out HOK.out (by have := HFEW.out; omega) (HBC7.out.below hW) HCD.out (HG.out.below (cthen HB7.out hW)))
    have C2 := hid (fun W (Ar K : Option Addr) (cr dr : Nat) (hW : Below S7.heap.size S7 W) (hA : BC W Ar M) (hcr : k ≤ cr) => show Calls Tryz.prog 24 #[.agg #[.int .u8 3, .int .u8 0, .slice Ad k cd, .slice none 0 0], ckV 3 0 Ar k cr K 0 dr] W (IsPost (.bool true) W) by
      have := same12_any 3 0 Ad Ar none K cd cr 0 dr M W (HBC7.out.below hW) hA (by rw [HK.out]; exact HCD.out) (by rw [HK.out]; exact hcr) (by rw [HK.out]; have h1 := md_len (cu := cu) (wi := wi) HOK.out (by rw [HGN.out]; have := HFEW.out; omega) (by rw [HM.out]; have := HFEW.out; omega); rw [HMM.out, HK.out, HGN.out, HM.out] at h1; have := HFEW.out; omega)
      rw [HK.out] at this
      exact this)
    clear p0 p1 p2 p3 y0 y1 y2 y3 q0 q1 q2 q3
    go_wp2_with fail
    unfold ckV at C2
    go_region_held3 (fun W => Below S7.heap.size S7 W ∧ W.cell? ⟨w4.heap.size, 0, none⟩ = some (.int .u8 3) ∧ W.cell? ⟨w4.heap.size, 1, none⟩ = some (.int .u8 0) ∧ W.cell? ⟨w4.heap.size, 2, none⟩ = some (.slice Ad k cd) ∧ W.cell? ⟨w4.heap.size, 3, none⟩ = some (.slice none 0 0) ∧ W.cell? ⟨w6.heap.size, 0, none⟩ = some (.int .u32 cu) ∧ W.cell? ⟨w6.heap.size, 1, none⟩ = some (.int .u32 wi) ∧ W.cell? ⟨w6.heap.size, 2, none⟩ = some (.slice A6 n c6) ∧ W.cell? ⟨w6.heap.size, 3, none⟩ = some (.slice B6 m d6) ∧ W.cell? ⟨w.heap.size, 0, none⟩ = some (.int .u32 cu) ∧ W.cell? ⟨w.heap.size, 1, none⟩ = some (.int .u32 wi) ∧ W.cell? ⟨w.heap.size, 2, none⟩ = some (.slice A n c) ∧ W.cell? ⟨w.heap.size, 3, none⟩ = some (.slice B m d))
      (first | with_reducible assumption | (refine S12.blw ?_ (by with_reducible assumption); with_reducible assumption))
      (first
        | (go_at_call 25; refine Calls.mono (C1.out _ (And.left (by with_reducible assumption))) ?_; unfold CkPost ckV; rintro e W ⟨A8, c8, K8, e8, rfl, hc8, hg8, hb⟩)
        | (go_at_call 24; refine Calls.mono (C2.out _ A8 K8 c8 e8 (And.left (by with_reducible assumption)) (by with_reducible exact hg8) hc8) ?_; rintro e W ⟨rfl, hb⟩)
        | (go_at_call 27; refine Calls.mono (C3.out _ (And.left (by with_reducible assumption))) ?_; rintro e W ⟨A9, c9, rfl, hc9, hg9, hb⟩)
        | (go_at_call 26; refine Calls.mono (rsame_any cu wi A9 A B6 B c9 c d6 d n m G D _ HGN.out HM.out (by with_reducible exact hg9) (HR7.out.below (And.left (by with_reducible assumption))) (HU7.out.below (And.left (by with_reducible assumption))) (HV7.out.below (And.left (by with_reducible assumption))) (by have := HFEW.out; omega) (by have := HFEW.out; omega)) ?_; rintro e W ⟨rfl, hb⟩)
        | (go_at_call 22; refine Calls.mono (C5.out _ (And.left (by with_reducible assumption))) ?_; rintro e W ⟨A10, c10, B10, d10, rfl, hc10, hg10, hd10, hu10, hb⟩)
        | (go_at_call 28; refine Calls.mono (ssame_any cu wi A6 A10 B6 B10 c6 c10 d6 d10 n m G D _ HGN.out HM.out (HG7.out.below (And.left (by with_reducible assumption))) HC6.out (by with_reducible exact hg10) hc10 (HU7.out.below (And.left (by with_reducible assumption))) HD6.out (by with_reducible exact hu10) hd10 (by have := HFEW.out; omega) (by have := HFEW.out; omega)) ?_; rintro e W ⟨rfl, hb⟩)
        | (go_at_call 29; refine Calls.mono (C7.out _ (And.left (by with_reducible assumption))) ?_; rintro e W ⟨rfl, hb⟩))
    all_goals
      have HW7 := hid (show Below S7.heap.size S7 W from And.left (by with_reducible assumption))
      have HB8 := hid (cthen HB7.out HW7.out)
      obtain ⟨⟨q0, q1, q2, q3⟩, -⟩ := four (blk_below HX7.out HW7.out)
      have HXW := hid (blk_below HX7.out HW7.out)
      have hgv2 := C5.out W HW7.out
      obtain ⟨i0, hi0, hz0, hz1, hz2⟩ := info_parts infoU
      go_wp2_with fail
      refine hgv2.mono ?_
      rintro e w8 ⟨Ag, ca, Bg, da, rfl, hca, hga, hda, hua, hb8⟩
      have HB9 := hid (cthen HB8.out hb8)
      have HX8 := hid (blk_below HXW.out hb8)
      have HCA := hid hca
      have HGA := hid hga
      clear hgv2 hca hga hda hua hb8 q0 q1 q2 q3
      go_upto_region 8 with fail
      obtain ⟨S9, hS9⟩ : ∃ S9, w8.alloc (.cells #[.int .u32 cu, .int .u32 wi, .slice Ag n ca, .slice Bg m da] 49) = S9 := ⟨_, rfl⟩
      have hbS : Below w8.heap.size w8 S9 := by rw [← hS9]; exact below_alloc (Below.refl _ _) _
      have HZ9 := hid (show S9.heap[w8.heap.size]? = some (.cells #[.int .u32 cu, .int .u32 wi, .slice Ag n ca, .slice Bg m da] 49 (0, 0)) by rw [← hS9]; exact blk_new w8 _)
      have HBS9 := hid hbS
      rw [hS9]
      clear hS9 hbS
      obtain ⟨L, hL, hL0, hL1⟩ : ∃ L : Nat, wrap64 (16300 + more.tmod 200) = (L : Int) ∧ 16300 ≤ L ∧ L ≤ 16499 := by
        have h := HMO.out
        refine ⟨(16300 + more % 200).toNat, ?_, by omega, by omega⟩
        rw [Int.tmod_eq_emod_of_nonneg h.1]
        unfold wrap64
        omega
      have HLB := hid (show 16300 ≤ L ∧ L ≤ 16499 from ⟨hL0, hL1⟩)
      have hm1 : wrap64 more = more := by have h := HMO.out; unfold wrap64; omega
      have hm2 : wrap64 (more.tmod 200) = more.tmod 200 := by have h := HMO.out; rw [Int.tmod_eq_emod_of_nonneg h.1]; unfold wrap64; omega
      have hbase := hid (Nat.le_refl S9.heap.size)
      clear hL0 hL1
      obtain ⟨⟨q0, q1, q2, q3⟩, ⟨r0, r1, r2, r3⟩⟩ := four HZ9.out
      go_upto_region 9 with (refine wpList_make_full _ rfl _ _ 42 rfl S9.heap.size 23 i0 _ 1 Tryz.underlying42 hi0 hz0 hz1 .i64 .i64 _ _ L rfl rfl (by first | exact hL | rfl) (by first | exact hL | rfl) (by rw [hz2]; have := HLB.out; omega) (by have := HLB.out; unfold maxLen; omega) hbase.out ?_; intro w10 hown hgrow; have HOW := hid hown; have HGR := hid hgrow; have HZ10 := hid (show w10.heap[w8.heap.size]? = some (.cells #[.int .u32 cu, .int .u32 wi, .slice Ag n ca, .slice Bg m da] 49 (0, 0)) by rw [hgrow.block _ (Array.getElem?_eq_some_iff.1 HZ9.out).1 (by simp)]; exact HZ9.out); clear hown hgrow q0 q1 q2 q3 r0 r1 r2 r3; obtain ⟨⟨q0, q1, q2, q3⟩, ⟨r0, r1, r2, r3⟩⟩ := four HZ10.out)
      clear hm1 hm2 hL
      have HOZ := hid (show OwnU w10 S9.heap.size (.slice (some ⟨S9.heap.size, 0, none⟩) L L) (List.replicate L 0) by
        have h9 := HOW.out
        rw [made_u] at h9
        unfold OwnU
        rw [List.length_replicate]
        exact h9)
      have HB10 := hid (show Below S9.heap.size S9 w10 from (Below.refl _ _).grown HGR.out (Nat.le_refl _) (fun k hk => by cases hk))
      have HNE := hid (show w8.heap.size ≠ S9.heap.size by have := (Array.getElem?_eq_some_iff.1 HZ9.out).1; omega)
      obtain ⟨S11, hS11⟩ : ∃ S11, w10.setCell ⟨w8.heap.size, 3, none⟩ (.slice (some ⟨S9.heap.size, 0, none⟩) L L) = S11 := ⟨_, rfl⟩
      have HB11 := hid (show Below w8.heap.size w8 S11 by rw [← hS11]; exact below_set (cthen HBS9.out HB10.out) (Nat.le_refl _) _)
      have HZ11 := hid (show S11.heap[w8.heap.size]? = some (.cells #[.int .u32 cu, .int .u32 wi, .slice Ag n ca, .slice (some ⟨S9.heap.size, 0, none⟩) L L] 49 (0, 0)) by rw [← hS11]; exact set_blk' HZ10.out 3 _)
      have HU11 : Hid (UC S11 (some ⟨S9.heap.size, 0, none⟩) (List.replicate L 0)) := hid (by
        have h9 : OwnU S11 S9.heap.size (.slice (some ⟨S9.heap.size, 0, none⟩) L L) (List.replicate L 0) := by
          rw [← hS11]
          exact ownsRow_setCell_other HOZ.out (by simp only [Value.ownBlock]; intro e; injection e with e; exact HNE.out e.symm) _
        obtain ⟨A', c', e, -, hu⟩ := ownU_read h9
        injection e with e1 e2 e3
        subst e1
        exact hu)
      have HX11 := hid (blk_below HX8.out HB11.out)
      have HBF := hid (cthen HB9.out HB11.out)
      have HGA11 := hid (HGA.out.below HB11.out)
      rw [hS11]
      clear hS11 q0 q1 q2 q3 r0 r1 r2 r3
      obtain ⟨⟨q0, q1, q2, q3⟩, -⟩ := four HZ11.out
      obtain ⟨⟨p0, p1, p2, p3⟩, -⟩ := four HX11.out
      by_cases hfit : n + L ≤ 16379
      · obtain ⟨M', hM'⟩ : ∃ M', sMd cu wi G (List.replicate L 0) = M' := ⟨_, rfl⟩
        obtain ⟨k', hk'⟩ : ∃ k', M'.length = k' := ⟨_, rfl⟩
        have HMM' := hid hM'
        have HK' := hid hk'
        have hmk := smake2 cu wi Ag (some ⟨S9.heap.size, 0, none⟩) ca L n L k' G (List.replicate L 0) M' S11 HGN.out (by simp) hM' hk' HGA11.out HCA.out HU11.out (Nat.le_refl _) (by omega)
        have HFZ := hid (show (L : Int) + (n : Int) ≤ 16379 by omega)
        clear hM' hk'
        go_wp2_with fail
        refine hmk.mono ?_
        rintro e w12 ⟨Az, cz, rfl, hcz, hbz, hb12⟩
        have HCZ := hid hcz
        have HBZ := hid hbz
        have HB12 := hid (cthen HBF.out hb12)
        have HZ12 := hid (blk_below HZ11.out hb12)
        have HX12 := hid (blk_below HX11.out hb12)
        clear hmk hcz hbz hb12 q0 q1 q2 q3 p0 p1 p2 p3
        go_upto_region 10 with fail
        obtain ⟨S13, hS13⟩ : ∃ S13, w12.alloc (.cells #[.int .u8 3, .int .u8 0, .slice Az k' cz, .slice none 0 0] 35) = S13 := ⟨_, rfl⟩
        have hbS : Below w12.heap.size w12 S13 := by rw [← hS13]; exact below_alloc (Below.refl _ _) _
        have HP13 := hid (show S13.heap[w12.heap.size]? = some (.cells #[.int .u8 3, .int .u8 0, .slice Az k' cz, .slice none 0 0] 35 (0, 0)) by rw [← hS13]; exact blk_new w12 _)
        have HB13 := hid (cthen HB12.out hbS)
        have HBS13 := hid hbS
        obtain ⟨⟨q0, q1, q2, q3⟩, -⟩ := four (blk_below HZ12.out hbS)
        obtain ⟨⟨p0, p1, p2, p3⟩, -⟩ := four (blk_below HX12.out hbS)
        obtain ⟨⟨y0, y1, y2, y3⟩, -⟩ := four HP13.out
        rw [hS13]
        clear hS13 hbS
        have hck := scheck2 cu wi Az cz n L k' G (List.replicate L 0) M' S13 HGN.out (by simp) HMM'.out HK'.out HOK.out (by omega) (HBZ.out.below HBS13.out) HCZ.out (HG.out.below HB13.out)
        unfold ckV at hck
        have hsum : (wrap64 ((L : Int) + (n : Int)) ≤ 16379) = True := le_sum HLB.out HFEW.out.1 HFZ.out
        go_wp2_with fail
        refine hck.mono ?_
        rintro e w14 ⟨rfl, hb14⟩
        have HB14 := hid (cthen HB13.out hb14)
        clear hck hb14
        go_wp2_with fail
        go_ret
        exact ⟨rfl, HB14.out⟩
      · have HFZ := hid (show ¬ ((L : Int) + (n : Int) ≤ 16379) by omega)
        have hmk := smake_no cu wi Ag (some ⟨S9.heap.size, 0, none⟩) ca L n L S11 (by have := HFEW.out; omega) (by have := HLB.out; omega) hfit
        go_wp2_with fail
        refine hmk.mono ?_
        rintro e w12 ⟨rfl, hb12⟩
        have HB12 := hid (cthen HBF.out hb12)
        have HZ12 := hid (blk_below HZ11.out hb12)
        have HX12 := hid (blk_below HX11.out hb12)
        clear hmk hb12 q0 q1 q2 q3 p0 p1 p2 p3
        go_upto_region 10 with fail
        obtain ⟨S13, hS13⟩ : ∃ S13, w12.alloc (.cells #[.int .u8 0, .int .u8 0, .slice none 0 0, .slice none 0 0] 35) = S13 := ⟨_, rfl⟩
        have hbS : Below w12.heap.size w12 S13 := by rw [← hS13]; exact below_alloc (Below.refl _ _) _
        have HP13 := hid (show S13.heap[w12.heap.size]? = some (.cells #[.int .u8 0, .int .u8 0, .slice none 0 0, .slice none 0 0] 35 (0, 0)) by rw [← hS13]; exact blk_new w12 _)
        have HB13 := hid (cthen HB12.out hbS)
        have HBS13 := hid hbS
        obtain ⟨⟨q0, q1, q2, q3⟩, -⟩ := four (blk_below HZ12.out hbS)
        obtain ⟨⟨p0, p1, p2, p3⟩, -⟩ := four (blk_below HX12.out hbS)
        obtain ⟨⟨y0, y1, y2, y3⟩, -⟩ := four HP13.out
        rw [hS13]
        clear hS13 hbS
        have hck := same12_any 0 0 none none none none 0 0 0 0 [] S13 (bcnil _) (bcnil _) (by simp) (by simp) (by simp)
        unfold ckV at hck
        have hsum : (wrap64 ((L : Int) + (n : Int)) ≤ 16379) = False := gt_sum HLB.out HFEW.out.1 (by have := HFZ.out; omega)
        go_wp2_with fail
        refine hck.mono ?_
        rintro e w14 ⟨rfl, hb14⟩
        have HB14 := hid (cthen HB13.out hb14)
        clear hck hb14
        go_wp2_with fail
        go_ret
        exact ⟨rfl, HB14.out⟩
end Sk14
end Go.Proofs.YtcjcgehhmjnlcaaGreatDoor
