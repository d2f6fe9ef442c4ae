/- 'wharfref08.All', 'wharfref12.Size', and the flags of the reference implementation. -/
import Derived.Test.YtmfmomfhiieilaaGreatDoorBrc
import Derived.Test.YtmfmomfhiieilaaGreatDoorBns
set_option linter.unusedVariables false
set_option linter.unusedSimpArgs false
namespace Go.Proofs.YtmfmomfhiieilaaGreatDoor
open Go.RowKit Go.Shelf Go.Proofs.YtmfmomfhiieilaaGreatDoor.It Go.Proofs.YtmfmomfhiieilaaGreatDoorW.PrintWords Go.Proofs.YtmfmomfhiieilaaGreatDoorW.PrintLast Go.Proofs.YtmfmomfhiieilaaGreatDoorW.PrintMore
namespace Bn
open PBundleSorted
set_option maxRecDepth 100000 in
set_option maxHeartbeats 2000000 in
theorem rall_any (C : Int) (K : Option Addr) (m d : Nat) (xs : List Nd) (w : World) (hm : xs.length = m) (hcn : cnts xs ≤ 1000) (hok : okL xs) (hK : Kd.C k87 w K m xs) :
    Calls Tryz.prog 62 #[.int .i64 C, .slice K m d] w (IsPost (.int .i64 (fstE (xs.map (pchk 4 C)))) w) := by
  have HM := hid hm
  have HCN := hid hcn
  have HOKL := hid hok
  have HK := hid hK
  have HB0 := hid (Below.refl w.heap.size w)
  obtain ⟨R, hR⟩ : ∃ R, fstE (xs.map (pchk 4 C)) = R := ⟨_, rfl⟩
  rw [hR]
  have HRR := hid hR
  clear hm hcn hok hK hR
  go_enter Tryz.func62, Tryz.ntmps62
  go_wp2_with fail
  go_loopw [5] (fun vi W => ∃ i : Nat, vi = .int .i64 i ∧ i ≤ m ∧ Hid (fstE ((xs.take i).map (pchk 4 C)) = 0) ∧ Hid (Below w.heap.size w W)) (fun vi _ => m - (intOf vi).toNat)
  case atStart => exact ⟨0, rfl, by omega, hid rfl, HB0⟩
  case round =>
    obtain ⟨i, rfl, hi, hF, hI⟩ := hrel
    by_cases hlt : i < m
    · have hil : i < xs.length := by have := HM.out; omega
      obtain ⟨b, off, E1, e1, E2, e2, rfl, k0, k1, k2, l1, g1, l2, g2⟩ := node_at (Kd.C_below HK.out hI.out) i hil
      have hoky := okL_at _ HOKL.out _ (List.getElem_mem hil)
      have hcy := cnts_at _ _ (List.getElem_mem hil)
      have hcn := HCN.out
      have hft := fst_take (pchk 4 C) xs i hil
      have hfs := fst_stop (pchk 4 C) xs i hil hF.out
      rw [if_pos hF.out] at hft
      obtain ⟨y, hy⟩ : ∃ y, xs[i] = y := ⟨_, rfl⟩
      rw [hy] at k0 k1 k2 l1 g1 l2 g2 hoky hcy hft hfs
      obtain ⟨n1, hn1⟩ : ∃ m, y.f1.length = m := ⟨_, rfl⟩
      obtain ⟨n2, hn2⟩ : ∃ m, y.f2.length = m := ⟨_, rfl⟩
      rw [hn1] at k1 l1
      rw [hn2] at k2 l2 g2
      have hml : m ≤ 1000 := by have := len_cnts xs; have := HM.out; omega
      have HWI := hid (show wrap64 ((i : Int) + 1) = ((i + 1 : Nat) : Int) by unfold wrap64; omega)
      have hcall := rcheck_any 4 (by omega) C y E1 E2 n1 e1 n2 e2 wr hn1 hn2 (by omega) hoky g1 l1 g2 l2
      have e1' : (5 : Int) - ((4 : Nat) : Int) = 1 := by omega
      rw [e1'] at hcall
      obtain ⟨r, hr⟩ : ∃ r, pchk 4 C y = r := ⟨_, rfl⟩
      rw [hr] at hcall hft hfs
      have HFT := hid hft
      have HFS := hid hfs
      clear hy hn1 hn2 hml hoky hcy hcn hft hfs l1 l2 g1 g2 hr hil e1'
      go_wp2_with fail
      refine hcall.mono ?_
      rintro e w9 ⟨rfl, hb⟩
      have B9 := hid (cthen hI.out hb)
      clear hb hcall k0 k1 k2
      by_cases hr0 : r = 0
      · subst hr0
        go_wp2_with fail
        exact ⟨⟨i + 1, by rw [HWI.out], hlt, hid HFT.out, hid B9.out⟩, by rw [HWI.out]; simp only [intOf, Int.toNat_natCast]; omega⟩
      · have hrb : (r != 0) = true := by simpa using hr0
        have HP := hid (HFS.out hr0)
        clear hr0
        go_wp2_with fail
        go_ret
        exact ⟨by rw [← HRR.out, HP.out]; rfl, B9.out⟩
    · obtain rfl : i = m := by omega
      have hall := hF.out
      rw [← HM.out, List.take_length] at hall
      have HZ := hid (show R = 0 by rw [← HRR.out]; exact hall)
      clear hall
      go_wp2_with fail
      go_ret
      exact ⟨by rw [HZ.out]; rfl, hI.out⟩
theorem rsize12_any (t f : Int) (A K : Option Addr) (n c m d : Nat) (D : List Int) (xs : List Nd) (w : World) (hn : D.length = n) (hm : xs.length = m) (hC : BC w A D) (hc : n ≤ c) (hK : Kd.C k87 w K m xs) (hd : m ≤ d) (hcn : cnts xs ≤ 1000) (hl : n ≤ 1000000) : Calls Tryz.prog 32 #[ckV t f A n c K m d] w (IsPost (.int .i64 ((4 + n + szs (nszs xs) : Nat) : Int)) w) := by
  subst hn
  subst hm
  have hbd := nszs_bd xs
  have hev : Ev (fun k => wharfref12_Size.f k t f D xs) ((4 + D.length + szs (nszs xs) : Nat) : Int) := by
    unfold wharfref12_Size.f
    refine Ev.bind (f := fun k t213 => some (wrap64 ((wrap64 (4 + (D.length : Int))) + t213))) (rsize_ev 1000 xs hcn (Nat.le_refl _)) ?_
    rw [wrap_sum (x := D.length) (y := szs (nszs xs)) (N := 4 + D.length + szs (nszs xs)) (by omega) (by omega)]
    exact Ev.now _
  obtain ⟨k, hk⟩ := hev.rounds
  exact (wharfref12_Size.calls k t f A c D K d xs _ w hC hc hK hd hk).mono (fun e w' h => h)
/-- The flags of a chunk. -/
theorem flags_iff (f m : Int) (hf0 : 0 ≤ f) (hf1 : f ≤ 255) (hm : m = 0 ∨ m = 1 ∨ m = 15) : (bits .and .i64 f (255 - m) != 0) = (flagsE f m).isSome := by
  have key : ∀ x : Fin 256, ∀ m : Fin 3, (bits .and .i64 (x.val : Int) (255 - ([0, 1, 15] : List Int).getD m.val 0) != 0) = (flagsE (x.val : Int) (([0, 1, 15] : List Int).getD m.val 0)).isSome := by decide +kernel
  obtain ⟨x, rfl⟩ := Int.eq_ofNat_of_zero_le hf0
  rcases hm with rfl | rfl | rfl
  · exact key ⟨x, by omega⟩ 0
  · exact key ⟨x, by omega⟩ 1
  · exact key ⟨x, by omega⟩ 2
theorem kRows_mask : ∀ r ∈ kRows, r.mask = 0 ∨ r.mask = 1 ∨ r.mask = 15 := by decide
theorem kOf_mask (t : Int) : (kOf t).mask = 0 ∨ (kOf t).mask = 1 ∨ (kOf t).mask = 15 := by
  unfold kOf
  cases hf : kRows.find? (kIs t) with
  | none => exact Or.inl rfl
  | some r => exact kRows_mask r (List.mem_of_find?_eq_some hf)
end Bn
end Go.Proofs.YtmfmomfhiieilaaGreatDoor
/- A row of chunks that is read; the sizes of packets: 'packet.Size' and 'wharfref26.Size'. -/
set_option linter.unusedVariables false
set_option linter.unusedSimpArgs false
namespace Go.Proofs.YtmfmomfhiieilaaGreatDoor
open Go.RowKit Go.Shelf Go.Proofs.YtmfmomfhiieilaaGreatDoor.It Go.Proofs.YtmfmomfhiieilaaGreatDoorW.PrintWords Go.Proofs.YtmfmomfhiieilaaGreatDoorW.PrintLast Go.Proofs.YtmfmomfhiieilaaGreatDoorW.PrintMore
namespace Bn
open PBundleSorted
abbrev Ck := S42
abbrev CsC (w : World) (A : Option Addr) (n : Nat) (l : List Ck) : Prop := Kd.C k42 w A n l
/-- A chunk in a row that is read. -/
theorem chunk_at {w : World} {A : Option Addr} {n : Nat} {xs : List Ck} (h : CsC w A n xs) (i : Nat) (hi : i < xs.length) :
    ∃ b off A1 c1 A2 c2, A = some ⟨b, off, none⟩ ∧ w.cell? ⟨b, off + i * 4, none⟩ = some (.int .u8 (xs[i]).f0) ∧ w.cell? ⟨b, off + i * 4 + 1, none⟩ = some (.int .u8 (xs[i]).f1) ∧ w.cell? ⟨b, off + i * 4 + 2, none⟩ = some (.slice A1 (xs[i]).f2.length c1) ∧ w.cell? ⟨b, off + i * 4 + 3, none⟩ = some (.slice A2 (xs[i]).f3.length c2) ∧ (xs[i]).f2.length ≤ c1 ∧ BC w A1 (xs[i]).f2 ∧ (xs[i]).f3.length ≤ c2 ∧ Kd.C k87 w A2 (xs[i]).f3.length (xs[i]).f3 := by
  have hn : 0 < n := by have := h.1; omega
  obtain ⟨ad, rfl, hc⟩ := h.2.2 hn
  obtain ⟨c, -, hk, hcell⟩ := hc i _ (List.getElem?_eq_getElem hi)
  obtain ⟨A1, c1, A2, c2, rfl, l1, g1, l2, g2⟩ := k42_open hk
  have hz : k42.sz = 4 := rfl
  rw [hz] at hcell
  have hs : ad.spot = none := by
    obtain ⟨c', -, hk', hcell'⟩ := hc 0 _ (List.getElem?_eq_getElem (by omega))
    obtain ⟨A1', c1', A2', c2', rfl, -⟩ := k42_open hk'
    have h0 := World.cell?_spot (hcell' 0 _ rfl)
    simpa [Addr.add] using h0
  obtain ⟨b, off, sp⟩ := ad
  simp only at hs
  subst hs
  have g := fun j u hu => by
    have := hcell j u hu
    rw [Go.WideShapes.add_plain] at this
    exact this
  exact ⟨b, off, A1, c1, A2, c2, rfl, g 0 _ rfl, g 1 _ rfl, g 2 _ rfl, g 3 _ rfl, l1, g1, l2, g2⟩
/-- Sizes, plain. -/
def csz (x : Ck) : Nat := 4 + x.f2.length + szs (nszs x.f3)
def psz (l : List Ck) : Nat := (l.map (fun x => up (csz x))).sum
def OkS (l : List Ck) : Prop := l.length ≤ 1000 ∧ ∀ x ∈ l, x.f2.length ≤ 1000000 ∧ cnts x.f3 ≤ 900
theorem csz_le {x : Ck} (h : x.f2.length ≤ 1000000 ∧ cnts x.f3 ≤ 900) : csz x ≤ 1909004 := by
  have := nszs_bd x.f3
  unfold csz
  omega
theorem psz_le (l : List Ck) (h : ∀ x ∈ l, x.f2.length ≤ 1000000 ∧ cnts x.f3 ≤ 900) : psz l ≤ l.length * 1909007 := by
  induction l with
  | nil => simp [psz]
  | cons a l ih =>
    have h1 := csz_le (h a (by simp))
    have h2 := up_lt (csz a)
    have h3 := ih (fun x hx => h x (by simp [hx]))
    unfold psz at h3 ⊢
    rw [List.map_cons, List.sum_cons, List.length_cons]
    omega
theorem psz_step (l : List Ck) (i : Nat) (h : i < l.length) : psz (l.take (i + 1)) = psz (l.take i) + up (csz l[i]) := by
  unfold psz
  rw [List.take_succ_eq_append_getElem h]
  simp only [List.map_append, List.sum_append, List.map_cons, List.map_nil, List.sum_cons, List.sum_nil, Nat.add_zero]
theorem psz_take (l : List Ck) (h : OkS l) (i : Nat) : psz (l.take i) ≤ 1909007000 := by
  have h1 := psz_le (l.take i) (fun x hx => h.2 x (List.mem_of_mem_take hx))
  have h2 : (l.take i).length ≤ 1000 := by rw [List.length_take]; have := h.1; omega
  have h3 : (l.take i).length * 1909007 ≤ 1000 * 1909007 := Nat.mul_le_mul_right _ h2
  omega
set_option maxRecDepth 100000 in
set_option maxHeartbeats 2000000 in
/-- 'packet.Size'. -/
theorem psize_any (A : Option Addr) (n c : Nat) (l : List Ck) (w : World) (hn : l.length = n) (hC : CsC w A n l) (hok : OkS l) : Calls Tryz.prog 15 #[.slice A n c] w (IsPost (.int .i64 ((12 + psz l : Nat) : Int)) w) := by
  have HN := hid hn
  have HC := hid hC
  have HOK := hid hok
  have HL := hid (show n ≤ 1000 by have := hok.1; omega)
  have HI0 := hid (Below.refl w.heap.size w)
  clear hn hC hok
  go_enter Tryz.func15, Tryz.ntmps15
  go_wp2_with fail
  go_loopw [3, 8] (fun v vi W => ∃ (i s : Nat), vi = .int .i64 i ∧ v = .int .i64 s ∧ i ≤ n ∧ Hid (s = 12 + psz (l.take i)) ∧ Hid (Below w.heap.size w W)) (fun _ vi _ => n - (intOf vi).toNat)
  case atStart => exact ⟨0, 12, rfl, rfl, by omega, hid rfl, HI0⟩
  case round =>
    obtain ⟨i, s, rfl, rfl, hi, hs, hI⟩ := hrel
    clear HI0
    by_cases hlt : i < n
    · have hil : i < l.length := by have := HN.out; omega
      obtain ⟨b, off, B1, d1, B2, d2, rfl, k0, k1, k2, k3, l1, g1, l2, g2⟩ := chunk_at (Kd.C_below HC.out hI.out) i hil
      have hst := psz_step l i hil
      have hxo := HOK.out.2 _ (List.getElem_mem hil)
      have hb1 := psz_take l HOK.out (i + 1)
      obtain ⟨x, hx⟩ : ∃ x, l[i] = x := ⟨_, rfl⟩
      rw [hx] at k0 k1 k2 k3 l1 g1 l2 g2 hst hxo
      obtain ⟨m1, hm1⟩ : ∃ m, x.f2.length = m := ⟨_, rfl⟩
      obtain ⟨m2, hm2⟩ : ∃ m, x.f3.length = m := ⟨_, rfl⟩
      have hcz := csz_le hxo
      have hcs := fun W (hW : Below wr.heap.size wr W) => csize_of x.f0 x.f1 B1 B2 m1 d1 m2 d2 (szs (nszs x.f3) : Int) W (by omega) (by omega) (by have := nszs_bd x.f3; omega) (fun W2 hW2 => nsize_any 1000 x.f3 (by omega) (Nat.le_refl _) B2 d2 m2 W2 hm2 (by rw [← hm2]; exact Kd.C_below g2 (cthen hW hW2)))
      have hce : (4 : Int) + (m1 : Int) + (szs (nszs x.f3) : Int) = ((csz x : Nat) : Int) := by unfold csz; rw [hm1]; omega
      rw [hce] at hcs
      rw [hm1] at k2
      rw [hm2] at k3
      obtain ⟨z, hz⟩ : ∃ z, csz x = z := ⟨_, rfl⟩
      rw [hz] at hcs hcz hst
      have hup := fun W => up_any z W (by omega)
      obtain ⟨u, hu⟩ : ∃ u, up z = u := ⟨_, rfl⟩
      rw [hu] at hup hst
      have HWU := hid (show wrap64 ((s : Int) + (u : Int)) = ((s + u : Nat) : Int) by have := hs.out; unfold wrap64; omega)
      have HWI := hid (show wrap64 ((i : Int) + 1) = ((i + 1 : Nat) : Int) by have := HL.out; unfold wrap64; omega)
      have HS2 := hid (show s + u = 12 + psz (l.take (i + 1)) by rw [hst, ← Nat.add_assoc, ← hs.out])
      have HCS := hid hcs
      have HUP := hid hup
      clear hx hxo hb1 hcz hce hz hu hst hcs hup hm1 hm2 g1 g2 l1 l2 hil
      have hcs := HCS.out (wr.alloc (.cells #[.int .u8 x.f0, .int .u8 x.f1, .slice B1 m1 d1, .slice B2 m2 d2] 42)) (below_alloc (Below.refl _ _) _)
      go_wp2_with fail
      refine hcs.mono ?_
      rintro e W6 ⟨rfl, hb6⟩
      have HB6 := hid (show Below wr.heap.size wr W6 from cthen (below_alloc (Below.refl _ _) _) hb6)
      have hup := HUP.out W6
      clear hb6 hcs k0 k1 k2 k3
      go_wp2_with fail
      refine hup.mono ?_
      rintro e W7 ⟨rfl, hb7⟩
      have HB7 := hid (cthen HB6.out hb7)
      clear hb7 hup
      go_wp2_with fail
      exact ⟨⟨i + 1, s + u, by rw [HWI.out], by rw [HWU.out], hlt, HS2, hid (cthen hI.out HB7.out)⟩, by rw [HWI.out]; simp only [intOf, Int.toNat_natCast]; omega⟩
    · obtain rfl : i = n := by omega
      have htl : l.take i = l := by rw [← HN.out, List.take_length]
      rw [htl] at hs
      go_wp2_with fail
      go_ret
      exact ⟨by rw [hs.out]; rfl, hI.out⟩
theorem rd_ck (l : List Ck) (i : Nat) (h : i < l.length) : rd_T42 l (i : Int) = l[i] := by
  unfold rd_T42
  simp [List.getD_eq_getElem?_getD, List.getElem?_eq_getElem h]
theorem csz_ev (x : Ck) (h : x.f2.length ≤ 1000000 ∧ cnts x.f3 ≤ 900) : Ev (fun k => wharfref12_Size.f k x.f0 x.f1 x.f2 x.f3) ((csz x : Nat) : Int) := by
  have hbd := nszs_bd x.f3
  unfold wharfref12_Size.f csz
  refine Ev.bind (f := fun k t213 => some (wrap64 ((wrap64 (4 + (x.f2.length : Int))) + t213))) (rsize_ev 1000 x.f3 (by omega) (Nat.le_refl _)) ?_
  rw [wrap_sum (x := x.f2.length) (y := szs (nszs x.f3)) (N := 4 + x.f2.length + szs (nszs x.f3)) (by omega) (by omega)]
  exact Ev.now _
theorem rpsz_ev (l : List Ck) (hok : OkS l) : ∀ (d i : Nat), l.length - i = d → i ≤ l.length → Ev (fun k => wharfref26_Size.l0 k l ((12 + psz (l.take i) : Nat) : Int) (i : Int)) ((12 + psz l : Nat) : Int) := by
  intro d
  induction d with
  | zero =>
    intro i hd hi
    have e : l.take i = l := List.take_of_length_le (by omega)
    rw [e]
    refine Ev.step (f := fun _ => some ((12 + psz l : Nat) : Int)) (fun k => ?_) (Ev.now _)
    simp only [wharfref26_Size.l0]
    rw [if_neg (by omega)]
  | succ d ih =>
    intro i hd hi
    have hil : i < l.length := by omega
    have hnx := ih (i + 1) (by omega) (by omega)
    have hxo := hok.2 _ (List.getElem_mem hil)
    have hcz := csz_le hxo
    have hev := csz_ev _ hxo
    have hst := psz_step l i hil
    have hpt := psz_take l hok i
    have hlen := hok.1
    obtain ⟨P, hP⟩ : ∃ P, psz (l.take i) = P := ⟨_, rfl⟩
    rw [hP] at hpt hst ⊢
    rw [hst] at hnx
    obtain ⟨z, hz⟩ : ∃ z, csz l[i] = z := ⟨_, rfl⟩
    rw [hz] at hcz hev hnx
    have hg := rgap_f z (by omega)
    have h1 := up_lt z
    have h2 := up_ge z
    obtain ⟨u, hu⟩ : ∃ u, up z = u := ⟨_, rfl⟩
    rw [hu] at hg h1 h2 hnx
    have hw := hid (show wrap64 ((wrap64 (((12 + P : Nat) : Int) + (z : Int))) + ((u - z : Nat) : Int)) = ((12 + (P + u) : Nat) : Int) by
      have e : wrap64 (((12 + P : Nat) : Int) + (z : Int)) = ((12 + P + z : Nat) : Int) := by unfold wrap64; omega
      rw [e]
      clear e
      unfold wrap64
      omega)
    have hwi := hid (show wrap64 ((i : Int) + 1) = ((i + 1 : Nat) : Int) by unfold wrap64; omega)
    refine Ev.step (fun k => ?_) (Ev.bind (f := fun k t => (wharfref03_Gap.f k t).bind fun t216 => wharfref26_Size.l0 k l (wrap64 ((wrap64 (((12 + P : Nat) : Int) + t)) + t216)) ((i + 1 : Nat) : Int)) hev ?_)
    · simp only [wharfref26_Size.l0]
      rw [if_pos (by omega), if_pos (by omega), rd_ck l i hil, hwi.out]
    · exact Ev.bind (f := fun k t216 => wharfref26_Size.l0 k l (wrap64 ((wrap64 (((12 + P : Nat) : Int) + (z : Int))) + t216)) ((i + 1 : Nat) : Int)) hg (by rw [hw.out]; exact hnx)
/-- 'wharfref26.Size'. -/
theorem rpsize_any (A : Option Addr) (n c : Nat) (l : List Ck) (w : World) (hn : l.length = n) (hC : CsC w A n l) (hc : n ≤ c) (hok : OkS l) : Calls Tryz.prog 13 #[.slice A n c] w (IsPost (.int .i64 ((12 + psz l : Nat) : Int)) w) := by
  subst hn
  obtain ⟨k, hk⟩ := (rpsz_ev l hok _ 0 rfl (Nat.zero_le _)).rounds
  exact (wharfref26_Size.calls k A c l _ w hC hc hk).mono (fun e w' h => h)
end Bn
end Go.Proofs.YtmfmomfhiieilaaGreatDoor
