/- The walk of ForwardChunks. -/
import Derived.Test.YtcjcgehhmjnlcaaGreatDoorRcf
import Derived.Test.YtcjcgehhmjnlcaaGreatDoorRof
import Derived.Test.YtcjcgehhmjnlcaaGreatDoorFsm
import Derived.Test.YtcjcgehhmjnlcaaGreatDoorSam
import Derived.Test.YtcjcgehhmjnlcaaGreatDoorMh
set_option linter.unusedVariables false
set_option linter.unusedSimpArgs false
namespace Go.Proofs.YtcjcgehhmjnlcaaGreatDoor
open Go.RowKit Go.Shelf Go.Proofs.YtcjcgehhmjnlcaaGreatDoor.It Go.Proofs.YtcjcgehhmjnlcaaGreatDoorW.PrintWords Go.Proofs.YtcjcgehhmjnlcaaGreatDoorW.PrintLast Go.Proofs.YtcjcgehhmjnlcaaGreatDoorW.PrintMore
theorem kR20 : kR 20 = ⟨192, ⟨#[102, 111, 114, 119, 97, 114, 100, 45, 116, 115, 110]⟩, 0, 4, 65531, 4, 0⟩ := rfl
theorem kR22 : kR 22 = ⟨194, ⟨#[105, 45, 102, 111, 114, 119, 97, 114, 100, 45, 116, 115, 110]⟩, 0, 4, 65531, 8, 0⟩ := rfl
theorem orE_none {a b c d e : Option (Int × Option Int)} : codeOnly (orE a b c d e) = none ↔ a = none ∧ b = none ∧ c = none ∧ d = none ∧ e = none := by
  unfold codeOnly orE
  rcases a with _ | a <;> rcases b with _ | b <;> rcases c with _ | c <;> rcases d with _ | d <;> rcases e with _ | e <;> simp
theorem dataE_none {r : KR} {n : Nat} : dataE r n = none ↔ fits r.least r.most r.unit n = true := by
  unfold dataE
  split <;> simp_all
theorem kids0E_none {m : Nat} : kids0E m = none ↔ m = 0 := by
  unfold kids0E
  split <;> simp_all
theorem valE_none {l : List Int} {q : Nat} (hq : l.length = 4 + 8 * q) : valE l = none ↔ ¬ gb l q < q := by
  have e : (l.length - 4) / 8 = q := by omega
  unfold valE
  rw [e]
  split <;> simp_all
theorem fits_192 {D : List Int} : fits (kR 20).least (kR 20).most (kR 20).unit D.length = true ↔ ∃ q, D.length = 4 + 4 * q ∧ D.length ≤ 65531 := by
  show (decide ((D.length : Int) ≥ 4) && decide ((D.length : Int) ≤ 65531) && (((D.length : Int) - 4) % 4 == 0)) = true ↔ _
  simp only [Bool.and_eq_true, decide_eq_true_eq, beq_iff_eq]
  constructor
  · rintro ⟨⟨a, b⟩, c⟩
    exact ⟨(D.length - 4) / 4, by omega, by omega⟩
  · rintro ⟨q, a, b⟩
    omega
theorem fg_192 {f : Int} {m : Nat} {D : List Int} (g : f = 0 ∧ m = 0 ∧ ∃ q, D.length = 4 + 4 * q ∧ D.length ≤ 65531) : ∃ q, D.length = 4 + 4 * q ∧ D.length ≤ 65531 := by
  obtain ⟨_, _, q, a, b⟩ := g
  exact ⟨q, a, b⟩
/-- What the reference implementation says of such a chunk, and when it is right. -/
theorem rck_192 (f : Int) (A K : Option Addr) (c m d : Nat) (D : List Int) (w : World) (h0 : 0 ≤ f) (h1 : f ≤ 255) (hC : BC w A D) (hB : Byt D) (hc : D.length ≤ c) (hl : D.length ≤ 70000) :
    ∃ r : Int, (r = 0 ↔ f = 0 ∧ m = 0 ∧ ∃ q, D.length = 4 + 4 * q ∧ D.length ≤ 65531) ∧ (True → ∀ W, Below w.heap.size w W → Calls Tryz.prog 31 #[ckV 192 f A D.length c K m d] W (IsPost (.int .i64 r) W)) := by
  have hof := fun W => rof_at 20 (by decide) 192 rfl W
  have hk : (kR 20).kids = 0 := rfl
  have hmk : (kR 20).mask = 0 := rfl
  have hbf0 := and255_ne h0 h1
  have hft : ∀ {b : Bool}, fits (kR 20).least (kR 20).most (kR 20).unit D.length = b → ∀ W, Calls Tryz.prog 71 #[(kR 20).val, .int .i64 D.length] W (IsPost (.bool b) W) := fun e W => by
    rw [← e]
    exact rfits_any (kR 20) (kR_ok 20 (by decide)) D.length W
  by_cases hf : f = 0
  · have hbf : (bits .and .i64 f 255 != 0) = false := by rw [hbf0]; simp [hf]
    cases ht : fits (kR 20).least (kR 20).most (kR 20).unit D.length
    · exact ⟨7, ⟨fun e => by simp at e, fun g => by rw [fits_192.2 (fg_192 g)] at ht; cases ht⟩, fun _ W hW => rck_7a (kR 20) 192 f A K D.length c m d W hk hof hmk h0 h1 hbf (hft ht)⟩
    · by_cases hm : m = 0
      · subst hm
        have hq : ∃ q, D.length = 4 + 4 * q ∧ D.length ≤ 65531 := by
          have : (decide ((D.length : Int) ≥ 4) && decide ((D.length : Int) ≤ 65531) && (((D.length : Int) - 4) % 4 == 0)) = true := ht
          simp at this
          exact ⟨(D.length - 4) / 4, by omega, by omega⟩
        have hsz : D.length ≤ 65531 := by obtain ⟨q, -, h⟩ := hq; exact h
        refine ⟨0, ⟨fun _ => ?_, fun _ => rfl⟩, fun _ W hW => rck_0 (kR 20) 192 f A K D.length c d W hk hof hmk h0 h1 hbf (hft ht) (fun W' hW' => rcounted_not 192 A c D W' (by decide) (hC.below (hW.trans (hW'.mono hW.size))) hc) (-1) (fun W' hW' => rodd_not 192 A c D W' (by decide) (by decide) (hC.below (hW.trans (hW'.mono hW.size))) hc) (by decide) (by have := hsz; omega)⟩
        exact ⟨hf, rfl, hq⟩
      · exact ⟨7, ⟨fun e => by simp at e, fun g => absurd g.2.1 hm⟩, fun _ W hW => rck_7b (kR 20) 192 f A K D.length c m d W hk hof hmk h0 h1 hbf (hft ht) hm⟩
  · exact ⟨6, ⟨fun e => by simp at e, fun g => absurd g.1 hf⟩, fun _ W hW => rck_6 (kR 20) 192 f A K D.length c m d W hk hof hmk h0 h1 (by rw [hbf0]; simp [hf])⟩
theorem fits_194 {D : List Int} : fits (kR 22).least (kR 22).most (kR 22).unit D.length = true ↔ ∃ q, D.length = 4 + 8 * q ∧ D.length ≤ 65531 := by
  show (decide ((D.length : Int) ≥ 4) && decide ((D.length : Int) ≤ 65531) && (((D.length : Int) - 4) % 8 == 0)) = true ↔ _
  simp only [Bool.and_eq_true, decide_eq_true_eq, beq_iff_eq]
  constructor
  · rintro ⟨⟨a, b⟩, c⟩
    exact ⟨(D.length - 4) / 8, by omega, by omega⟩
  · rintro ⟨q, a, b⟩
    omega
theorem fg_194 {f : Int} {m : Nat} {D : List Int} (g : f = 0 ∧ m = 0 ∧ ∃ q, D.length = 4 + 8 * q ∧ D.length ≤ 65531 ∧ ¬ gb D q < q) : ∃ q, D.length = 4 + 8 * q ∧ D.length ≤ 65531 := by
  obtain ⟨_, _, q, a, b, _⟩ := g
  exact ⟨q, a, b⟩
/-- What the reference implementation says of such a chunk, and when it is right. -/
theorem rck_194 (f : Int) (A K : Option Addr) (c m d : Nat) (D : List Int) (w : World) (h0 : 0 ≤ f) (h1 : f ≤ 255) (hC : BC w A D) (hB : Byt D) (hc : D.length ≤ c) (hl : D.length ≤ 70000) :
    ∃ r : Int, (r = 0 ↔ f = 0 ∧ m = 0 ∧ ∃ q, D.length = 4 + 8 * q ∧ D.length ≤ 65531 ∧ ¬ gb D q < q) ∧ (True → ∀ W, Below w.heap.size w W → Calls Tryz.prog 31 #[ckV 194 f A D.length c K m d] W (IsPost (.int .i64 r) W)) := by
  have hof := fun W => rof_at 22 (by decide) 194 rfl W
  have hk : (kR 22).kids = 0 := rfl
  have hmk : (kR 22).mask = 0 := rfl
  have hbf0 := and255_ne h0 h1
  have hft : ∀ {b : Bool}, fits (kR 22).least (kR 22).most (kR 22).unit D.length = b → ∀ W, Calls Tryz.prog 71 #[(kR 22).val, .int .i64 D.length] W (IsPost (.bool b) W) := fun e W => by
    rw [← e]
    exact rfits_any (kR 22) (kR_ok 22 (by decide)) D.length W
  by_cases hf : f = 0
  · have hbf : (bits .and .i64 f 255 != 0) = false := by rw [hbf0]; simp [hf]
    cases ht : fits (kR 22).least (kR 22).most (kR 22).unit D.length
    · exact ⟨7, ⟨fun e => by simp at e, fun g => by rw [fits_194.2 (fg_194 g)] at ht; cases ht⟩, fun _ W hW => rck_7a (kR 22) 194 f A K D.length c m d W hk hof hmk h0 h1 hbf (hft ht)⟩
    · by_cases hm : m = 0
      · subst hm
        have hq : ∃ q, D.length = 4 + 8 * q ∧ D.length ≤ 65531 := by
          have : (decide ((D.length : Int) ≥ 4) && decide ((D.length : Int) ≤ 65531) && (((D.length : Int) - 4) % 8 == 0)) = true := ht
          simp at this
          exact ⟨(D.length - 4) / 8, by omega, by omega⟩
        have hsz : D.length ≤ 65531 := by obtain ⟨q, -, h⟩ := hq; exact h
        obtain ⟨q, hq, hq2⟩ := hq
        obtain ⟨r, hiff, hr⟩ := rodd_194 A c D q hB hq (by omega) hc
        by_cases ho : 0 ≤ r
        · refine ⟨11, ⟨fun e => by simp at e, fun ⟨_, _, q', e', _, g'⟩ => absurd (hiff.1 ho) (by rw [show q = q' by omega]; exact g')⟩, fun _ W hW => rck_11 (kR 22) 194 f A K D.length c d W hk hof hmk h0 h1 hbf (hft ht) (fun W' hW' => rcounted_not 194 A c D W' (by decide) (hC.below (hW.trans (hW'.mono hW.size))) hc) r (fun W' hW' => hr W' (hC.below (hW.trans (hW'.mono hW.size)))) ho⟩
        · refine ⟨0, ⟨fun _ => ?_, fun _ => rfl⟩, fun _ W hW => rck_0 (kR 22) 194 f A K D.length c d W hk hof hmk h0 h1 hbf (hft ht) (fun W' hW' => rcounted_not 194 A c D W' (by decide) (hC.below (hW.trans (hW'.mono hW.size))) hc) r (fun W' hW' => hr W' (hC.below (hW.trans (hW'.mono hW.size)))) (by omega) (by have := hsz; omega)⟩
          exact ⟨hf, rfl, q, hq, hq2, fun e => ho (hiff.2 e)⟩
      · exact ⟨7, ⟨fun e => by simp at e, fun g => absurd g.2.1 hm⟩, fun _ W hW => rck_7b (kR 22) 194 f A K D.length c m d W hk hof hmk h0 h1 hbf (hft ht) hm⟩
  · exact ⟨6, ⟨fun e => by simp at e, fun g => absurd g.1 hf⟩, fun _ W hW => rck_6 (kR 22) 194 f A K D.length c m d W hk hof hmk h0 h1 (by rw [hbf0]; simp [hf])⟩
theorem pgood_192 {f : Int} {D : List Int} {m : Nat} (h0 : 0 ≤ f) (h1 : f ≤ 255) : codeOnly (E192 f D.length m) = none ↔ (f = 0 ∧ m = 0 ∧ ∃ q, D.length = 4 + 4 * q ∧ D.length ≤ 65531) := by
  rw [show E192 f D.length m = orE (flagsE f 0) (dataE (kR 20) D.length) (kids0E m) none none from rfl, orE_none, flagsE_0 h0 h1, dataE_none, kids0E_none]
  rw [fits_192]
  constructor
  · rintro ⟨a, ⟨q, b, b'⟩, c, -, -⟩
    exact ⟨a, c, q, b, b'⟩
  · rintro ⟨a, c, q, b, b'⟩
    exact ⟨a, ⟨q, b, b'⟩, c, rfl, rfl⟩
theorem pgood_194 {f : Int} {D : List Int} {m : Nat} (h0 : 0 ≤ f) (h1 : f ≤ 255) : codeOnly (E194 f D m) = none ↔ (f = 0 ∧ m = 0 ∧ ∃ q, D.length = 4 + 8 * q ∧ D.length ≤ 65531 ∧ ¬ gb D q < q) := by
  rw [show E194 f D m = orE (flagsE f 0) (dataE (kR 22) D.length) (kids0E m) none (valE D) from rfl, orE_none, flagsE_0 h0 h1, dataE_none, kids0E_none]
  rw [fits_194]
  constructor
  · rintro ⟨a, ⟨q, b, b'⟩, c, -, e⟩
    exact ⟨a, c, q, b, b', (valE_none b).1 e⟩
  · rintro ⟨a, c, q, b, b', e⟩
    exact ⟨a, ⟨q, b, b'⟩, c, rfl, (valE_none b).2 e⟩
set_option maxRecDepth 100000 in
set_option maxHeartbeats 4000000 in
theorem law11_long (t f : Int) (A K : Option Addr) (c d : Nat) (D : List Int) (xs : List PForwardChunks.S114) (w : World) (hlong : 70000 < D.length ∨ 200 < xs.length) (h0 : 0 ≤ f) (h1 : f ≤ 255) (hC : BC w A D) (hB : Byt D) (hc : D.length ≤ c) (hK : Kd.C PForwardChunks.k114 w K xs.length xs) (hd : xs.length ≤ d) (hg : GTab w) :
    Calls Tryz.prog 11 #[ckV t f A D.length c K xs.length d] w (IsPost (.bool true) w) := by
  have B0 := hid (below_alloc (Below.refl w.heap.size w) (.cells #[.int .u8 t, .int .u8 f, .slice A D.length c, .slice K xs.length d] 35))
  have K0 := hid (blk_new w (.cells #[.int .u8 t, .int .u8 f, .slice A D.length c, .slice K xs.length d] 35))
  have hA := awake_any _ (hg.below B0.out)
  have hFew := hid (fun W (hW : Below w.heap.size w W) => few_any t f A K c d D xs W (hC.below hW) hc (Kd.C_below hK hW) hd)
  have HC := hid hC
  have HB := hid hB
  have HCC := hid hc
  have HG := hid hg
  clear hC hB hc hK hd hg h0 h1
  unfold ckV at *
  go_enter Tryz.func11, Tryz.ntmps11
  go_wp2_with fail
  refine hA.mono ?_
  rintro e w1 ⟨rfl, hb⟩
  have B1 := hid (cthen B0.out hb)
  have K1 := hid (blk_below K0.out hb)
  clear hb hA K0 B0
  obtain ⟨⟨x0, x1, x2, x3⟩, -⟩ := four K1.out
  go_wp2_with fail
  refine (hFew.out _ B1.out).mono ?_
  rintro e w2 ⟨b, rfl, hb70, hb⟩
  have B2 := hid (cthen B1.out hb)
  have K2 := hid (blk_below K1.out hb)
  have H70 := hid hb70
  clear hb hFew K1 x0 x1 x2 x3 hb70
  obtain ⟨⟨x0, x1, x2, x3⟩, -⟩ := four K2.out
  cases b
  · have hA := awake_any w2 (HG.out.below B2.out)
    go_wp2_with fail
    refine hA.mono ?_
    rintro e w3 ⟨rfl, hb⟩
    have B3 := hid (cthen B2.out hb)
    clear hb hA
    go_wp2_with fail
    go_ret
    exact ⟨rfl, B3.out⟩
  · exact absurd (H70.out rfl) (by omega)
set_option maxRecDepth 100000 in
set_option maxHeartbeats 4000000 in
theorem law11_other (t f : Int) (A K : Option Addr) (c d : Nat) (D : List Int) (xs : List PForwardChunks.S114) (w : World) (ht1 : t ≠ 192) (ht2 : t ≠ 194) (h0 : 0 ≤ f) (h1 : f ≤ 255) (hC : BC w A D) (hB : Byt D) (hc : D.length ≤ c) (hK : Kd.C PForwardChunks.k114 w K xs.length xs) (hd : xs.length ≤ d) (hg : GTab w) :
    Calls Tryz.prog 11 #[ckV t f A D.length c K xs.length d] w (IsPost (.bool true) w) := by
  have B0 := hid (below_alloc (Below.refl w.heap.size w) (.cells #[.int .u8 t, .int .u8 f, .slice A D.length c, .slice K xs.length d] 35))
  have K0 := hid (blk_new w (.cells #[.int .u8 t, .int .u8 f, .slice A D.length c, .slice K xs.length d] 35))
  have hA := awake_any _ (hg.below B0.out)
  have hFew := hid (fun W (hW : Below w.heap.size w W) => few_any t f A K c d D xs W (hC.below hW) hc (Kd.C_below hK hW) hd)
  have HC := hid hC
  have HB := hid hB
  have HCC := hid hc
  have HG := hid hg
  have hn1 : (t != 192) = true := by simpa using ht1
  have hn2 : (t != 194) = true := by simpa using ht2
  have hof := hid (fun W => of_other t f A K D.length c xs.length d W ht1 ht2)
  clear hC hB hc hK hd hg h0 h1 ht1 ht2
  unfold ckV at *
  go_enter Tryz.func11, Tryz.ntmps11
  go_wp2_with fail
  refine hA.mono ?_
  rintro e w1 ⟨rfl, hb⟩
  have B1 := hid (cthen B0.out hb)
  have K1 := hid (blk_below K0.out hb)
  clear hb hA K0 B0
  obtain ⟨⟨x0, x1, x2, x3⟩, -⟩ := four K1.out
  go_wp2_with fail
  refine (hFew.out _ B1.out).mono ?_
  rintro e w2 ⟨b, rfl, hb70, hb⟩
  have B2 := hid (cthen B1.out hb)
  have K2 := hid (blk_below K1.out hb)
  have H70 := hid hb70
  clear hb hFew K1 x0 x1 x2 x3 hb70
  obtain ⟨⟨x0, x1, x2, x3⟩, -⟩ := four K2.out
  cases b
  · have hA := awake_any w2 (HG.out.below B2.out)
    go_wp2_with fail
    refine hA.mono ?_
    rintro e w3 ⟨rfl, hb⟩
    have B3 := hid (cthen B2.out hb)
    clear hb hA
    go_wp2_with fail
    go_ret
    exact ⟨rfl, B3.out⟩
  · unfold FofNo at hof
    go_wp2_with fail
    refine (hof.out _).mono ?_
    rintro e w3 ⟨rfl, hb⟩
    have B3 := hid (cthen B2.out hb)
    have K3 := hid (blk_below K2.out hb)
    clear hb K2 x0 x1 x2 x3
    obtain ⟨⟨x0, x1, x2, x3⟩, -⟩ := four K3.out
    go_wp2_with fail
    go_ret
    exact ⟨rfl, B3.out⟩
set_option maxRecDepth 100000 in
set_option maxHeartbeats 4000000 in
theorem law11_192_bad (f : Int) (A K : Option Addr) (c d : Nat) (D : List Int) (xs : List PForwardChunks.S114) (w : World) (X : Int × Option Int) (hE : codeOnly (E192 f D.length xs.length) = some X) (hl : D.length ≤ 70000) (hm : xs.length ≤ 1099511627776) (h0 : 0 ≤ f) (h1 : f ≤ 255) (hC : BC w A D) (hB : Byt D) (hc : D.length ≤ c) (hK : Kd.C PForwardChunks.k114 w K xs.length xs) (hd : xs.length ≤ d) (hg : GTab w) :
    Calls Tryz.prog 11 #[ckV 192 f A D.length c K xs.length d] w (IsPost (.bool true) w) := by
  have B0 := hid (below_alloc (Below.refl w.heap.size w) (.cells #[.int .u8 192, .int .u8 f, .slice A D.length c, .slice K xs.length d] 35))
  have K0 := hid (blk_new w (.cells #[.int .u8 192, .int .u8 f, .slice A D.length c, .slice K xs.length d] 35))
  have hA := awake_any _ (hg.below B0.out)
  have hFew := hid (fun W (hW : Below w.heap.size w W) => few_any 192 f A K c d D xs W (hC.below hW) hc (Kd.C_below hK hW) hd)
  have HC := hid hC
  have HB := hid hB
  have HCC := hid hc
  have HG := hid hg
  obtain ⟨r, hr0, hr⟩ := rck_192 f A K c xs.length d D w h0 h1 hC hB hc hl
  have hrn : (r != 0) = true := by
    have : r ≠ 0 := fun e => by
      have := (pgood_192 h0 h1).2 (hr0.1 e)
      rw [hE] at this
      cases this
    simpa using this
  have HR := hid (hr trivial)
  have HL := hid hl
  have HM := hid hm
  have hof := hid (fun W0 (hW0 : Below w.heap.size w W0) => of_bad 192 f A K D.length c xs.length d W0 (by decide) X (fun W hWW => by
    have hW := cthen hW0 hWW
    have h := check_192 f A K D.length c xs.length d W (HG.out.below hW) (by have := HL.out; omega) HM.out
    rwa [hE] at h))
  clear hC hB hc hK hd hg h0 h1 hr hr0 hE hl hm
  unfold ckV at *
  go_enter Tryz.func11, Tryz.ntmps11
  go_wp2_with fail
  refine hA.mono ?_
  rintro e w1 ⟨rfl, hb⟩
  have B1 := hid (cthen B0.out hb)
  have K1 := hid (blk_below K0.out hb)
  clear hb hA K0 B0
  obtain ⟨⟨x0, x1, x2, x3⟩, -⟩ := four K1.out
  go_wp2_with fail
  refine (hFew.out _ B1.out).mono ?_
  rintro e w2 ⟨b, rfl, hb70, hb⟩
  have B2 := hid (cthen B1.out hb)
  have K2 := hid (blk_below K1.out hb)
  have H70 := hid hb70
  clear hb hFew K1 x0 x1 x2 x3 hb70
  obtain ⟨⟨x0, x1, x2, x3⟩, -⟩ := four K2.out
  cases b
  · have hA := awake_any w2 (HG.out.below B2.out)
    go_wp2_with fail
    refine hA.mono ?_
    rintro e w3 ⟨rfl, hb⟩
    have B3 := hid (cthen B2.out hb)
    clear hb hA
    go_wp2_with fail
    go_ret
    exact ⟨rfl, B3.out⟩
  · unfold FofNo at hof
    go_wp2_with fail
    refine (hof.out _ B2.out).mono ?_
    rintro e w3 ⟨rfl, hb⟩
    have B3 := hid (cthen B2.out hb)
    have K3 := hid (blk_below K2.out hb)
    clear hb K2 x0 x1 x2 x3
    obtain ⟨⟨x0, x1, x2, x3⟩, -⟩ := four K3.out
    go_wp2_with fail
    refine (HR.out _ B3.out).mono ?_
    rintro e w4 ⟨rfl, hb⟩
    have B4 := hid (cthen B3.out hb)
    have K4 := hid (blk_below K3.out hb)
    clear hb K3 x0 x1 x2 x3
    obtain ⟨⟨x0, x1, x2, x3⟩, -⟩ := four K4.out
    go_wp2_with fail
    go_ret
    exact ⟨rfl, B4.out⟩
set_option maxRecDepth 100000 in
set_option maxHeartbeats 4000000 in
theorem law11_192_good (f : Int) (A K : Option Addr) (c d : Nat) (D : List Int) (xs : List PForwardChunks.S114) (w : World) (q : Nat) (hf : f = 0) (hm : xs.length = 0) (hq : D.length = 4 + 4 * q) (hq2 : D.length ≤ 65531) (h0 : 0 ≤ f) (h1 : f ≤ 255) (hC : BC w A D) (hB : Byt D) (hc : D.length ≤ c) (hK : Kd.C PForwardChunks.k114 w K 0 xs) (hd : xs.length ≤ d) (hg : GTab w) :
    Calls Tryz.prog 11 #[ckV 192 f A D.length c K 0 d] w (IsPost (.bool true) w) := by
  have B0 := hid (below_alloc (Below.refl w.heap.size w) (.cells #[.int .u8 192, .int .u8 f, .slice A D.length c, .slice K 0 d] 35))
  have K0 := hid (blk_new w (.cells #[.int .u8 192, .int .u8 f, .slice A D.length c, .slice K 0 d] 35))
  have hA := awake_any _ (hg.below B0.out)
  have hFew := hid (fun W (hW : Below w.heap.size w W) => by
    have h := few_any 192 f A K c d D xs W (hC.below hW) hc (by rw [hm]; exact Kd.C_below hK hW) hd
    rwa [hm] at h)
  have HC := hid hC
  have HB := hid hB
  have HCC := hid hc
  have HG := hid hg
  have hE : codeOnly (E192 f D.length 0) = none := (pgood_192 h0 h1).2 ⟨hf, rfl, q, hq, hq2⟩
  obtain ⟨r, hr0, hr⟩ := rck_192 f A K c 0 d D w h0 h1 hC hB hc (by omega)
  have hrz : r = 0 := hr0.2 ⟨hf, rfl, q, hq, hq2⟩
  subst hrz
  subst hf
  have HR := hid (hr trivial)
  have HQ := hid hq
  have HQ2 := hid hq2
  have hof := hid (fun W0 (hW0 : Below w.heap.size w W0) => of_192 0 A K c 0 d q D W0 (HC.out.below hW0) HB.out HCC.out hq2 hq (fun W hWW => by
    have hW := cthen hW0 hWW
    have h := check_192 0 A K D.length c 0 d W (HG.out.below hW) (by omega) (by omega)
    rwa [hE] at h))
  have hmk : mkD false (peekV 4 D 0) (ofL false D q) = D := mk_of false D q hB (by rw [hq]; rfl) (fun e => by cases e)
  have HMK := hid hmk
  have HNQ := hid (show ofN false D = q from ofN_q false (by rw [hq]; rfl))
  have HLO := hid (ofL_ok (inter := false) hB q)
  have HLG := hid (ofL_good (inter := false) hB q)
  clear hC hB hc hK hd hg h0 h1 hr hr0 hE hmk hq hq2
  unfold ckV at *
  go_enter Tryz.func11, Tryz.ntmps11
  go_wp2_with fail
  refine hA.mono ?_
  rintro e w1 ⟨rfl, hb⟩
  have B1 := hid (cthen B0.out hb)
  have K1 := hid (blk_below K0.out hb)
  clear hb hA K0 B0
  obtain ⟨⟨x0, x1, x2, x3⟩, -⟩ := four K1.out
  go_wp2_with fail
  refine (hFew.out _ B1.out).mono ?_
  rintro e w2 ⟨b, rfl, hb70, hb⟩
  have B2 := hid (cthen B1.out hb)
  have K2 := hid (blk_below K1.out hb)
  have H70 := hid hb70
  clear hb hFew K1 x0 x1 x2 x3 hb70
  obtain ⟨⟨x0, x1, x2, x3⟩, -⟩ := four K2.out
  cases b
  · have hA := awake_any w2 (HG.out.below B2.out)
    go_wp2_with fail
    refine hA.mono ?_
    rintro e w3 ⟨rfl, hb⟩
    have B3 := hid (cthen B2.out hb)
    clear hb hA
    go_wp2_with fail
    go_ret
    exact ⟨rfl, B3.out⟩
  · unfold FofPost at hof
    go_wp2_with fail
    refine (hof.out _ B2.out).mono ?_
    rintro e w3 ⟨v, rfl, ho, hb⟩
    have B3 := hid (cthen B2.out hb)
    have K3 := hid (blk_below K2.out hb)
    rw [HNQ.out] at ho
    obtain ⟨A3, c3, rfl, hc3, hr3⟩ := ownS_read ho
    rw [ofL_len] at hc3
    have C3 := hid hc3
    have R3 := hid hr3
    clear ho hc3 hr3
    clear hb K2 x0 x1 x2 x3
    obtain ⟨⟨x0, x1, x2, x3⟩, -⟩ := four K3.out
    go_wp2_with fail
    refine (HR.out _ B3.out).mono ?_
    rintro e w4 ⟨rfl, hb⟩
    have B4 := hid (cthen B3.out hb)
    have K4 := hid (blk_below K3.out hb)
    have R3 := hid (R3.out.below hb)
    clear hb K3 x0 x1 x2 x3
    obtain ⟨⟨x0, x1, x2, x3⟩, -⟩ := four K4.out
    have hro := hid (rof_192 0 A K c 0 d q D w4 (HC.out.below B4.out) HB.out HCC.out HQ2.out HQ.out)
    unfold ckV at hro
    go_wp2_with fail
    refine (hro.out).mono ?_
    rintro e w5 ⟨v, rfl, ho, hb⟩
    have B5 := hid (cthen B4.out hb)
    have K5 := hid (blk_below K4.out hb)
    obtain ⟨A5, c5, rfl, hc5, hr5⟩ := ownT_read ho
    rw [ofL_len] at hc5
    have C5 := hid hc5
    have R5 := hid hr5
    have R3 := hid (R3.out.below hb)
    clear ho hc5 hr5 hro
    clear hb K4 x0 x1 x2 x3
    obtain ⟨⟨x0, x1, x2, x3⟩, -⟩ := four K5.out
    rw [ofL_len] at *
    obtain ⟨X, hX⟩ : ∃ X, X = peekV 4 D 0 := ⟨_, rfl⟩
    have HMX := hid (show mkD false X (ofL false D q) = D by rw [hX]; exact HMK.out)
    rw [← hX]
    clear hX
    have hmk2 := hid (by
      have h := make_false X A3 c3 (ofL false D q) w5 (HG.out.below B5.out) R3.out HLO.out (by rw [ofL_len]; exact C3.out) (by rw [ofL_len]; have := HQ.out; have := HQ2.out; omega)
      rw [ofL_len] at h
      exact h)
    go_wp2_with fail
    refine hmk2.out.mono ?_
    rintro e w6 ⟨hb, ⟨-, -, v, rfl, ho⟩ | ⟨hn, -⟩⟩
    rotate_left
    · exact absurd ⟨HLG.out, by rw [HMX.out]; exact HQ2.out⟩ hn
    rw [HMX.out] at ho
    obtain ⟨A6, c6, rfl, hc6, hr6, -⟩ := own_slice ho
    simp only [mkT, Bool.false_eq_true, if_true, if_false]
    have B6 := hid (cthen B5.out hb)
    have K6 := hid (blk_below K5.out hb)
    have R3 := hid (R3.out.below hb)
    have R5 := hid (R5.out.below hb)
    have C6 := hid hc6
    have R6 := hid hr6
    clear hb ho hc6 hr6 K5 x0 x1 x2 x3 hmk2
    obtain ⟨o7, ho7⟩ : ∃ o7 : Obj, o7 = .cells #[.int .u8 192, .int .u8 0, .slice A6 D.length c6, .slice none 0 0] 35 (0, 0) := ⟨_, rfl⟩
    have B7 := hid (below_alloc B6.out o7)
    have K7 := hid (blk_alloc (x := o7) K6.out)
    have Q7 := hid (blk_new w6 o7)
    have R3 := hid (R3.out.below (below_alloc (Below.refl _ _) o7))
    have R5 := hid (R5.out.below (below_alloc (Below.refl _ _) o7))
    have R6 := hid (R6.out.below (below_alloc (Below.refl _ _) o7))
    have hbk := hid (by
      have h := back_any A3 c3 (ofL false D q) (w6.alloc o7) R3.out (by rw [ofL_len]; exact C3.out) (by rw [ofL_len]; have := HQ.out; have := HQ2.out; omega)
      rw [ofL_len] at h
      exact h)
    subst ho7
    clear K6
    go_wp2_with fail
    refine hbk.out.mono ?_
    rintro e w8 ⟨v, rfl, ho, hb⟩
    obtain ⟨A8, c8, rfl, hc8, hr8⟩ := ownT_read ho
    rw [ofL_len] at hc8
    have C8 := hid hc8
    have R8 := hid hr8
    have B8 := hid (cthen B7.out hb)
    have K8 := hid (blk_below K7.out hb)
    have Q8 := hid (blk_below Q7.out hb)
    have R5 := hid (R5.out.below hb)
    have R6 := hid (R6.out.below hb)
    rw [ofL_len]
    clear hb ho hc8 hr8 hbk K7 Q7
    have hsm := hid (by
      have h := fsame_any A8 A5 c8 c5 (ofL false D q) w8 R8.out R5.out (by rw [ofL_len]; exact C8.out) (by rw [ofL_len]; exact C5.out) (by rw [ofL_len]; have := HQ.out; have := HQ2.out; omega)
      rw [ofL_len] at h
      exact h)
    go_wp2_with fail
    refine hsm.out.mono ?_
    rintro e w9 ⟨rfl, hb⟩
    have B9 := hid (cthen B8.out hb)
    have K9 := hid (blk_below K8.out hb)
    have Q9 := hid (blk_below Q8.out hb)
    have R6 := hid (R6.out.below hb)
    clear hb hsm K8 Q8
    obtain ⟨⟨x0, x1, x2, x3⟩, -⟩ := four K9.out
    obtain ⟨⟨y0, y1, y2, y3⟩, -⟩ := four Q9.out
    have hs12 := hid (same12_any 192 0 A6 A none K c6 c 0 d D w9 R6.out (HC.out.below B9.out) C6.out HCC.out (by have := HQ2.out; omega))
    unfold ckV at hs12
    go_wp2_with fail
    refine hs12.out.mono ?_
    rintro e w10 ⟨rfl, hb⟩
    have B10 := hid (cthen B9.out hb)
    clear hb
    go_wp2_with fail
    go_ret
    exact ⟨rfl, B10.out⟩
set_option maxRecDepth 100000 in
set_option maxHeartbeats 4000000 in
theorem law11_194_bad (f : Int) (A K : Option Addr) (c d : Nat) (D : List Int) (xs : List PForwardChunks.S114) (w : World) (X : Int × Option Int) (hE : codeOnly (E194 f D xs.length) = some X) (hl : D.length ≤ 70000) (hm : xs.length ≤ 1099511627776) (h0 : 0 ≤ f) (h1 : f ≤ 255) (hC : BC w A D) (hB : Byt D) (hc : D.length ≤ c) (hK : Kd.C PForwardChunks.k114 w K xs.length xs) (hd : xs.length ≤ d) (hg : GTab w) :
    Calls Tryz.prog 11 #[ckV 194 f A D.length c K xs.length d] w (IsPost (.bool true) w) := by
  have B0 := hid (below_alloc (Below.refl w.heap.size w) (.cells #[.int .u8 194, .int .u8 f, .slice A D.length c, .slice K xs.length d] 35))
  have K0 := hid (blk_new w (.cells #[.int .u8 194, .int .u8 f, .slice A D.length c, .slice K xs.length d] 35))
  have hA := awake_any _ (hg.below B0.out)
  have hFew := hid (fun W (hW : Below w.heap.size w W) => few_any 194 f A K c d D xs W (hC.below hW) hc (Kd.C_below hK hW) hd)
  have HC := hid hC
  have HB := hid hB
  have HCC := hid hc
  have HG := hid hg
  obtain ⟨r, hr0, hr⟩ := rck_194 f A K c xs.length d D w h0 h1 hC hB hc hl
  have hrn : (r != 0) = true := by
    have : r ≠ 0 := fun e => by
      have := (pgood_194 h0 h1).2 (hr0.1 e)
      rw [hE] at this
      cases this
    simpa using this
  have HR := hid (hr trivial)
  have HL := hid hl
  have HM := hid hm
  have hof := hid (fun W0 (hW0 : Below w.heap.size w W0) => of_bad 194 f A K D.length c xs.length d W0 (by decide) X (fun W hWW => by
    have hW := cthen hW0 hWW
    have h := check_194 f A K c xs.length d D W (HG.out.below hW) HM.out (HC.out.below hW) HB.out HCC.out (by have := HL.out; omega)
    rwa [hE] at h))
  clear hC hB hc hK hd hg h0 h1 hr hr0 hE hl hm
  unfold ckV at *
  go_enter Tryz.func11, Tryz.ntmps11
  go_wp2_with fail
  refine hA.mono ?_
  rintro e w1 ⟨rfl, hb⟩
  have B1 := hid (cthen B0.out hb)
  have K1 := hid (blk_below K0.out hb)
  clear hb hA K0 B0
  obtain ⟨⟨x0, x1, x2, x3⟩, -⟩ := four K1.out
  go_wp2_with fail
  refine (hFew.out _ B1.out).mono ?_
  rintro e w2 ⟨b, rfl, hb70, hb⟩
  have B2 := hid (cthen B1.out hb)
  have K2 := hid (blk_below K1.out hb)
  have H70 := hid hb70
  clear hb hFew K1 x0 x1 x2 x3 hb70
  obtain ⟨⟨x0, x1, x2, x3⟩, -⟩ := four K2.out
  cases b
  · have hA := awake_any w2 (HG.out.below B2.out)
    go_wp2_with fail
    refine hA.mono ?_
    rintro e w3 ⟨rfl, hb⟩
    have B3 := hid (cthen B2.out hb)
    clear hb hA
    go_wp2_with fail
    go_ret
    exact ⟨rfl, B3.out⟩
  · unfold FofNo at hof
    go_wp2_with fail
    refine (hof.out _ B2.out).mono ?_
    rintro e w3 ⟨rfl, hb⟩
    have B3 := hid (cthen B2.out hb)
    have K3 := hid (blk_below K2.out hb)
    clear hb K2 x0 x1 x2 x3
    obtain ⟨⟨x0, x1, x2, x3⟩, -⟩ := four K3.out
    go_wp2_with fail
    refine (HR.out _ B3.out).mono ?_
    rintro e w4 ⟨rfl, hb⟩
    have B4 := hid (cthen B3.out hb)
    have K4 := hid (blk_below K3.out hb)
    clear hb K3 x0 x1 x2 x3
    obtain ⟨⟨x0, x1, x2, x3⟩, -⟩ := four K4.out
    go_wp2_with fail
    go_ret
    exact ⟨rfl, B4.out⟩
set_option maxRecDepth 100000 in
set_option maxHeartbeats 4000000 in
theorem law11_194_good (f : Int) (A K : Option Addr) (c d : Nat) (D : List Int) (xs : List PForwardChunks.S114) (w : World) (q : Nat) (hf : f = 0) (hm : xs.length = 0) (hq : D.length = 4 + 8 * q) (hq2 : D.length ≤ 65531) (hgb : ¬ gb D q < q) (h0 : 0 ≤ f) (h1 : f ≤ 255) (hC : BC w A D) (hB : Byt D) (hc : D.length ≤ c) (hK : Kd.C PForwardChunks.k114 w K 0 xs) (hd : xs.length ≤ d) (hg : GTab w) :
    Calls Tryz.prog 11 #[ckV 194 f A D.length c K 0 d] w (IsPost (.bool true) w) := by
  have B0 := hid (below_alloc (Below.refl w.heap.size w) (.cells #[.int .u8 194, .int .u8 f, .slice A D.length c, .slice K 0 d] 35))
  have K0 := hid (blk_new w (.cells #[.int .u8 194, .int .u8 f, .slice A D.length c, .slice K 0 d] 35))
  have hA := awake_any _ (hg.below B0.out)
  have hFew := hid (fun W (hW : Below w.heap.size w W) => by
    have h := few_any 194 f A K c d D xs W (hC.below hW) hc (by rw [hm]; exact Kd.C_below hK hW) hd
    rwa [hm] at h)
  have HC := hid hC
  have HB := hid hB
  have HCC := hid hc
  have HG := hid hg
  have hE : codeOnly (E194 f D 0) = none := (pgood_194 h0 h1).2 ⟨hf, rfl, q, hq, hq2, hgb⟩
  obtain ⟨r, hr0, hr⟩ := rck_194 f A K c 0 d D w h0 h1 hC hB hc (by omega)
  have hrz : r = 0 := hr0.2 ⟨hf, rfl, q, hq, hq2, hgb⟩
  subst hrz
  subst hf
  have HR := hid (hr trivial)
  have HQ := hid hq
  have HQ2 := hid hq2
  have hof := hid (fun W0 (hW0 : Below w.heap.size w W0) => of_194 0 A K c 0 d q D W0 (HC.out.below hW0) HB.out HCC.out hq2 hq (fun W hWW => by
    have hW := cthen hW0 hWW
    have h := check_194 0 A K c 0 d D W (HG.out.below hW) (by omega) (HC.out.below hW) HB.out HCC.out (by omega)
    rwa [hE] at h))
  have hmk : mkD true (peekV 4 D 0) (ofL true D q) = D := mk_of true D q hB (by rw [hq]; rfl) (fun _ j hj => by have h1 := gb_le D q; have := gb_lt D q j (by omega); unfold grp at this; rw [peek_2 (by omega) rfl rfl]; simpa [numAt] using this)
  have HMK := hid hmk
  have HNQ := hid (show ofN true D = q from ofN_q true (by rw [hq]; rfl))
  have HLO := hid (ofL_ok (inter := true) hB q)
  have HLG := hid (ofL_good (inter := true) hB q)
  clear hC hB hc hK hd hg h0 h1 hr hr0 hE hmk hq hq2
  unfold ckV at *
  go_enter Tryz.func11, Tryz.ntmps11
  go_wp2_with fail
  refine hA.mono ?_
  rintro e w1 ⟨rfl, hb⟩
  have B1 := hid (cthen B0.out hb)
  have K1 := hid (blk_below K0.out hb)
  clear hb hA K0 B0
  obtain ⟨⟨x0, x1, x2, x3⟩, -⟩ := four K1.out
  go_wp2_with fail
  refine (hFew.out _ B1.out).mono ?_
  rintro e w2 ⟨b, rfl, hb70, hb⟩
  have B2 := hid (cthen B1.out hb)
  have K2 := hid (blk_below K1.out hb)
  have H70 := hid hb70
  clear hb hFew K1 x0 x1 x2 x3 hb70
  obtain ⟨⟨x0, x1, x2, x3⟩, -⟩ := four K2.out
  cases b
  · have hA := awake_any w2 (HG.out.below B2.out)
    go_wp2_with fail
    refine hA.mono ?_
    rintro e w3 ⟨rfl, hb⟩
    have B3 := hid (cthen B2.out hb)
    clear hb hA
    go_wp2_with fail
    go_ret
    exact ⟨rfl, B3.out⟩
  · unfold FofPost at hof
    go_wp2_with fail
    refine (hof.out _ B2.out).mono ?_
    rintro e w3 ⟨v, rfl, ho, hb⟩
    have B3 := hid (cthen B2.out hb)
    have K3 := hid (blk_below K2.out hb)
    rw [HNQ.out] at ho
    obtain ⟨A3, c3, rfl, hc3, hr3⟩ := ownS_read ho
    rw [ofL_len] at hc3
    have C3 := hid hc3
    have R3 := hid hr3
    clear ho hc3 hr3
    clear hb K2 x0 x1 x2 x3
    obtain ⟨⟨x0, x1, x2, x3⟩, -⟩ := four K3.out
    go_wp2_with fail
    refine (HR.out _ B3.out).mono ?_
    rintro e w4 ⟨rfl, hb⟩
    have B4 := hid (cthen B3.out hb)
    have K4 := hid (blk_below K3.out hb)
    have R3 := hid (R3.out.below hb)
    clear hb K3 x0 x1 x2 x3
    obtain ⟨⟨x0, x1, x2, x3⟩, -⟩ := four K4.out
    have hro := hid (rof_194 0 A K c 0 d q D w4 (HC.out.below B4.out) HB.out HCC.out HQ2.out HQ.out)
    unfold ckV at hro
    go_wp2_with fail
    refine (hro.out).mono ?_
    rintro e w5 ⟨v, rfl, ho, hb⟩
    have B5 := hid (cthen B4.out hb)
    have K5 := hid (blk_below K4.out hb)
    obtain ⟨A5, c5, rfl, hc5, hr5⟩ := ownT_read ho
    rw [ofL_len] at hc5
    have C5 := hid hc5
    have R5 := hid hr5
    have R3 := hid (R3.out.below hb)
    clear ho hc5 hr5 hro
    clear hb K4 x0 x1 x2 x3
    obtain ⟨⟨x0, x1, x2, x3⟩, -⟩ := four K5.out
    rw [ofL_len] at *
    obtain ⟨X, hX⟩ : ∃ X, X = peekV 4 D 0 := ⟨_, rfl⟩
    have HMX := hid (show mkD true X (ofL true D q) = D by rw [hX]; exact HMK.out)
    rw [← hX]
    clear hX
    have hmk2 := hid (by
      have h := make_true X A3 c3 (ofL true D q) w5 (HG.out.below B5.out) R3.out HLO.out (by rw [ofL_len]; exact C3.out) (by rw [ofL_len]; have := HQ.out; have := HQ2.out; omega)
      rw [ofL_len] at h
      exact h)
    go_wp2_with fail
    refine hmk2.out.mono ?_
    rintro e w6 ⟨hb, ⟨-, -, v, rfl, ho⟩ | ⟨hn, -⟩⟩
    rotate_left
    · exact absurd ⟨HLG.out, by rw [HMX.out]; exact HQ2.out⟩ hn
    rw [HMX.out] at ho
    obtain ⟨A6, c6, rfl, hc6, hr6, -⟩ := own_slice ho
    simp only [mkT, Bool.false_eq_true, if_true, if_false]
    have B6 := hid (cthen B5.out hb)
    have K6 := hid (blk_below K5.out hb)
    have R3 := hid (R3.out.below hb)
    have R5 := hid (R5.out.below hb)
    have C6 := hid hc6
    have R6 := hid hr6
    clear hb ho hc6 hr6 K5 x0 x1 x2 x3 hmk2
    obtain ⟨o7, ho7⟩ : ∃ o7 : Obj, o7 = .cells #[.int .u8 194, .int .u8 0, .slice A6 D.length c6, .slice none 0 0] 35 (0, 0) := ⟨_, rfl⟩
    have B7 := hid (below_alloc B6.out o7)
    have K7 := hid (blk_alloc (x := o7) K6.out)
    have Q7 := hid (blk_new w6 o7)
    have R3 := hid (R3.out.below (below_alloc (Below.refl _ _) o7))
    have R5 := hid (R5.out.below (below_alloc (Below.refl _ _) o7))
    have R6 := hid (R6.out.below (below_alloc (Below.refl _ _) o7))
    have hbk := hid (by
      have h := back_any A3 c3 (ofL true D q) (w6.alloc o7) R3.out (by rw [ofL_len]; exact C3.out) (by rw [ofL_len]; have := HQ.out; have := HQ2.out; omega)
      rw [ofL_len] at h
      exact h)
    subst ho7
    clear K6
    go_wp2_with fail
    refine hbk.out.mono ?_
    rintro e w8 ⟨v, rfl, ho, hb⟩
    obtain ⟨A8, c8, rfl, hc8, hr8⟩ := ownT_read ho
    rw [ofL_len] at hc8
    have C8 := hid hc8
    have R8 := hid hr8
    have B8 := hid (cthen B7.out hb)
    have K8 := hid (blk_below K7.out hb)
    have Q8 := hid (blk_below Q7.out hb)
    have R5 := hid (R5.out.below hb)
    have R6 := hid (R6.out.below hb)
    rw [ofL_len]
    clear hb ho hc8 hr8 hbk K7 Q7
    have hsm := hid (by
      have h := fsame_any A8 A5 c8 c5 (ofL true D q) w8 R8.out R5.out (by rw [ofL_len]; exact C8.out) (by rw [ofL_len]; exact C5.out) (by rw [ofL_len]; have := HQ.out; have := HQ2.out; omega)
      rw [ofL_len] at h
      exact h)
    go_wp2_with fail
    refine hsm.out.mono ?_
    rintro e w9 ⟨rfl, hb⟩
    have B9 := hid (cthen B8.out hb)
    have K9 := hid (blk_below K8.out hb)
    have Q9 := hid (blk_below Q8.out hb)
    have R6 := hid (R6.out.below hb)
    clear hb hsm K8 Q8
    obtain ⟨⟨x0, x1, x2, x3⟩, -⟩ := four K9.out
    obtain ⟨⟨y0, y1, y2, y3⟩, -⟩ := four Q9.out
    have hs12 := hid (same12_any 194 0 A6 A none K c6 c 0 d D w9 R6.out (HC.out.below B9.out) C6.out HCC.out (by have := HQ2.out; omega))
    unfold ckV at hs12
    go_wp2_with fail
    refine hs12.out.mono ?_
    rintro e w10 ⟨rfl, hb⟩
    have B10 := hid (cthen B9.out hb)
    clear hb
    go_wp2_with fail
    go_ret
    exact ⟨rfl, B10.out⟩
set_option maxRecDepth 100000 in
theorem law11_any (t f : Int) (A K : Option Addr) (c d : Nat) (D : List Int) (xs : List PForwardChunks.S114) (w : World) (h0 : 0 ≤ f) (h1 : f ≤ 255) (hC : BC w A D) (hB : Byt D) (hc : D.length ≤ c) (hK : Kd.C PForwardChunks.k114 w K xs.length xs) (hd : xs.length ≤ d) (hg : GTab w) :
    Calls Tryz.prog 11 #[ckV t f A D.length c K xs.length d] w (IsPost (.bool true) w) := by
  by_cases hl : D.length ≤ 70000 ∧ xs.length ≤ 200
  · by_cases ht1 : t = 192
    · subst ht1
      obtain ⟨Y, hE⟩ : ∃ Y, codeOnly (E192 f D.length xs.length) = Y := ⟨_, rfl⟩
      rcases Y with _ | X
      · obtain ⟨hf, hm, q, hq, hq2⟩ := (pgood_192 h0 h1).1 hE
        rw [hm] at hK ⊢
        exact law11_192_good f A K c d D xs w q hf hm hq hq2 h0 h1 hC hB hc hK hd hg
      · exact law11_192_bad f A K c d D xs w X hE hl.1 (by omega) h0 h1 hC hB hc hK hd hg
    · by_cases ht2 : t = 194
      · subst ht2
        obtain ⟨Y, hE⟩ : ∃ Y, codeOnly (E194 f D xs.length) = Y := ⟨_, rfl⟩
        rcases Y with _ | X
        · obtain ⟨hf, hm, q, hq, hq2, hgb⟩ := (pgood_194 h0 h1).1 hE
          rw [hm] at hK ⊢
          exact law11_194_good f A K c d D xs w q hf hm hq hq2 hgb h0 h1 hC hB hc hK hd hg
        · exact law11_194_bad f A K c d D xs w X hE hl.1 (by omega) h0 h1 hC hB hc hK hd hg
      · exact law11_other t f A K c d D xs w ht1 ht2 h0 h1 hC hB hc hK hd hg
  · exact law11_long t f A K c d D xs w (by omega) h0 h1 hC hB hc hK hd hg
end Go.Proofs.YtcjcgehhmjnlcaaGreatDoor
