/- The state of the reference's packing: the result's box, its packets and rejected chunks, and the queue. -/
import Derived.Test.YtmfmomfhiieilaaGreatDoorBof
import Derived.Test.YtmfmomfhiieilaaGreatDoorBrk
set_option linter.unusedVariables false
set_option linter.unusedSimpArgs false
namespace Go.Proofs.YtmfmomfhiieilaaGreatDoor
open Go.RowKit Go.Shelf Go.Proofs.YtmfmomfhiieilaaGreatDoor.It Go.Proofs.YtmfmomfhiieilaaGreatDoorW.PrintWords Go.Proofs.YtmfmomfhiieilaaGreatDoorW.PrintLast Go.Proofs.YtmfmomfhiieilaaGreatDoorW.PrintMore
namespace Bn
open PBundleSorted
abbrev OwC (w0 w : World) (base : Nat) (v : Value) (l : List Ck) : Prop := OwnRow (kC.K w0) 42 4 w base v l
structure RfS (w : World) (s d g : Int) (Rp : Pk → List Value → Prop) (vp vr vq : Value) (pks : List Pk) (rej qs : List Ck) (W : World) : Prop where
  bel : Below w.heap.size w W
  hd : W.heap[w.heap.size]? = some (.cells #[.int .u16 s, .int .u16 d, .int .u32 g] 25 (0, 0))
  res : W.heap[w.heap.size + 1]? = some (.cells #[.slice none 0 0, .slice none 0 0, .int .i64 0, .int .i64 0] 35 (0, 0))
  out : W.heap[w.heap.size + 2]? = some (.cells #[vp, vr, .int .i64 0, .int .i64 0] 35 (0, 0))
  p : OwnRow Rp 38 4 W (w.heap.size + 3) vp pks
  r : OwC w W (w.heap.size + 3) vr rej
  q : OwC w W (w.heap.size + 3) vq qs
  ne : ∀ k, vq.ownBlock = some k → vr.ownBlock ≠ some k
  hz : w.heap.size + 3 ≤ W.heap.size
variable {w : World} {s d g : Int} {Rp : Pk → List Value → Prop} {vp vr vq : Value} {pks : List Pk} {rej qs : List Ck} {W : World}
theorem RfS.below {W1 : World} (h : RfS w s d g Rp vp vr vq pks rej qs W) (hb : Below W.heap.size W W1) : RfS w s d g Rp vp vr vq pks rej qs W1 :=
  ⟨cthen h.bel hb, blk_below h.hd hb, blk_below h.res hb, blk_below h.out hb, h.p.below hb, h.r.below hb, h.q.below hb, h.ne, Nat.le_trans h.hz hb.size⟩
theorem row_block {R : Ck → List Value → Prop} {e : TypeId} {w : World} {base : Nat} {v : Value} {l : List Ck} (h : OwnRow R e 4 w base v l) : ∀ k, v.ownBlock = some k → base ≤ k ∧ k < w.heap.size := by
  obtain ⟨inner, ho, -⟩ := h
  exact fun k hk => ⟨own_base ho k hk, own_lt ho k hk⟩
theorem row_two {α β : Type} {R : α → List Value → Prop} {R2 : β → List Value → Prop} {w : World} {b1 b2 s1 s2 : Nat} {v1 v2 : Value} {x1 : List α} {x2 : List β} {t1 t2 : TypeId} (h1 : OwnRow R t1 s1 w b1 v1 x1) (h2 : OwnRow R2 t2 s2 w b2 v2 x2) (ht : t1 ≠ t2) : v1.ownBlock = none ∨ v1.ownBlock ≠ v2.ownBlock := by
  obtain ⟨i1, o1, -⟩ := h1
  obtain ⟨i2, o2, -⟩ := h2
  exact own_two o1 o2 ht
theorem row_size (W : World) (a : Addr) (u : Value) : (W.setCell a u).heap.size = W.heap.size := by simp [World.setCell]
theorem RfS.addQ {w9 : World} {v9 : Value} {qs' : List Ck} (h : RfS w s d g Rp vp vr vq pks rej qs W) (ho : OwC w w9 (w.heap.size + 3) v9 qs') (hb : Below (w.heap.size + 3) W w9) (hg : W.grownBy w9 vq.ownBlock) (hat : v9.ownBlock = vq.ownBlock ∨ ∃ b, v9.ownBlock = some b ∧ W.heap.size ≤ b) : RfS w s d g Rp vp vr v9 pks rej qs' w9 := by
  have hsz := hb.size
  refine ⟨h.bel.trans (hb.mono (by omega)), (hb.block _ (by omega)).trans h.hd, (hb.block _ (by omega)).trans h.res, (hb.block _ (by omega)).trans h.out, h.p.other hg (row_two h.p h.q (by decide)), h.r.other hg ?_, ho, fun k hk => ?_, Nat.le_trans h.hz hsz⟩
  · cases e : vr.ownBlock with
    | none => exact .inl rfl
    | some k => exact .inr (fun he => h.ne k he.symm e)
  · rcases hat with hat | ⟨b, hb2, hle⟩
    · exact h.ne k (hat ▸ hk)
    · rw [hb2] at hk
      injection hk with hk
      subst hk
      intro he
      have := (row_block h.r b he).2
      omega
theorem RfS.addR {w9 : World} {v9 : Value} {rej' : List Ck} (h : RfS w s d g Rp vp vr vq pks rej qs W) (ho : OwC w w9 (w.heap.size + 3) v9 rej') (hb : Below (w.heap.size + 3) W w9) (hg : W.grownBy w9 vr.ownBlock) (hat : v9.ownBlock = vr.ownBlock ∨ ∃ b, v9.ownBlock = some b ∧ W.heap.size ≤ b) : RfS w s d g Rp vp v9 vq pks rej' qs (w9.setCell ⟨w.heap.size + 2, 1, none⟩ v9) := by
  have hsz := hb.size
  have hout := (hb.block _ (Nat.lt_succ_self (w.heap.size + 2))).trans h.out
  have hq := h.q.other hg (by
    cases e : vq.ownBlock with
    | none => exact .inl rfl
    | some k => exact .inr (fun he => h.ne k e he.symm))
  refine ⟨below_set (h.bel.trans (hb.mono (by omega))) (by omega) _, blk_fars ((hb.block _ (by omega)).trans h.hd) (by omega), blk_fars ((hb.block _ (by omega)).trans h.res) (by omega), set_blk3 hout 1 v9, (h.p.other hg (row_two h.p h.r (by decide))).set_ hout (by decide) _ _, ho.set_ hout (by decide) _ _, hq.set_ hout (by decide) _ _, fun k hk he => ?_, by rw [row_size]; exact Nat.le_trans h.hz hsz⟩
  rcases hat with hat | ⟨b, hb2, hle⟩
  · exact h.ne k hk (hat ▸ he)
  · rw [hb2] at he
    injection he with he
    subst he
    have := (row_block h.q b hk).2
    omega
theorem RfS.addP {w9 : World} {v9 : Value} {pks' : List Pk} (h : RfS w s d g Rp vp vr vq pks rej qs W) (ho : OwnRow Rp 38 4 w9 (w.heap.size + 3) v9 pks') (hb : Below (w.heap.size + 3) W w9) (hg : W.grownBy w9 vp.ownBlock) : RfS w s d g Rp v9 vr vq pks' rej qs (w9.setCell ⟨w.heap.size + 2, 0, none⟩ v9) := by
  have hsz := hb.size
  have hout := (hb.block _ (Nat.lt_succ_self (w.heap.size + 2))).trans h.out
  refine ⟨below_set (h.bel.trans (hb.mono (by omega))) (by omega) _, blk_fars ((hb.block _ (by omega)).trans h.hd) (by omega), blk_fars ((hb.block _ (by omega)).trans h.res) (by omega), set_blk3 hout 0 v9, ho.set_ hout (by decide) _ _, (h.r.other hg (row_two h.r h.p (by decide))).set_ hout (by decide) _ _, (h.q.other hg (row_two h.q h.p (by decide))).set_ hout (by decide) _ _, h.ne, by rw [row_size]; exact Nat.le_trans h.hz hsz⟩
/-- Rows of what was there at the start are read later. -/
theorem owc_reads {base : Nat} {v : Value} {l : List Ck} (h : OwC w W base v l) (hb : Below w.heap.size w W) : ∃ A c, v = .slice A l.length c ∧ l.length ≤ c ∧ CsC W A l.length l := by
  obtain ⟨A, c, e, hl, r⟩ := OwnRow.reads h
  exact ⟨A, c, e, hl, r.imp_ (Below.refl _ _) (fun _ _ hp => kC.K_below hb hp)⟩
/-- A part of a row that is read. -/
theorem cs_sub {W : World} {b off n : Nat} {l : List Ck} (h : CsC W (some ⟨b, off, none⟩) n l) (k m : Nat) (hk : k + m ≤ n) : CsC W (some ⟨b, off + k * 4, none⟩) m ((l.drop k).take m) := by
  have hl := h.1
  refine ⟨by rw [List.length_take, List.length_drop]; omega, by have := h.2.1; omega, fun hm => ⟨_, rfl, fun j p hj => ?_⟩⟩
  obtain ⟨ad, e, hc⟩ := h.2.2 (by omega)
  injection e with e
  subst e
  have hjm : j < m := by
    have := (List.getElem?_eq_some_iff.1 hj).1
    rw [List.length_take] at this
    omega
  rw [List.getElem?_take, if_pos hjm, List.getElem?_drop] at hj
  obtain ⟨c, h1, h2, h3⟩ := hc (k + j) p hj
  refine ⟨c, h1, h2, fun i u hu => ?_⟩
  have := h3 i u hu
  have hz : kC.sz = 4 := rfl
  rw [hz, Go.WideShapes.add_plain] at this
  rw [hz, Go.WideShapes.add_plain, show off + k * 4 + (j * 4 + i) = off + ((k + j) * 4 + i) by omega]
  exact this
/-- Cutting slices of chunks. -/
theorem sl_parts : (∃ i0, Tryz.prog.info? 42 = some i0 ∧ i0.size = 4) ∧ Tryz.prog.elem 26 = 42 ∧ Tryz.prog.underlying 26 = some (.slice (Tryz.prog.elem 26)) := by
  obtain ⟨i0, hi, hzz⟩ := Option.map_eq_some_iff.1 infoC
  simp only [Prod.mk.injEq] at hzz
  have hel : Tryz.prog.elem 26 = 42 := by simp [Program.elem, Tryz.underlying26]
  exact ⟨⟨i0, hi, hzz.2.1⟩, hel, by rw [hel]; exact Tryz.underlying26⟩
theorem cut_h (A3 : Option Addr) (m n c : Nat) (h : m ≤ c) (W : World) : (Instr.slice 26 (.slice A3 n c) none (some (.int .i64 (m : Int))) none).run Tryz.prog W = .ok (.slice A3 m c) W := by
  obtain ⟨⟨i0, hi, hs⟩, hel, hu⟩ := sl_parts
  have ha : (A3.map fun x => x.add 0) = A3 := by cases A3 <;> simp [Addr.add]
  rw [run_slice_h W 26 A3 n c hu .i64 m (by omega) (by omega), hel]
  simp [sizeOf, typeInfo, hi, sliced, Result.andThen, ha]
theorem cut_lh (b off n c i : Nat) (h : i < n) (hc : n ≤ c) (W : World) : (Instr.slice 26 (.slice (some ⟨b, off, none⟩) n c) (some (.int .i64 (i : Int))) (some (.int .i64 ((i + 1 : Nat) : Int))) none).run Tryz.prog W = .ok (.slice (some ⟨b, off + i * 4, none⟩) 1 (c - i)) W := by
  obtain ⟨⟨i0, hi, hs⟩, hel, hu⟩ := sl_parts
  rw [run_slice_lh W 26 (some ⟨b, off, none⟩) n c hu .i64 .i64 i ((i + 1 : Nat) : Int) (by omega) (by omega) (by omega), hel]
  have hne : ¬ c = i := by omega
  simp [sizeOf, typeInfo, hi, hs, sliced, Result.andThen, hne, Go.WideShapes.add_plain]
theorem cut_l (b k m c n : Nat) (h : n ≤ m) (hc : m ≤ c) : ∃ A', (0 < m - n → A' = some ⟨b, (k + n) * 4, none⟩) ∧ ∀ W, (Instr.slice 26 (.slice (some ⟨b, k * 4, none⟩) m c) (some (.int .i64 (n : Int))) none none).run Tryz.prog W = .ok (.slice A' (m - n) (c - n)) W := by
  obtain ⟨⟨i0, hi, hs⟩, hel, hu⟩ := sl_parts
  refine ⟨if c = n then some ⟨b, k * 4, none⟩ else some ⟨b, (k + n) * 4, none⟩, fun h0 => if_neg (by omega), fun W => ?_⟩
  rw [run_slice_l W 26 (some ⟨b, k * 4, none⟩) m c hu .i64 n (by omega) (by omega), hel]
  by_cases hcn : c = n
  · simp [sizeOf, typeInfo, hi, hs, sliced, Result.andThen, hcn]
  · simp [sizeOf, typeInfo, hi, hs, sliced, Result.andThen, hcn, Go.WideShapes.add_plain, Nat.add_mul]
end Bn
end Go.Proofs.YtmfmomfhiieilaaGreatDoor
/- 'wharfref26.Of': the packets of the reference, or its error. -/
set_option linter.unusedVariables false
set_option linter.unusedSimpArgs false
namespace Go.Proofs.YtmfmomfhiieilaaGreatDoor
open Go.RowKit Go.Shelf Go.Proofs.YtmfmomfhiieilaaGreatDoor.It Go.Proofs.YtmfmomfhiieilaaGreatDoorW.PrintWords Go.Proofs.YtmfmomfhiieilaaGreatDoorW.PrintLast Go.Proofs.YtmfmomfhiieilaaGreatDoorW.PrintMore
namespace Bn
open PBundleSorted
/-- What 'wharfref26.Of' gives. -/
def RfP (s d g M : Int) (l : List Ck) (w : World) (e : Ending) (w' : World) : Prop :=
  (∀ er, ofErr M l = some er → e = .returned (.agg #[.slice none 0 0, .slice none 0 0, .int .i64 er.1, .int .i64 (er.2.getD (-1))])) ∧
  (ofErr M l = none → ∃ A c A2 c2, e = .returned (.agg #[.slice A (outsC M l).length c, .slice A2 (rejC M l).length c2, .int .i64 0, .int .i64 0]) ∧ (outsC M l).length ≤ c ∧ kP.C w' A (outsC M l).length ((outsC M l).map (mkP s d g)) ∧ (rejC M l).length ≤ c2 ∧ CsC w' A2 (rejC M l).length (rejC M l)) ∧ Below w.heap.size w w'
theorem RfP.err {s d g M : Int} {l : List Ck} {w w' : World} {e : Ending} {er : Int × Option Int} (h : ofErr M l = some er) (he : e = .returned (.agg #[.slice none 0 0, .slice none 0 0, .int .i64 er.1, .int .i64 (er.2.getD (-1))])) (hb : Below w.heap.size w w') : RfP s d g M l w e w' :=
  ⟨fun er' h' => by rw [h] at h'; cases h'; exact he, fun h' => (by rw [h] at h'; cases h'), hb⟩
def fitL (M : Int) (l : List Ck) : List Ck := l.filter (fitC M)
theorem fitL_step (M : Int) (l : List Ck) (i : Nat) (h : i < l.length) : fitL M (l.take (i + 1)) = fitL M (l.take i) ++ (if fitC M l[i] = true then [l[i]] else []) := by
  unfold fitL
  rw [List.take_succ_eq_append_getElem h, List.filter_append]
  by_cases hf : fitC M l[i] = true <;> simp [hf]
theorem psz_one (x : Ck) : psz [x] = up (csz x) := by simp [psz]
theorem fit_gt (M : Int) (x : Ck) (z : Nat) (hz : 12 + psz [x] = z) : (decide (M < (z : Int))) = !fitC M x := by
  subst hz
  rw [psz_one]
  unfold fitC
  by_cases h : M < ((12 + up (csz x) : Nat) : Int)
  · rw [decide_eq_true h, decide_eq_false (by omega)]; rfl
  · rw [decide_eq_false h, decide_eq_true (by omega)]; rfl
/-- A packet of the reference: a part of the queue. -/
def RpQ (bq : Nat) (qs : List Ck) (p : Pk) (cs : List Value) : Prop := ∃ k, cs = [.int .u16 p.f0.f0, .int .u16 p.f0.f1, .int .u32 p.f0.f2, .slice (some ⟨bq, k * 4, none⟩) p.f1.length p.f1.length] ∧ k + p.f1.length ≤ qs.length ∧ p.f1 = (qs.drop k).take p.f1.length
theorem RfS.nilP {w W : World} {s d g : Int} {Rp Rp' : Pk → List Value → Prop} {vr vq : Value} {rej qs : List Ck} (h : RfS w s d g Rp (.slice none 0 0) vr vq [] rej qs W) : RfS w s d g Rp' (.slice none 0 0) vr vq [] rej qs W :=
  ⟨h.bel, h.hd, h.res, h.out, OwnRow.none_ _ _ _ _ _, h.r, h.q, h.ne, h.hz⟩
theorem RfS.fin {w W : World} {s d g : Int} {bq : Nat} {vp vr vq : Value} {pks : List Pk} {rej qs : List Ck} (h : RfS w s d g (RpQ bq qs) vp vr vq pks rej qs W) (hq : 0 < qs.length → ∀ A n c, vq = .slice A n c → A = some ⟨bq, 0, none⟩) :
    ∀ u0 u1 u2 u3, ∃ A c A2 c2, vp = .slice A pks.length c ∧ vr = .slice A2 rej.length c2 ∧ pks.length ≤ c ∧ kP.C (set4 W (w.heap.size + 1) u0 u1 u2 u3) A pks.length pks ∧ rej.length ≤ c2 ∧ CsC (set4 W (w.heap.size + 1) u0 u1 u2 u3) A2 rej.length rej ∧ Below w.heap.size w (set4 W (w.heap.size + 1) u0 u1 u2 u3) := by
  intro u0 u1 u2 u3
  have hres := h.res
  have s0 := set_blk3 hres 0 u0
  have s1 := set_blk3 s0 1 u1
  have s2 := set_blk3 s1 2 u2
  have hb : Below w.heap.size w (set4 W (w.heap.size + 1) u0 u1 u2 u3) := set4_below h.bel (by omega)
  have hp := (((h.p.set_ hres (by decide) 0 u0).set_ s0 (by decide) 1 u1).set_ s1 (by decide) 2 u2).set_ s2 (by decide) 3 u3
  have hr := (((h.r.set_ hres (by decide) 0 u0).set_ s0 (by decide) 1 u1).set_ s1 (by decide) 2 u2).set_ s2 (by decide) 3 u3
  have hqq := (((h.q.set_ hres (by decide) 0 u0).set_ s0 (by decide) 1 u1).set_ s1 (by decide) 2 u2).set_ s2 (by decide) 3 u3
  obtain ⟨A2, c2, e2, l2, r2⟩ := owc_reads hr hb
  obtain ⟨Aq, cq, eq, lq, rq⟩ := owc_reads hqq hb
  obtain ⟨A, c, e, l, r⟩ := OwnRow.reads hp
  refine ⟨A, c, A2, c2, e, e2, l, r.imp_ (Below.refl _ _) (fun p cs hpp => ?_), l2, r2, hb⟩
  obtain ⟨k, rfl, hk, hf⟩ := hpp
  refine k38_mk _ p (Nat.le_refl _) ?_
  rcases Nat.eq_zero_or_pos p.f1.length with h0 | h0
  · rw [List.eq_nil_of_length_eq_zero h0]
    exact ⟨rfl, by decide, fun h => absurd h (by decide)⟩
  · rw [hq (by omega) _ _ _ eq] at rq
    have h2 := cs_sub rq k p.f1.length hk
    rw [Nat.zero_add, ← hf] at h2
    exact h2
def lenV : Value → Nat
  | .slice _ n _ => n
  | _ => 0
theorem tg_take (g : Int) (Q : List Ck) (j : Nat) (hj : 1 ≤ j) (h : 0 < Q.length) : tg g (Q.take j) = if (Q[0]).f0 = 1 then 0 else g := by
  obtain ⟨j', rfl⟩ : ∃ j', j = j' + 1 := ⟨j - 1, by omega⟩
  cases Q with
  | nil => simp at h
  | cons a Q => rfl
theorem rf1_blw {S W W' : World} {a0 : Addr} {v0 : Value} (h : Below S.heap.size S W ∧ W.cell? a0 = some v0) (hb : Below W.heap.size W W') : Below S.heap.size S W' ∧ W'.cell? a0 = some v0 := ⟨cthen h.1 hb, pw_cell_below hb h.2⟩
theorem rf3_blw {S W W' : World} {a0 a1 a2 : Addr} {v0 v1 v2 : Value} (h : Below S.heap.size S W ∧ W.cell? a0 = some v0 ∧ W.cell? a1 = some v1 ∧ W.cell? a2 = some v2) (hb : Below W.heap.size W W') : Below S.heap.size S W' ∧ W'.cell? a0 = some v0 ∧ W'.cell? a1 = some v1 ∧ W'.cell? a2 = some v2 := ⟨cthen h.1 hb, pw_cell_below hb h.2.1, pw_cell_below hb h.2.2.1, pw_cell_below hb h.2.2.2⟩
set_option maxRecDepth 100000 in
set_option maxHeartbeats 16000000 in
theorem rof_any (s d g M : Int) (l : List Ck) (A : Option Addr) (n c : Nat) (w : World) (hn : l.length = n) (hC : CsC w A n l) (hc : n ≤ c) (hl : n ≤ 900) (hok : ∀ x ∈ l, CkOk x) :
    Calls Tryz.prog 10 #[.agg #[.int .u16 s, .int .u16 d, .int .u32 g], .int .i64 M, .slice A n c] w (RfP s d g M l w) := by
  obtain ⟨S, hS⟩ : ∃ S, ((w.alloc (.cells #[.int .u16 s, .int .u16 d, .int .u32 g] 25)).alloc (.cells #[.slice none 0 0, .slice none 0 0, .int .i64 0, .int .i64 0] 35)).alloc (.cells #[.slice none 0 0, .slice none 0 0, .int .i64 0, .int .i64 0] 35) = S := ⟨_, rfl⟩
  have HS := hid hS
  have hI0 : RfS w s d g (fun _ _ => False) (.slice none 0 0) (.slice none 0 0) (.slice none 0 0) [] (rejC M (l.take 0)) (fitL M (l.take 0)) S := by
    refine ⟨?_, ?_, ?_, ?_, OwnRow.none_ _ _ _ _ _, OwnRow.none_ _ _ _ _ _, OwnRow.none_ _ _ _ _ _, fun k hk => by simp [Value.ownBlock] at hk, ?_⟩
    · rw [← hS]; exact below_alloc (below_alloc (below_alloc (Below.refl _ _) _) _) _
    · rw [← hS]; exact blk_alloc (blk_alloc (blk_new w _))
    · rw [← hS]
      have h := blk_new (w.alloc (.cells #[.int .u16 s, .int .u16 d, .int .u32 g] 25)) (.cells #[.slice none 0 0, .slice none 0 0, .int .i64 0, .int .i64 0] 35)
      rw [World.size_alloc] at h
      exact blk_alloc h
    · rw [← hS]
      have h := blk_new ((w.alloc (.cells #[.int .u16 s, .int .u16 d, .int .u32 g] 25)).alloc (.cells #[.slice none 0 0, .slice none 0 0, .int .i64 0, .int .i64 0] 35)) (.cells #[.slice none 0 0, .slice none 0 0, .int .i64 0, .int .i64 0] 35)
      rw [World.size_alloc, World.size_alloc] at h
      exact h
    · rw [← hS, World.size_alloc, World.size_alloc, World.size_alloc]; exact Nat.le_refl _
  have HI0 := hid hI0
  have HC := hid hC
  have HN := hid hn
  have HL := hid hl
  have HOK := hid hok
  have HCC := hid hc
  clear hS hI0 hn hC hl hok
  by_cases hM1 : M < 64
  · have HE := hid (show ofErr M l = some (11, none) by unfold ofErr; rw [if_pos hM1])
    go_enter Tryz.func10, Tryz.ntmps10
    go_wp2_with fail
    exact bodyPost_ret (v := .agg #[.slice none 0 0, .slice none 0 0, .int .i64 11, .int .i64 (-1)]) (by simp [results, Tryz.results10, go_sem]) rfl (RfP.err HE.out rfl (below_alloc (below_alloc (Below.refl _ _) _) _))
  by_cases hM2 : 65535 < M
  · have HE := hid (show ofErr M l = some (11, none) by unfold ofErr; rw [if_neg hM1, if_pos hM2])
    go_enter Tryz.func10, Tryz.ntmps10
    go_wp2_with fail
    exact bodyPost_ret (v := .agg #[.slice none 0 0, .slice none 0 0, .int .i64 11, .int .i64 (-1)]) (by simp [results, Tryz.results10, go_sem]) rfl (RfP.err HE.out rfl (below_alloc (below_alloc (Below.refl _ _) _) _))
  have HE := hid (show ofErr M l = fstBad 0 (l.drop 0) by unfold ofErr; rw [if_neg hM1, if_neg hM2]; rfl)
  go_enter Tryz.func10, Tryz.ntmps10
  go_wp2_with fail
  rw [HS.out]
  go_loopw [8, 9] (fun vq vi W => ∃ (i : Nat) (vr : Value), vi = .int .i64 i ∧ i ≤ n ∧ Hid (ofErr M l = fstBad i (l.drop i)) ∧ Hid (RfS w s d g (fun _ _ => False) (.slice none 0 0) vr vq [] (rejC M (l.take i)) (fitL M (l.take i)) W)) (fun _ vi _ => n - (intOf vi).toNat)
  case atStart => exact ⟨0, _, rfl, by omega, HE, HI0⟩
  case round =>
    obtain ⟨i, vr, rfl, hi, hE, hI⟩ := hrel
    clear HI0 HE
    by_cases hlt : i < n
    · have hil : i < l.length := by have := HN.out; omega
      obtain ⟨b, off, B1, d1, B2, d2, rfl, k0, k1, k2, k3, l1, g1, l2, g2⟩ := chunk_at HC.out i hil
      have hst := fst_step i l hil
      have hfs := fitL_step M l i hil
      have hrs := rej_step M l i hil
      have hxo := HOK.out _ (List.getElem_mem hil)
      have hone := cs_sub HC.out i 1 (by omega)
      have hq1 : (fitL M (l.take i)).length ≤ i := by
        have h := List.length_filter_le (fitC M) (l.take i)
        rw [List.length_take] at h
        unfold fitL
        omega
      have hr1 : (rejC M (l.take i)).length ≤ i := by
        have h := List.length_filter_le (fun x => !fitC M x) (l.take i)
        rw [List.length_take] at h
        unfold rejC
        omega
      rw [List.drop_eq_getElem_cons hil, List.take_succ_cons, List.take_zero] at hone
      obtain ⟨x, hx⟩ : ∃ x, l[i] = x := ⟨_, rfl⟩
      rw [hx] at k0 k1 k2 k3 l1 g1 l2 g2 hst hxo hfs hrs hone
      obtain ⟨qs, hqs⟩ : ∃ qs, fitL M (l.take i) = qs := ⟨_, rfl⟩
      obtain ⟨rej, hrej⟩ : ∃ rej, rejC M (l.take i) = rej := ⟨_, rfl⟩
      rw [hqs] at hI hq1 hfs
      rw [hrej] at hI hr1 hrs
      have HQ1 := hid (show qs.length ≤ 900 by have := HL.out; omega)
      have HR1 := hid (show rej.length ≤ 900 by have := HL.out; omega)
      obtain ⟨m1, hm1⟩ : ∃ m, x.f2.length = m := ⟨_, rfl⟩
      obtain ⟨m2, hm2⟩ : ∃ m, x.f3.length = m := ⟨_, rfl⟩
      have hK : kC.K w x [.int .u8 x.f0, .int .u8 x.f1, .slice B1 m1 d1, .slice B2 m2 d2] := by
        have h := k42_mk w x l1 g1 l2 g2
        rw [hm1, hm2] at h
        exact h
      have HK := hid hK
      have hck := fun W (hW : Below w.heap.size w W) => rCk_any x.f0 x.f1 B1 B2 m1 d1 m2 d2 x.f2 x.f3 W hxo.g0 hxo.g1 hm1 (g1.below hW) hxo.byt (by omega) (by have := hxo.len; omega) hm2 (by rw [← hm2]; exact Kd.C_below g2 hW) (by omega) (by have := hxo.cnt; omega) hxo.nds
      change ∀ W, _ → Calls _ _ _ _ (IsPost (.int .i64 (cCode x)) W) at hck
      obtain ⟨z, hz⟩ : ∃ z, 12 + psz [x] = z := ⟨_, rfl⟩
      have hfg := fit_gt M x z hz
      have hsz := fun W (hW : Below w.heap.size w W) => rpsize_any (some ⟨b, off + i * 4, none⟩) 1 (c - i) [x] W rfl (Kd.C_below hone hW) (by omega) ⟨by simp, fun y hy => by simp at hy; subst hy; exact ⟨hxo.len, hxo.cnt⟩⟩
      rw [hz] at hsz
      have hcut := cut_lh b off n c i hlt HCC.out
      rw [hm1] at k2
      rw [hm2] at k3
      unfold ckV at hck
      have HWI := hid (show wrap64 ((i : Int) + 1) = ((i + 1 : Nat) : Int) by have := HL.out; unfold wrap64; omega)
      obtain ⟨r, hr⟩ : ∃ r, cCode x = r := ⟨_, rfl⟩
      rw [hr] at hst hck
      rw [← hE.out] at hst
      have HFS := hid hfs
      have HRS := hid hrs
      have HCUT := hid hcut
      have HSZ := hid hsz
      have HFG := hid hfg
      have HK0 := hid (And.intro k0 (And.intro k1 (And.intro k2 k3)))
      clear hx hqs hrej hm1 hm2 hz hr g1 g2 l1 l2 hil hxo hone hK hE hq1 hr1 hfs hrs hcut hsz hfg
      have k0' := pw_cell_below hI.out.bel k0
      have k1' := pw_cell_below hI.out.bel k1
      have k2' := pw_cell_below hI.out.bel k2
      have k3' := pw_cell_below hI.out.bel k3
      have hck := hck wr hI.out.bel
      clear k0 k1 k2 k3
      by_cases h0 : r = 0
      · subst h0
        rw [if_pos rfl] at hst
        have HST := hid hst
        clear hst
        go_wp2_with fail
        refine hck.mono ?_
        rintro e W6 ⟨rfl, hb6⟩
        have hI6 := hid (RfS.below hI.out hb6)
        clear hb6 hck k0' k1' k2' k3'
        have hcut := HCUT.out
        have hwi := HWI.out
        go_wp2_with fail
        clear hcut hwi
        refine (HSZ.out W6 hI6.out.bel).mono ?_
        rintro e W7 ⟨rfl, hb7⟩
        have hI7 := hid (RfS.below hI6.out hb7)
        clear hb7
        obtain ⟨Aq, cq, rfl, lq, -⟩ := owc_reads hI7.out.q hI7.out.bel
        obtain ⟨Ar, cr, rfl, lr, -⟩ := owc_reads hI7.out.r hI7.out.bel
        obtain ⟨nq, hnq⟩ : ∃ nq, qs.length = nq := ⟨_, rfl⟩
        obtain ⟨nr, hnr⟩ : ∃ nr, rej.length = nr := ⟨_, rfl⟩
        rw [hnq, hnr] at hI7
        rw [hnq]
        have HNQ := hid hnq
        have HNR := hid hnr
        have k0 := pw_cell_below hI7.out.bel HK0.out.1
        have k1 := pw_cell_below hI7.out.bel HK0.out.2.1
        have k2 := pw_cell_below hI7.out.bel HK0.out.2.2.1
        have k3 := pw_cell_below hI7.out.bel HK0.out.2.2.2
        obtain ⟨ft, hft⟩ : ∃ ft, fitC M x = ft := ⟨_, rfl⟩
        rw [hft] at HFS HRS HFG
        have hfg := HFG.out
        clear hnq hnr hft lq lr hI6 hI
        cases ft with
        | true =>
          have hfg1 : ¬ (M < (z : Int)) := of_decide_eq_false hfg
          have HQS2 := hid (show fitL M (l.take (i + 1)) = qs ++ [x] by rw [HFS.out, if_pos rfl])
          have HRS2 := hid (show rejC M (l.take (i + 1)) = rej by rw [HRS.out, if_pos rfl, List.append_nil])
          clear hfg
          go_wp2_with (at_builtin; go_loud (refine OwnRow.append (w0 := W7) (W := W7) (w.heap.size + 3) rfl _ _ 26 42 _ 4 56 rfl Tryz.underlying26 infoC rfl (by decide) (by decide) (.slice Aq nq cq) qs x [.int .u8 x.f0, .int .u8 x.f1, .slice B1 m1 d1, .slice B2 m2 d2] rfl rfl HK.out rfl (by intro u hu; simp only [List.mem_cons, List.not_mem_nil, or_false] at hu; rcases hu with rfl | rfl | rfl | rfl <;> rfl) hI7.out.q (Below.refl _ _) hI7.out.hz (by have := HQ1.out; omega) ?_); intro v9 w9 hO9 hB9 hG9 hA9; have HI9 := hid (RfS.addQ hI7.out hO9 hB9 hG9 hA9); clear hO9 hB9 hG9 hA9)
          have hI9 := HI9.out
          rw [← HQS2.out, ← HRS2.out] at hI9
          exact ⟨⟨i + 1, _, by rw [HWI.out], hlt, HST, hid hI9⟩, by rw [HWI.out]; simp only [intOf, Int.toNat_natCast]; omega⟩
        | false =>
          have hfg1 : M < (z : Int) := of_decide_eq_true hfg
          have HQS2 := hid (show fitL M (l.take (i + 1)) = qs by rw [HFS.out, if_neg (by decide), List.append_nil])
          have HRS2 := hid (show rejC M (l.take (i + 1)) = rej ++ [x] by rw [HRS.out, if_neg (by decide)])
          clear hfg
          obtain ⟨⟨o0, o1, o2, o3⟩, -⟩ := four hI7.out.out
          go_upto_region 12 with fail
          have hS0 : Below W7.heap.size W7 W7.drew ∧ W7.drew.cell? ⟨w.heap.size + 2, 1, none⟩ = some (.slice Ar nr cr) ∧ W7.drew.cell? ⟨b, off + i * 4, none⟩ = some (.int .u8 x.f0) ∧ W7.drew.cell? ⟨b, off + i * 4 + 1, none⟩ = some (.int .u8 x.f1) ∧ W7.drew.cell? ⟨b, off + i * 4 + 2, none⟩ = some (.slice B1 m1 d1) ∧ W7.drew.cell? ⟨b, off + i * 4 + 3, none⟩ = some (.slice B2 m2 d2) := ⟨below_drew (Below.refl _ _) 1, o1, k0, k1, k2, k3⟩
          clear o0 o1 o2 o3 k0 k1 k2 k3
          refine start_ (n := 10) (S := (fun W => Below W7.heap.size W7 W ∧ W.cell? ⟨w.heap.size + 2, 1, none⟩ = some (.slice Ar nr cr) ∧ W.cell? ⟨b, off + i * 4, none⟩ = some (.int .u8 x.f0) ∧ W.cell? ⟨b, off + i * 4 + 1, none⟩ = some (.int .u8 x.f1) ∧ W.cell? ⟨b, off + i * 4 + 2, none⟩ = some (.slice B1 m1 d1) ∧ W.cell? ⟨b, off + i * 4 + 3, none⟩ = some (.slice B2 m2 d2))) (ds := [7, 9]) (bA 10 0) (by kernel_rfl) rfl rfl hS0 (fun hHeld => ?_)
          generalize W7.drew = w45 at hS0 hHeld ⊢
          refine pU 0 (some 45) (bA 10 1) rfl rfl ?_
          refine pU 2 (some 47) (bA 10 5) rfl rfl ?_
          refine pU 3 (some 48) (bA 10 13) rfl rfl ?_
          refine pU 4 (some 49) (bA 10 29) rfl rfl ?_
          refine tU 1 (some 46) (bA 10 31) rfl rfl hHeld (by rintro w' ⟨q0, q1, q2, q3, q4, q5⟩; go_simp; with_reducible rfl) ?_
          refine tU 5 (some 50) (bA 10 63) rfl rfl hHeld (by rintro w' ⟨q0, q1, q2, q3, q4, q5⟩; go_simp; with_reducible rfl) ?_
          refine one_ (i := 6) (N := some 51) (bA 10 127) rfl rfl (by kernel_rfl) (by decide) (fun KK hK => ?_)
          refine value_ (w1 := w45.alloc (.cells #[.int .u8 x.f0, .int .u8 x.f1, .slice B1 m1 d1, .slice B2 m2 d2] 42)) (v := .slice (some ⟨w45.heap.size, 0, none⟩) 1 1) (by rfl) rfl (by go_simp; done) ?_
          refine hK.out _ _ (rm_blw hHeld (below_alloc (Below.refl _ _) _)) (fun hHeld8 => ?_)
          clear hK KK
          refine nU ?_
          refine last_ (i := 7) (N := some 52) (bA 10 255) rfl rfl (by kernel_rfl) (by decide) (fun KK hK => ?_)
          have hI8 := RfS.below hI7.out hHeld.1
          refine OwnRow.append_step (w0 := w45) (W := w45) (w.heap.size + 3) (by rfl) _ _ 26 42 _ 4 56 (by rfl) Tryz.underlying26 infoC rfl (by decide) (by decide) (.slice Ar nr cr) rej x [.int .u8 x.f0, .int .u8 x.f1, .slice B1 m1 d1, .slice B2 m2 d2] (by rfl) (by rfl) HK.out rfl (by intro u hu; simp only [List.mem_cons, List.not_mem_nil, or_false] at hu; rcases hu with rfl | rfl | rfl | rfl <;> rfl) hI8.r (Below.refl _ _) hI8.hz (by have := HR1.out; omega) ?_
          rintro v9 w9 hO9 hB9 hG9 hA9
          obtain ⟨A9, c9, rfl, -⟩ := OwnRow.slice_ hO9
          obtain ⟨⟨g0, g1, g2, g3⟩, ⟨f0, f1, f2, f3⟩⟩ := four ((hB9.block _ (Nat.lt_succ_self (w.heap.size + 2))).trans hI8.out)
          have HI9 := hid (RfS.addR hI8 hO9 hB9 hG9 hA9)
          clear hO9 hB9 hG9 hA9 hI8
          refine hK.out _ _ ?_
          clear hK KK
          refine nU ?_
          refine pU 8 (some 53) (bA 10 511) rfl rfl ?_
          refine last_ (i := 9) (N := none) (bA 10 1023) rfl rfl (by kernel_rfl) (by decide) (fun KK hK => ?_)
          refine skip_ (w1 := w9.setCell ⟨w.heap.size + 2, 1, none⟩ (.slice A9 (rej ++ [x]).length c9)) (by rfl) rfl (by go_simp; done) ?_
          refine hK.out _ _ ?_
          clear hK KK
          refine done_ (by kernel_rfl) ?_
          have hI9 := HI9.out
          rw [show (rej ++ [x]).length = rej.length + 1 by simp, ← HQS2.out, ← HRS2.out] at hI9
          have HI9' := hid hI9
          clear hI9 hS0 hHeld hHeld8 g0 g1 g2 g3 f0 f1 f2 f3
          go_wp2_with fail
          exact ⟨⟨i + 1, _, by rw [HWI.out], hlt, HST, HI9'⟩, by rw [HWI.out]; simp only [intOf, Int.toNat_natCast]; omega⟩
      · rw [if_neg h0] at hst
        have HST := hid hst
        clear hst
        go_wp2_with fail
        refine hck.mono ?_
        rintro e W6 ⟨rfl, hb6⟩
        have hI6 := hid (RfS.below hI.out hb6)
        clear hb6 hck k0' k1' k2' k3' hI
        obtain ⟨⟨r0, r1, r2, r3⟩, ⟨f0, f1, f2, f3⟩⟩ := four hI6.out.res
        go_wp2_with fail
        clear r0 r1 r2 r3 f0 f1 f2 f3
        obtain ⟨⟨s0, s1, s2, s3⟩, -⟩ := four (show ((((W6.setCell ⟨w.heap.size + 1, 0, none⟩ (.slice none 0 0)).setCell ⟨w.heap.size + 1, 1, none⟩ (.slice none 0 0)).setCell ⟨w.heap.size + 1, 2, none⟩ (.int .i64 r)).setCell ⟨w.heap.size + 1, 3, none⟩ (.int .i64 (i : Int))).heap[w.heap.size + 1]? = some (.cells #[.slice none 0 0, .slice none 0 0, .int .i64 r, .int .i64 (i : Int)] 35 (0, 0)) from set_blk3 (set_blk3 (set_blk3 (set_blk3 hI6.out.res 0 _) 1 _) 2 _) 3 _)
        exact bodyPost_ret (v := .agg #[.slice none 0 0, .slice none 0 0, .int .i64 r, .int .i64 (i : Int)]) (by simp [results, Tryz.results10, go_sem, s0, s1, s2, s3]) rfl (RfP.err HST.out rfl (set4_below hI6.out.bel (by omega)))
    · obtain rfl : n = i := by omega
      have HST := hid (show ofErr M l = none by rw [hE.out, List.drop_of_length_le (by have := HN.out; omega)]; rfl)
      have htl : l.take n = l := by rw [← HN.out, List.take_length]
      rw [htl] at hI
      have hof0 : outsC M l = [] ++ Pkg.packs (fitC M) (roomC M) ((fitL M l).drop 0) := Pkg.packs_filter (fitC M) (roomC M) l
      have hqf : ∀ y ∈ fitL M l, fitC M y = true := fun y hy => (List.mem_filter.1 hy).2
      have hqo : ∀ y ∈ fitL M l, CkOk y := fun y hy => HOK.out y (List.mem_filter.1 hy).1
      have hql : (fitL M l).length ≤ 900 := by
        have h := List.length_filter_le (fitC M) l
        have := HN.out
        have := HL.out
        unfold fitL
        omega
      obtain ⟨qs, hqs⟩ : ∃ qs, fitL M l = qs := ⟨_, rfl⟩
      rw [hqs] at hI hof0 hqf hqo hql
      obtain ⟨Aq, cq, rfl, lq, -⟩ := owc_reads hI.out.q hI.out.bel
      obtain ⟨bq, hbq⟩ : ∃ bq, 0 < qs.length → Aq = some ⟨bq, 0, none⟩ := by
        obtain ⟨inn, ho, -⟩ := hI.out.q
        rcases ho.2 with ⟨-, h0⟩ | ⟨g1, cap, cur, he, -⟩
        · exact ⟨0, fun h => by omega⟩
        · injection he with he _ _
          exact ⟨g1, fun _ => he⟩
      obtain ⟨nq, hnq⟩ : ∃ nq, qs.length = nq := ⟨_, rfl⟩
      rw [hnq] at hbq hI lq hql
      rw [hnq]
      have HNQ := hid hnq
      have HBQ := hid hbq
      have HQF := hid hqf
      have HQO := hid hqo
      have HQL := hid hql
      have HOF0 := hid hof0
      have HI2 := hid (show RfS w s d g (RpQ bq qs) (.slice none 0 0) vr (.slice Aq nq cq) (([] : List (List Ck)).map (mkP s d g)) (rejC M l) qs wr from RfS.nilP hI.out)
      clear hE hM1 hM2 hqs hnq hbq hqf hqo hql hof0 htl hI hi hlt HC
      go_wp2_with fail
      go_loopw [8] (fun v W => ∃ (k : Nat) (A : Option Addr) (cc : Nat) (vp : Value) (ps : List (List Ck)), v = .slice A (nq - k) cc ∧ k ≤ nq ∧ nq - k ≤ cc ∧ Hid (k < nq → A = some ⟨bq, k * 4, none⟩) ∧ Hid (outsC M l = ps ++ Pkg.packs (fitC M) (roomC M) (qs.drop k)) ∧ Hid (RfS w s d g (RpQ bq qs) vp vr (.slice Aq nq cq) (ps.map (mkP s d g)) (rejC M l) qs W)) (fun v _ => lenV v)
      case atStart => exact ⟨0, Aq, cq, _, [], rfl, by omega, by omega, hid (fun h => by rw [Nat.zero_mul]; exact HBQ.out h), HOF0, HI2⟩
      case round =>
        obtain ⟨k, A1, cc, vp, ps, rfl, hk, hcc, hA, hO, hI⟩ := hrel
        clear HOF0 HI2
        by_cases hlt : k < nq
        · obtain rfl := hA.out hlt
          obtain ⟨m, hm⟩ : ∃ m, nq - k = m := ⟨_, rfl⟩
          obtain ⟨Q, hQ⟩ : ∃ Q, qs.drop k = Q := ⟨_, rfl⟩
          have hQL : Q.length = m := by rw [← hQ, List.length_drop, HNQ.out, hm]
          have hm0 : 0 < m := by omega
          have hQm : ∀ y ∈ Q, y ∈ qs := fun y hy => List.mem_of_mem_drop (hQ ▸ hy)
          have HQR := hid (fun W (hq : OwC w W (w.heap.size + 3) (.slice Aq nq cq) qs) (hb : Below w.heap.size w W) => show CsC W (some ⟨bq, k * 4, none⟩) m Q by
            obtain ⟨A2, c2, e2, l2, r2⟩ := owc_reads hq hb
            injection e2 with e2 _ _
            rw [← e2, HNQ.out, HBQ.out (by omega)] at r2
            have h := cs_sub r2 k m (by omega)
            rw [Nat.zero_add, hQ, List.take_of_length_le (by omega)] at h
            exact h)
          rw [hm] at hcc
          rw [hm]
          rw [hQ] at hO
          have HM := hid hm
          have HQ := hid hQ
          have HQL2 := hid hQL
          have HQM := hid hQm
          have HM0 := hid hm0
          have HPL := hid (show ps.length ≤ 900 by
            have h := (Pkg.packs_len (fitC M) (roomC M) l).1
            change (outsC M l).length ≤ _ at h
            rw [hO.out, List.length_append] at h
            have := HL.out
            have := HN.out
            omega)
          have HML := hid (show m ≤ 900 by have := HQL.out; omega)
          have HKN := hid (show k + m = nq by omega)
          have hmi : (0 : Int) < (m : Int) := by omega
          clear hm hQ hQL hQm hm0 hA
          obtain ⟨W0, rfl⟩ : ∃ W0, W0 = wr := ⟨wr, rfl⟩
          have HBW := hid (Below.refl W0.heap.size W0)
          have HRT := hid (show ∀ t, 0 < t → t < 1 → ∀ y, Q[t]? = some y → roomC M (Q.take t) y = true from fun t h0 h1 => by omega)
          go_wp2_with fail
          go_loopw [11] (fun v W => ∃ (j : Nat), v = .int .i64 j ∧ 1 ≤ j ∧ j ≤ m ∧ Hid (∀ t, 0 < t → t < j → ∀ y, Q[t]? = some y → roomC M (Q.take t) y = true) ∧ Hid (Below W0.heap.size W0 W)) (fun v _ => m - (intOf v).toNat)
          case atStart => exact ⟨1, rfl, by omega, HM0, HRT, HBW⟩
          case round =>
            obtain ⟨j, rfl, hj1, hjm, hT, hB⟩ := hrel
            clear HRT HBW
            have hIW := hid (RfS.below hI.out hB.out)
            by_cases hjl : j < m
            · have hjq : j < Q.length := by rw [HQL2.out]; exact hjl
              have hqr := HQR.out wr hIW.out.q hIW.out.bel
              obtain ⟨b1, off1, B1, d1, B2, d2, e1, k0, k1, k2, k3, l1, g1, l2, g2⟩ := chunk_at hqr j hjq
              injection e1 with e1
              injection e1 with e1 e2 e3
              subst e1
              subst e2
              clear e3 k1 k2 k3 l1 g1 l2 g2 B1 d1 B2 d2
              have htk := List.take_succ_eq_append_getElem hjq
              have hgj : Q[j]? = some Q[j] := List.getElem?_eq_getElem hjq
              have hyo := HQO.out _ (HQM.out _ (List.getElem_mem hjq))
              obtain ⟨y, hy⟩ : ∃ y, Q[j] = y := ⟨_, rfl⟩
              rw [hy] at k0 htk hgj hyo
              have hoks : OkS (Q.take (j + 1)) := ⟨by rw [List.length_take]; have := HML.out; have := HQL2.out; omega, fun x hx => by have h := HQO.out x (HQM.out x (List.mem_of_mem_take hx)); exact ⟨h.len, h.cnt⟩⟩
              have hcs : ∀ t, t ≤ m → ∀ W, Below wr.heap.size wr W → CsC W (some ⟨bq, k * 4, none⟩) t (Q.take t) := fun t ht W hW => by
                have h := cs_sub (Kd.C_below hqr hW) 0 t (by omega)
                rwa [Nat.zero_mul, Nat.add_zero, List.drop_zero] at h
              have HTY := hid (fun W (hW : Below wr.heap.size wr W) => rtypes_any (some ⟨bq, k * 4, none⟩) j cc (Q.take j) W (by rw [List.length_take]; have := HQL2.out; omega) (hcs j (by omega) W hW) (by omega) (by have := HML.out; omega))
              have HMY := hid (fun A4 c4 W (r : BC W A4 (tys (Q.take j))) (l : (tys (Q.take j)).length ≤ c4) => rmay_any y.f0 A4 (tys (Q.take j)).length c4 (tys (Q.take j)) W rfl r l (by rw [tys_len, List.length_take]; have := HML.out; omega))
              have HSZ := hid (fun W (hW : Below wr.heap.size wr W) => rpsize_any (some ⟨bq, k * 4, none⟩) (j + 1) cc (Q.take (j + 1)) W (by rw [List.length_take]; have := HQL2.out; omega) (hcs (j + 1) (by omega) W hW) (by omega) hoks)
              have hc1 := cut_h (some ⟨bq, k * 4, none⟩) j m cc (by omega)
              have hc2 := cut_h (some ⟨bq, k * 4, none⟩) (j + 1) m cc (by omega)
              have hji : (j : Int) < (m : Int) := by omega
              have hji2 : (j : Int) + 1 = ((j + 1 : Nat) : Int) := by omega
              have HWJ := hid (show wrap64 ((j : Int) + 1) = ((j + 1 : Nat) : Int) by have := HML.out; unfold wrap64; omega)
              have hcd : 0 ≤ (j : Int) + 1 ∧ (j : Int) + 1 ≤ (cc : Int) := by omega
              obtain ⟨mb, hmb⟩ : ∃ mb, mayR y.f0 (tys (Q.take j)) = mb := ⟨_, rfl⟩
              obtain ⟨z, hz⟩ : ∃ z, 12 + psz (Q.take (j + 1)) = z := ⟨_, rfl⟩
              have hrm : roomC M (Q.take j) y = (mb && decide ((z : Int) ≤ M)) := by unfold roomC; rw [hmb, ← htk, hz]
              simp only [hmb] at HMY
              simp only [hz] at HSZ
              have HRM := hid hrm
              have HGJ := hid hgj
              have hS0 : Below wr.heap.size wr wr.drew ∧ wr.drew.cell? ⟨bq, k * 4 + j * 4, none⟩ = some (.int .u8 y.f0) := ⟨below_drew (Below.refl _ _) 1, k0⟩
              clear htk hgj hyo hy hoks hcs hmb hz hrm k0 hqr hjq hji2
              cases mb with
              | false =>
                have hHF := hid (show ∀ y', Q[j]? = some y' → roomC M (Q.take j) y' = false from fun y' h => by rw [HGJ.out] at h; injection h with h; subst h; rw [HRM.out]; rfl)
                go_upto_region 16 with fail
                refine start_ (n := 25) (S := (fun W => Below wr.heap.size wr W ∧ W.cell? ⟨bq, k * 4 + j * 4, none⟩ = some (.int .u8 y.f0))) (ds := [14]) (bA 25 0) (by kernel_rfl) rfl rfl hS0 (fun hHeld => ?_)
                generalize wr.drew = w44 at hS0 hHeld ⊢
                refine pU 0 (some 64) (bA 25 1) rfl rfl ?_
                refine pU 1 (some 65) (bA 25 3) rfl rfl ?_
                refine pU 2 (some 66) (bA 25 7) rfl rfl ?_
                refine pU 3 (some 67) (bA 25 15) rfl rfl ?_
                refine pU 4 (some 68) (bA 25 31) rfl rfl ?_
                refine pU 5 (some 69) (bA 25 63) rfl rfl ?_
                refine pU 6 (some 70) (bA 25 127) rfl rfl ?_
                refine pU 7 (some 71) (bA 25 255) rfl rfl ?_
                refine pU 8 (some 72) (bA 25 511) rfl rfl ?_
                refine pU 10 (some 74) (bA 25 1535) rfl rfl ?_
                refine pU 11 (some 75) (bA 25 3583) rfl rfl ?_
                refine pU 12 (some 76) (bA 25 7679) rfl rfl ?_
                refine tU 9 (some 73) (bA 25 8191) rfl rfl hHeld (by rintro w' ⟨q0, q1⟩; go_simp; with_reducible rfl) ?_
                refine one_ (i := 13) (N := some 77) (bA 25 16383) rfl rfl (by kernel_rfl) (by decide) (fun KK hK => ?_)
                refine goes_ Tryz.func12 (by kernel_rfl) rfl #[.slice (some ⟨bq, k * 4, none⟩) j cc] (by rfl) rfl rfl (by simp only [List.map_toArray, List.map_cons, List.map_nil]; rfl) ?_
                refine Calls.mono (HTY.out _ hHeld.1) ?_
                rintro e4 W4 ⟨v4, rfl, hr4, hb4⟩
                refine ⟨_, rfl, ?_⟩
                obtain ⟨A4, c4, rfl, l4, r4⟩ := Kd.R_reads hr4
                have hS4 := rf1_blw hHeld hb4
                have HR4 := hid (show BC W4 A4 (tys (Q.take j)) from r4)
                have HL4 := hid l4
                clear hr4 hb4 r4 l4
                refine hK.out _ _ hS4 (fun hHeld4 => ?_)
                clear hK KK
                refine nU ?_
                refine last_ (i := 14) (N := some 78) (bA 25 32767) rfl rfl (by kernel_rfl) (by decide) (fun KK hK => ?_)
                refine goes_ Tryz.func11 (by kernel_rfl) rfl #[.int .u8 y.f0, .slice A4 (tys (Q.take j)).length c4] (by rfl) rfl rfl (by simp only [List.map_toArray, List.map_cons, List.map_nil]; rfl) ?_
                refine Calls.mono (HMY.out A4 c4 _ HR4.out HL4.out) ?_
                rintro e5 W5 ⟨rfl, hb5⟩
                refine ⟨_, rfl, ?_⟩
                have hS5 := rf1_blw hHeld4 hb5
                have HB5 := hid hS5.1
                clear hb5
                refine hK.out _ _ ?_
                clear hK KK
                refine nU ?_
                refine pU 15 (some 79) (bA 25 65535) rfl rfl ?_
                refine pU 16 (some 80) (bA 25 131071) rfl rfl ?_
                refine pure_ (i := 17) (N := some 81) (v := undef) (a' := ?_) (bA 25 262143) rfl rfl (by kernel_rfl) (fun _ _ _ h => h) (Or.inr ⟨by rfl, rfl⟩) ?_ ?_
                rotate_left
                · simp only [Act.put, sA, s0, sS, i64_w, i32_w]
                  rfl
                refine pure_ (i := 18) (N := some 82) (v := undef) (a' := ?_) (bA 25 524287) rfl rfl (by kernel_rfl) (fun _ _ _ h => h) (Or.inr ⟨by rfl, rfl⟩) ?_ ?_
                rotate_left
                · simp only [Act.put, sA, s0, sS, i64_w, i32_w]
                  rfl
                refine pure_ (i := 19) (N := some 83) (v := undef) (a' := ?_) (bA 25 1048575) rfl rfl (by kernel_rfl) (fun _ _ _ h => h) (Or.inr ⟨by rfl, rfl⟩) ?_ ?_
                rotate_left
                · simp only [Act.put, sA, s0, sS, i64_w, i32_w]
                  rfl
                refine pure_ (i := 20) (N := some 84) (v := undef) (a' := ?_) (bA 25 2097151) rfl rfl (by kernel_rfl) (fun _ _ _ h => h) (Or.inr ⟨by rfl, rfl⟩) ?_ ?_
                rotate_left
                · simp only [Act.put, sA, s0, sS, i64_w, i32_w]
                  rfl
                refine pure_ (i := 22) (N := some 86) (v := undef) (a' := ?_) (bA 25 6291455) rfl rfl (by kernel_rfl) (fun _ _ _ h => h) (Or.inr ⟨by rfl, rfl⟩) ?_ ?_
                rotate_left
                · simp only [Act.put, sA, s0, sS, i64_w, i32_w]
                  rfl
                refine pure_ (i := 21) (N := some 85) (v := undef) (a' := ?_) (bA 25 8388607) rfl rfl (by kernel_rfl) (fun _ _ _ h => h) (Or.inr ⟨by rfl, rfl⟩) ?_ ?_
                rotate_left
                · simp only [Act.put, sA, s0, sS, i64_w, i32_w]
                  rfl
                refine pure_ (i := 23) (N := some 87) (v := undef) (a' := ?_) (bA 25 16777215) rfl rfl (by kernel_rfl) (fun _ _ _ h => h) (Or.inr ⟨by rfl, rfl⟩) ?_ ?_
                rotate_left
                · simp only [Act.put, sA, s0, sS, i64_w, i32_w]
                  rfl
                refine pU 24 (some 88) (bA 25 33554431) rfl rfl ?_
                refine done_ (by kernel_rfl) ?_
                have HBT := hid (cthen hB.out HB5.out)
                clear hS0 hHeld hHeld4
                have hIT := RfS.below hI.out HBT.out
                obtain ⟨Ap, cp, rfl, -⟩ := OwnRow.slice_ hIT.p
                obtain ⟨np, hnp⟩ : ∃ np, (ps.map (mkP s d g)).length = np := ⟨_, rfl⟩
                rw [hnp] at hI hIT
                obtain ⟨⟨t0, t1, t2⟩, -⟩ := three hIT.hd
                have hjc : j ≤ cc := by omega
                have hcl := clip3 (some ⟨bq, k * 4, none⟩) j cc (by omega)
                obtain ⟨A', hA', hcutl⟩ := cut_l bq k m cc j (by omega) (by omega)
                have HA2 := hid (show k + j < nq → A' = some ⟨bq, (k + j) * 4, none⟩ from fun h => hA' (by have := HKN.out; omega))
                have HO2 := hid (show outsC M l = (ps ++ [Q.take j]) ++ Pkg.packs (fitC M) (roomC M) (qs.drop (k + j)) by
                  rw [hO.out, Pkg.packs_cut (fitC M) (roomC M) Q (fun y hy => HQF.out y (HQM.out y hy)) j (by omega) (by rw [HQL2.out]; omega) (fun i h0 h => hT.out i h0 h _ (List.getElem?_eq_getElem (by rw [HQL2.out]; omega))) (fun h => hHF.out _ (List.getElem?_eq_getElem h)), ← List.drop_drop, HQ.out]
                  simp)
                have hS2 : Below W5.heap.size W5 W5.drew ∧ W5.drew.cell? ⟨w.heap.size, 0, none⟩ = some (.int .u16 s) ∧ W5.drew.cell? ⟨w.heap.size, 1, none⟩ = some (.int .u16 d) ∧ W5.drew.cell? ⟨w.heap.size, 2, none⟩ = some (.int .u32 g) := ⟨below_drew (Below.refl _ _) 1, t0, t1, t2⟩
                have HCUTL := hid hcutl
                clear hIT hnp t0 t1 t2 hA' hcutl
                go_upto_region 18 with fail
                refine start_ (n := 8) (S := (fun w' => Below W5.heap.size W5 w' ∧ w'.cell? ⟨w.heap.size, 0, none⟩ = some (.int .u16 s) ∧ w'.cell? ⟨w.heap.size, 1, none⟩ = some (.int .u16 d) ∧ w'.cell? ⟨w.heap.size, 2, none⟩ = some (.int .u32 g))) (ds := [7]) (bA 8 0) (by kernel_rfl) rfl rfl hS2 (fun hHeld => ?_)
                generalize W5.drew = w46 at hS2 hHeld ⊢
                refine pU 1 (some 92) (bA 8 2) rfl rfl ?_
                refine pU 2 (some 93) (bA 8 6) rfl rfl ?_
                refine pU 3 (some 94) (bA 8 14) rfl rfl ?_
                refine pU 4 (some 95) (bA 8 30) rfl rfl ?_
                refine tU 0 (some 91) (bA 8 31) rfl rfl hHeld (by rintro w' ⟨q0, q1, q2, q3⟩; go_simp; with_reducible rfl) ?_
                refine pU 5 (some 96) (bA 8 63) rfl rfl ?_
                refine one_ (i := 6) (N := some 12) (bA 8 127) rfl rfl (by kernel_rfl) (by decide) (fun KK hK => ?_)
                refine value_ (w1 := w46.alloc (.cells #[.int .u16 0, .int .u16 0, .int .u32 0, .slice none 0 0] 38)) (v := .pointer (some ⟨w46.heap.size, 0, none⟩)) (by rfl) rfl (by go_simp; done) ?_
                refine hK.out _ _ (rf3_blw hHeld (below_alloc (Below.refl _ _) _)) (fun hHeld7 => ?_)
                clear hK KK
                refine nU ?_
                refine last_ (i := 7) (N := none) (bA 8 255) rfl rfl (by kernel_rfl) (by decide) (fun KK hK => ?_)
                refine skip_ (w1 := w46.alloc (.cells #[.int .u16 s, .int .u16 d, .int .u32 g, .slice (some ⟨bq, k * 4, none⟩) j j] 38)) (by rfl) rfl (by go_simp; done) ?_
                refine hK.out _ _ ?_
                clear hK KK
                refine done_ (by kernel_rfl) ?_
                have HI46 := hid (RfS.below hI.out (cthen HBT.out hHeld.1))
                clear hS2 hHeld hHeld7 hcl
                have hqr := HQR.out w46 HI46.out.q HI46.out.bel
                obtain ⟨b1, off1, B1, d1, B2, d2, e1, z0, -⟩ := chunk_at hqr 0 (by rw [HQL2.out]; exact HM0.out)
                injection e1 with e1
                injection e1 with e1 e2 e3
                subst e1
                subst e2
                rw [Nat.zero_mul, Nat.add_zero] at z0
                have hgq := tg_take g Q j hj1 (by rw [HQL2.out]; exact HM0.out)
                obtain ⟨ty, hty⟩ : ∃ ty, (Q[0]'(by rw [HQL2.out]; exact HM0.out)).f0 = ty := ⟨_, rfl⟩
                rw [hty] at z0 hgq
                have HGQ := hid hgq
                have hcutl := HCUTL.out
                clear hqr e3 B1 d1 B2 d2 hty hgq
                by_cases h1 : ty = 1
                · subst h1
                  have q0 := pw_cell_below (below_alloc (Below.refl w46.heap.size w46) (.cells #[.int .u16 s, .int .u16 d, .int .u32 g, .slice (some ⟨bq, k * 4, none⟩) j j] 38)) z0
                  have hb7 : Below w46.heap.size w46 (w46.alloc (.cells #[.int .u16 s, .int .u16 d, .int .u32 0, .slice (some ⟨bq, k * 4, none⟩) j j] 38)) := below_alloc (Below.refl _ _) _
                  have hI7 := RfS.below HI46.out hb7
                  have htg : tg g (Q.take j) = 0 := by rw [HGQ.out, if_pos rfl]
                  have hlj : (Q.take j).length = j := by rw [List.length_take, HQL2.out]; omega
                  have hp : RpQ bq qs (mkP s d g (Q.take j)) [.int .u16 s, .int .u16 d, .int .u32 0, .slice (some ⟨bq, k * 4, none⟩) j j] := ⟨k, by show ([.int .u16 s, .int .u16 d, .int .u32 0, .slice (some ⟨bq, k * 4, none⟩) j j] : List Value) = [.int .u16 s, .int .u16 d, .int .u32 (tg g (Q.take j)), .slice (some ⟨bq, k * 4, none⟩) (Q.take j).length (Q.take j).length]; rw [htg, hlj], by show k + (Q.take j).length ≤ qs.length; rw [hlj, HNQ.out]; have := HKN.out; omega, by show Q.take j = (qs.drop k).take (Q.take j).length; rw [hlj, HQ.out]⟩
                  have HP := hid hp
                  have HI7 := hid hI7
                  obtain ⟨⟨o0, o1, o2, o3⟩, -⟩ := four hI7.out
                  clear hb7 hI7 htg hlj hp o1 o2 o3
                  go_wp2_with (at_builtin; go_loud (refine OwnRow.append (w0 := w46.alloc (.cells #[.int .u16 s, .int .u16 d, .int .u32 0, .slice (some ⟨bq, k * 4, none⟩) j j] 38)) (W := w46.alloc (.cells #[.int .u16 s, .int .u16 d, .int .u32 0, .slice (some ⟨bq, k * 4, none⟩) j j] 38)) (w.heap.size + 3) rfl _ _ 29 38 _ 4 32 rfl Tryz.underlying29 infoP rfl (by decide) (by decide) (.slice Ap np cp) (ps.map (mkP s d g)) (mkP s d g (Q.take j)) [.int .u16 s, .int .u16 d, .int .u32 0, .slice (some ⟨bq, k * 4, none⟩) j j] rfl (by simp only [World.size_alloc]; rfl) HP.out rfl (by intro u hu; simp only [List.mem_cons, List.not_mem_nil, or_false] at hu; rcases hu with rfl | rfl | rfl | rfl <;> rfl) HI7.out.p (Below.refl _ _) HI7.out.hz (by rw [List.length_map]; have := HPL.out; omega) ?_); intro v9 w9 hO9 hB9 hG9 hA9; obtain ⟨A9, c9, rfl, -⟩ := OwnRow.slice_ hO9; obtain ⟨⟨g0, g1, g2, g3⟩, ⟨f0, f1, f2, f3⟩⟩ := four ((hB9.block _ (Nat.lt_succ_self (w.heap.size + 2))).trans HI7.out.out); have HI9 := hid (RfS.addP HI7.out hO9 hB9 hG9); clear hO9 hB9 hG9 hA9)
                  have hI9 := HI9.out
                  rw [show (ps.map (mkP s d g) ++ [mkP s d g (Q.take j)]).length = ps.length + 1 by simp, show ps.map (mkP s d g) ++ [mkP s d g (Q.take j)] = (ps ++ [Q.take j]).map (mkP s d g) by simp] at hI9
                  have HI9b := hid hI9
                  clear hI9 hcutl q0 g0 g1 g2 g3 f0 f1 f2 f3 o0
                  exact ⟨⟨k + j, A', cc - j, _, ps ++ [Q.take j], by first | (rw [show nq - (k + j) = m - j by have := HKN.out; omega]; done) | (rw [show nq - (k + j) = 0 by have := HKN.out; omega]; done), by have := HKN.out; omega, by have := HKN.out; omega, HA2, HO2, HI9b⟩, by first | (show m - j < m; have := HM0.out; omega) | (show 0 < m; exact HM0.out)⟩
                · have q0 := pw_cell_below (below_alloc (Below.refl w46.heap.size w46) (.cells #[.int .u16 s, .int .u16 d, .int .u32 g, .slice (some ⟨bq, k * 4, none⟩) j j] 38)) z0
                  have hb7 : Below w46.heap.size w46 (w46.alloc (.cells #[.int .u16 s, .int .u16 d, .int .u32 g, .slice (some ⟨bq, k * 4, none⟩) j j] 38)) := below_alloc (Below.refl _ _) _
                  have hI7 := RfS.below HI46.out hb7
                  have htg : tg g (Q.take j) = g := by rw [HGQ.out, if_neg h1]
                  have hlj : (Q.take j).length = j := by rw [List.length_take, HQL2.out]; omega
                  have hp : RpQ bq qs (mkP s d g (Q.take j)) [.int .u16 s, .int .u16 d, .int .u32 g, .slice (some ⟨bq, k * 4, none⟩) j j] := ⟨k, by show ([.int .u16 s, .int .u16 d, .int .u32 g, .slice (some ⟨bq, k * 4, none⟩) j j] : List Value) = [.int .u16 s, .int .u16 d, .int .u32 (tg g (Q.take j)), .slice (some ⟨bq, k * 4, none⟩) (Q.take j).length (Q.take j).length]; rw [htg, hlj], by show k + (Q.take j).length ≤ qs.length; rw [hlj, HNQ.out]; have := HKN.out; omega, by show Q.take j = (qs.drop k).take (Q.take j).length; rw [hlj, HQ.out]⟩
                  have HP := hid hp
                  have HI7 := hid hI7
                  obtain ⟨⟨o0, o1, o2, o3⟩, -⟩ := four hI7.out
                  clear hb7 hI7 htg hlj hp o1 o2 o3
                  go_wp2_with (at_builtin; go_loud (refine OwnRow.append (w0 := w46.alloc (.cells #[.int .u16 s, .int .u16 d, .int .u32 g, .slice (some ⟨bq, k * 4, none⟩) j j] 38)) (W := w46.alloc (.cells #[.int .u16 s, .int .u16 d, .int .u32 g, .slice (some ⟨bq, k * 4, none⟩) j j] 38)) (w.heap.size + 3) rfl _ _ 29 38 _ 4 32 rfl Tryz.underlying29 infoP rfl (by decide) (by decide) (.slice Ap np cp) (ps.map (mkP s d g)) (mkP s d g (Q.take j)) [.int .u16 s, .int .u16 d, .int .u32 g, .slice (some ⟨bq, k * 4, none⟩) j j] rfl (by simp only [World.size_alloc]; rfl) HP.out rfl (by intro u hu; simp only [List.mem_cons, List.not_mem_nil, or_false] at hu; rcases hu with rfl | rfl | rfl | rfl <;> rfl) HI7.out.p (Below.refl _ _) HI7.out.hz (by rw [List.length_map]; have := HPL.out; omega) ?_); intro v9 w9 hO9 hB9 hG9 hA9; obtain ⟨A9, c9, rfl, -⟩ := OwnRow.slice_ hO9; obtain ⟨⟨g0, g1, g2, g3⟩, ⟨f0, f1, f2, f3⟩⟩ := four ((hB9.block _ (Nat.lt_succ_self (w.heap.size + 2))).trans HI7.out.out); have HI9 := hid (RfS.addP HI7.out hO9 hB9 hG9); clear hO9 hB9 hG9 hA9)
                  have hI9 := HI9.out
                  rw [show (ps.map (mkP s d g) ++ [mkP s d g (Q.take j)]).length = ps.length + 1 by simp, show ps.map (mkP s d g) ++ [mkP s d g (Q.take j)] = (ps ++ [Q.take j]).map (mkP s d g) by simp] at hI9
                  have HI9b := hid hI9
                  clear hI9 hcutl q0 g0 g1 g2 g3 f0 f1 f2 f3 o0
                  exact ⟨⟨k + j, A', cc - j, _, ps ++ [Q.take j], by first | (rw [show nq - (k + j) = m - j by have := HKN.out; omega]; done) | (rw [show nq - (k + j) = 0 by have := HKN.out; omega]; done), by have := HKN.out; omega, by have := HKN.out; omega, HA2, HO2, HI9b⟩, by first | (show m - j < m; have := HM0.out; omega) | (show 0 < m; exact HM0.out)⟩
              | true =>
                by_cases hzM : (z : Int) ≤ M
                · have HT2 := hid (show ∀ t, 0 < t → t < j + 1 → ∀ y', Q[t]? = some y' → roomC M (Q.take t) y' = true from fun t h0 h1 y' hy' => by
                    rcases Nat.lt_or_ge t j with h2 | h2
                    · exact hT.out t h0 h2 y' hy'
                    · obtain rfl : t = j := by omega
                      rw [HGJ.out] at hy'
                      injection hy' with hy'
                      subst hy'
                      rw [HRM.out, decide_eq_true hzM]
                      rfl)
                  have hwj := HWJ.out
                  go_upto_region 16 with fail
                  refine start_ (n := 25) (S := (fun W => Below wr.heap.size wr W ∧ W.cell? ⟨bq, k * 4 + j * 4, none⟩ = some (.int .u8 y.f0))) (ds := [21]) (bA 25 0) (by kernel_rfl) rfl rfl hS0 (fun hHeld => ?_)
                  generalize wr.drew = w44 at hS0 hHeld ⊢
                  refine pU 0 (some 64) (bA 25 1) rfl rfl ?_
                  refine pU 1 (some 65) (bA 25 3) rfl rfl ?_
                  refine pU 2 (some 66) (bA 25 7) rfl rfl ?_
                  refine pU 3 (some 67) (bA 25 15) rfl rfl ?_
                  refine pU 4 (some 68) (bA 25 31) rfl rfl ?_
                  refine pU 5 (some 69) (bA 25 63) rfl rfl ?_
                  refine pU 6 (some 70) (bA 25 127) rfl rfl ?_
                  refine pU 7 (some 71) (bA 25 255) rfl rfl ?_
                  refine pU 8 (some 72) (bA 25 511) rfl rfl ?_
                  refine pU 10 (some 74) (bA 25 1535) rfl rfl ?_
                  refine pU 11 (some 75) (bA 25 3583) rfl rfl ?_
                  refine pU 12 (some 76) (bA 25 7679) rfl rfl ?_
                  refine tU 9 (some 73) (bA 25 8191) rfl rfl hHeld (by rintro w' ⟨q0, q1⟩; go_simp; with_reducible rfl) ?_
                  refine one_ (i := 13) (N := some 77) (bA 25 16383) rfl rfl (by kernel_rfl) (by decide) (fun KK hK => ?_)
                  refine goes_ Tryz.func12 (by kernel_rfl) rfl #[.slice (some ⟨bq, k * 4, none⟩) j cc] (by rfl) rfl rfl (by simp only [List.map_toArray, List.map_cons, List.map_nil]; rfl) ?_
                  refine Calls.mono (HTY.out _ hHeld.1) ?_
                  rintro e4 W4 ⟨v4, rfl, hr4, hb4⟩
                  refine ⟨_, rfl, ?_⟩
                  obtain ⟨A4, c4, rfl, l4, r4⟩ := Kd.R_reads hr4
                  have hS4 := rf1_blw hHeld hb4
                  have HR4 := hid (show BC W4 A4 (tys (Q.take j)) from r4)
                  have HL4 := hid l4
                  clear hr4 hb4 r4 l4
                  refine hK.out _ _ hS4 (fun hHeld4 => ?_)
                  clear hK KK
                  refine nU ?_
                  refine one_ (i := 14) (N := some 78) (bA 25 32767) rfl rfl (by kernel_rfl) (by decide) (fun KK hK => ?_)
                  refine goes_ Tryz.func11 (by kernel_rfl) rfl #[.int .u8 y.f0, .slice A4 (tys (Q.take j)).length c4] (by rfl) rfl rfl (by simp only [List.map_toArray, List.map_cons, List.map_nil]; rfl) ?_
                  refine Calls.mono (HMY.out A4 c4 _ HR4.out HL4.out) ?_
                  rintro e5 W5 ⟨rfl, hb5⟩
                  refine ⟨_, rfl, ?_⟩
                  have hS5 := rf1_blw hHeld4 hb5
                  have HB5 := hid hS5.1
                  clear hb5
                  refine hK.out _ _ hS5 (fun hHeld5 => ?_)
                  clear hK KK
                  refine nU ?_
                  refine pU 15 (some 79) (bA 25 65535) rfl rfl ?_
                  refine pU 16 (some 80) (bA 25 131071) rfl rfl ?_
                  refine pU 17 (some 81) (bA 25 262143) rfl rfl ?_
                  refine pU 18 (some 82) (bA 25 524287) rfl rfl ?_
                  refine pU 19 (some 83) (bA 25 1048575) rfl rfl ?_
                  refine pU 20 (some 84) (bA 25 2097151) rfl rfl ?_
                  refine pU 22 (some 86) (bA 25 6291455) rfl rfl ?_
                  refine last_ (i := 21) (N := some 85) (bA 25 8388607) rfl rfl (by kernel_rfl) (by decide) (fun KK hK => ?_)
                  refine goes_ Tryz.func13 (by kernel_rfl) rfl #[.slice (some ⟨bq, k * 4, none⟩) (j + 1) cc] (by rfl) rfl rfl (by simp only [List.map_toArray, List.map_cons, List.map_nil]; rfl) ?_
                  refine Calls.mono (HSZ.out _ hHeld5.1) ?_
                  rintro e8 W8 ⟨rfl, hb8⟩
                  refine ⟨_, rfl, ?_⟩
                  have HB8 := hid (cthen hHeld5.1 hb8)
                  clear hb8
                  refine hK.out _ _ ?_
                  clear hK KK
                  refine nU ?_
                  refine pU 23 (some 87) (bA 25 16777215) rfl rfl ?_
                  refine pU 24 (some 88) (bA 25 33554431) rfl rfl ?_
                  refine done_ (by kernel_rfl) ?_
                  clear hwj
                  clear hS0 hHeld hHeld4 hHeld5 hcd hji
                  go_wp2_with fail
                  exact ⟨⟨j + 1, by rw [HWJ.out], by omega, hjl, HT2, hid (cthen hB.out HB8.out)⟩, by rw [HWJ.out]; simp only [intOf, Int.toNat_natCast]; omega⟩
                · have hHF := hid (show ∀ y', Q[j]? = some y' → roomC M (Q.take j) y' = false from fun y' h => by rw [HGJ.out] at h; injection h with h; subst h; rw [HRM.out, decide_eq_false hzM]; rfl)
                  have hwj := HWJ.out
                  go_upto_region 16 with fail
                  refine start_ (n := 25) (S := (fun W => Below wr.heap.size wr W ∧ W.cell? ⟨bq, k * 4 + j * 4, none⟩ = some (.int .u8 y.f0))) (ds := [21]) (bA 25 0) (by kernel_rfl) rfl rfl hS0 (fun hHeld => ?_)
                  generalize wr.drew = w44 at hS0 hHeld ⊢
                  refine pU 0 (some 64) (bA 25 1) rfl rfl ?_
                  refine pU 1 (some 65) (bA 25 3) rfl rfl ?_
                  refine pU 2 (some 66) (bA 25 7) rfl rfl ?_
                  refine pU 3 (some 67) (bA 25 15) rfl rfl ?_
                  refine pU 4 (some 68) (bA 25 31) rfl rfl ?_
                  refine pU 5 (some 69) (bA 25 63) rfl rfl ?_
                  refine pU 6 (some 70) (bA 25 127) rfl rfl ?_
                  refine pU 7 (some 71) (bA 25 255) rfl rfl ?_
                  refine pU 8 (some 72) (bA 25 511) rfl rfl ?_
                  refine pU 10 (some 74) (bA 25 1535) rfl rfl ?_
                  refine pU 11 (some 75) (bA 25 3583) rfl rfl ?_
                  refine pU 12 (some 76) (bA 25 7679) rfl rfl ?_
                  refine tU 9 (some 73) (bA 25 8191) rfl rfl hHeld (by rintro w' ⟨q0, q1⟩; go_simp; with_reducible rfl) ?_
                  refine one_ (i := 13) (N := some 77) (bA 25 16383) rfl rfl (by kernel_rfl) (by decide) (fun KK hK => ?_)
                  refine goes_ Tryz.func12 (by kernel_rfl) rfl #[.slice (some ⟨bq, k * 4, none⟩) j cc] (by rfl) rfl rfl (by simp only [List.map_toArray, List.map_cons, List.map_nil]; rfl) ?_
                  refine Calls.mono (HTY.out _ hHeld.1) ?_
                  rintro e4 W4 ⟨v4, rfl, hr4, hb4⟩
                  refine ⟨_, rfl, ?_⟩
                  obtain ⟨A4, c4, rfl, l4, r4⟩ := Kd.R_reads hr4
                  have hS4 := rf1_blw hHeld hb4
                  have HR4 := hid (show BC W4 A4 (tys (Q.take j)) from r4)
                  have HL4 := hid l4
                  clear hr4 hb4 r4 l4
                  refine hK.out _ _ hS4 (fun hHeld4 => ?_)
                  clear hK KK
                  refine nU ?_
                  refine one_ (i := 14) (N := some 78) (bA 25 32767) rfl rfl (by kernel_rfl) (by decide) (fun KK hK => ?_)
                  refine goes_ Tryz.func11 (by kernel_rfl) rfl #[.int .u8 y.f0, .slice A4 (tys (Q.take j)).length c4] (by rfl) rfl rfl (by simp only [List.map_toArray, List.map_cons, List.map_nil]; rfl) ?_
                  refine Calls.mono (HMY.out A4 c4 _ HR4.out HL4.out) ?_
                  rintro e5 W5 ⟨rfl, hb5⟩
                  refine ⟨_, rfl, ?_⟩
                  have hS5 := rf1_blw hHeld4 hb5
                  have HB5 := hid hS5.1
                  clear hb5
                  refine hK.out _ _ hS5 (fun hHeld5 => ?_)
                  clear hK KK
                  refine nU ?_
                  refine pU 15 (some 79) (bA 25 65535) rfl rfl ?_
                  refine pU 16 (some 80) (bA 25 131071) rfl rfl ?_
                  refine pU 17 (some 81) (bA 25 262143) rfl rfl ?_
                  refine pU 18 (some 82) (bA 25 524287) rfl rfl ?_
                  refine pU 19 (some 83) (bA 25 1048575) rfl rfl ?_
                  refine pU 20 (some 84) (bA 25 2097151) rfl rfl ?_
                  refine pU 22 (some 86) (bA 25 6291455) rfl rfl ?_
                  refine last_ (i := 21) (N := some 85) (bA 25 8388607) rfl rfl (by kernel_rfl) (by decide) (fun KK hK => ?_)
                  refine goes_ Tryz.func13 (by kernel_rfl) rfl #[.slice (some ⟨bq, k * 4, none⟩) (j + 1) cc] (by rfl) rfl rfl (by simp only [List.map_toArray, List.map_cons, List.map_nil]; rfl) ?_
                  refine Calls.mono (HSZ.out _ hHeld5.1) ?_
                  rintro e8 W8 ⟨rfl, hb8⟩
                  refine ⟨_, rfl, ?_⟩
                  have HB8 := hid (cthen hHeld5.1 hb8)
                  clear hb8
                  refine hK.out _ _ ?_
                  clear hK KK
                  refine nU ?_
                  refine pU 23 (some 87) (bA 25 16777215) rfl rfl ?_
                  refine pU 24 (some 88) (bA 25 33554431) rfl rfl ?_
                  refine done_ (by kernel_rfl) ?_
                  clear hwj
                  have HBT := hid (cthen hB.out HB8.out)
                  clear hS0 hHeld hHeld4 hHeld5
                  have hIT := RfS.below hI.out HBT.out
                  obtain ⟨Ap, cp, rfl, -⟩ := OwnRow.slice_ hIT.p
                  obtain ⟨np, hnp⟩ : ∃ np, (ps.map (mkP s d g)).length = np := ⟨_, rfl⟩
                  rw [hnp] at hI hIT
                  obtain ⟨⟨t0, t1, t2⟩, -⟩ := three hIT.hd
                  have hjc : j ≤ cc := by omega
                  have hcl := clip3 (some ⟨bq, k * 4, none⟩) j cc (by omega)
                  obtain ⟨A', hA', hcutl⟩ := cut_l bq k m cc j (by omega) (by omega)
                  have HA2 := hid (show k + j < nq → A' = some ⟨bq, (k + j) * 4, none⟩ from fun h => hA' (by have := HKN.out; omega))
                  have HO2 := hid (show outsC M l = (ps ++ [Q.take j]) ++ Pkg.packs (fitC M) (roomC M) (qs.drop (k + j)) by
                    rw [hO.out, Pkg.packs_cut (fitC M) (roomC M) Q (fun y hy => HQF.out y (HQM.out y hy)) j (by omega) (by rw [HQL2.out]; omega) (fun i h0 h => hT.out i h0 h _ (List.getElem?_eq_getElem (by rw [HQL2.out]; omega))) (fun h => hHF.out _ (List.getElem?_eq_getElem h)), ← List.drop_drop, HQ.out]
                    simp)
                  have hS2 : Below W8.heap.size W8 W8.drew ∧ W8.drew.cell? ⟨w.heap.size, 0, none⟩ = some (.int .u16 s) ∧ W8.drew.cell? ⟨w.heap.size, 1, none⟩ = some (.int .u16 d) ∧ W8.drew.cell? ⟨w.heap.size, 2, none⟩ = some (.int .u32 g) := ⟨below_drew (Below.refl _ _) 1, t0, t1, t2⟩
                  have HCUTL := hid hcutl
                  clear hIT hnp t0 t1 t2 hA' hcutl
                  go_upto_region 18 with fail
                  refine start_ (n := 8) (S := (fun w' => Below W8.heap.size W8 w' ∧ w'.cell? ⟨w.heap.size, 0, none⟩ = some (.int .u16 s) ∧ w'.cell? ⟨w.heap.size, 1, none⟩ = some (.int .u16 d) ∧ w'.cell? ⟨w.heap.size, 2, none⟩ = some (.int .u32 g))) (ds := [7]) (bA 8 0) (by kernel_rfl) rfl rfl hS2 (fun hHeld => ?_)
                  generalize W8.drew = w46 at hS2 hHeld ⊢
                  refine pU 1 (some 92) (bA 8 2) rfl rfl ?_
                  refine pU 2 (some 93) (bA 8 6) rfl rfl ?_
                  refine pU 3 (some 94) (bA 8 14) rfl rfl ?_
                  refine pU 4 (some 95) (bA 8 30) rfl rfl ?_
                  refine tU 0 (some 91) (bA 8 31) rfl rfl hHeld (by rintro w' ⟨q0, q1, q2, q3⟩; go_simp; with_reducible rfl) ?_
                  refine pU 5 (some 96) (bA 8 63) rfl rfl ?_
                  refine one_ (i := 6) (N := some 12) (bA 8 127) rfl rfl (by kernel_rfl) (by decide) (fun KK hK => ?_)
                  refine value_ (w1 := w46.alloc (.cells #[.int .u16 0, .int .u16 0, .int .u32 0, .slice none 0 0] 38)) (v := .pointer (some ⟨w46.heap.size, 0, none⟩)) (by rfl) rfl (by go_simp; done) ?_
                  refine hK.out _ _ (rf3_blw hHeld (below_alloc (Below.refl _ _) _)) (fun hHeld7 => ?_)
                  clear hK KK
                  refine nU ?_
                  refine last_ (i := 7) (N := none) (bA 8 255) rfl rfl (by kernel_rfl) (by decide) (fun KK hK => ?_)
                  refine skip_ (w1 := w46.alloc (.cells #[.int .u16 s, .int .u16 d, .int .u32 g, .slice (some ⟨bq, k * 4, none⟩) j j] 38)) (by rfl) rfl (by go_simp; done) ?_
                  refine hK.out _ _ ?_
                  clear hK KK
                  refine done_ (by kernel_rfl) ?_
                  have HI46 := hid (RfS.below hI.out (cthen HBT.out hHeld.1))
                  clear hS2 hHeld hHeld7 hcl
                  have hqr := HQR.out w46 HI46.out.q HI46.out.bel
                  obtain ⟨b1, off1, B1, d1, B2, d2, e1, z0, -⟩ := chunk_at hqr 0 (by rw [HQL2.out]; exact HM0.out)
                  injection e1 with e1
                  injection e1 with e1 e2 e3
                  subst e1
                  subst e2
                  rw [Nat.zero_mul, Nat.add_zero] at z0
                  have hgq := tg_take g Q j hj1 (by rw [HQL2.out]; exact HM0.out)
                  obtain ⟨ty, hty⟩ : ∃ ty, (Q[0]'(by rw [HQL2.out]; exact HM0.out)).f0 = ty := ⟨_, rfl⟩
                  rw [hty] at z0 hgq
                  have HGQ := hid hgq
                  have hcutl := HCUTL.out
                  clear hqr e3 B1 d1 B2 d2 hty hgq
                  by_cases h1 : ty = 1
                  · subst h1
                    have q0 := pw_cell_below (below_alloc (Below.refl w46.heap.size w46) (.cells #[.int .u16 s, .int .u16 d, .int .u32 g, .slice (some ⟨bq, k * 4, none⟩) j j] 38)) z0
                    have hb7 : Below w46.heap.size w46 (w46.alloc (.cells #[.int .u16 s, .int .u16 d, .int .u32 0, .slice (some ⟨bq, k * 4, none⟩) j j] 38)) := below_alloc (Below.refl _ _) _
                    have hI7 := RfS.below HI46.out hb7
                    have htg : tg g (Q.take j) = 0 := by rw [HGQ.out, if_pos rfl]
                    have hlj : (Q.take j).length = j := by rw [List.length_take, HQL2.out]; omega
                    have hp : RpQ bq qs (mkP s d g (Q.take j)) [.int .u16 s, .int .u16 d, .int .u32 0, .slice (some ⟨bq, k * 4, none⟩) j j] := ⟨k, by show ([.int .u16 s, .int .u16 d, .int .u32 0, .slice (some ⟨bq, k * 4, none⟩) j j] : List Value) = [.int .u16 s, .int .u16 d, .int .u32 (tg g (Q.take j)), .slice (some ⟨bq, k * 4, none⟩) (Q.take j).length (Q.take j).length]; rw [htg, hlj], by show k + (Q.take j).length ≤ qs.length; rw [hlj, HNQ.out]; have := HKN.out; omega, by show Q.take j = (qs.drop k).take (Q.take j).length; rw [hlj, HQ.out]⟩
                    have HP := hid hp
                    have HI7 := hid hI7
                    obtain ⟨⟨o0, o1, o2, o3⟩, -⟩ := four hI7.out
                    clear hb7 hI7 htg hlj hp o1 o2 o3
                    go_wp2_with (at_builtin; go_loud (refine OwnRow.append (w0 := w46.alloc (.cells #[.int .u16 s, .int .u16 d, .int .u32 0, .slice (some ⟨bq, k * 4, none⟩) j j] 38)) (W := w46.alloc (.cells #[.int .u16 s, .int .u16 d, .int .u32 0, .slice (some ⟨bq, k * 4, none⟩) j j] 38)) (w.heap.size + 3) rfl _ _ 29 38 _ 4 32 rfl Tryz.underlying29 infoP rfl (by decide) (by decide) (.slice Ap np cp) (ps.map (mkP s d g)) (mkP s d g (Q.take j)) [.int .u16 s, .int .u16 d, .int .u32 0, .slice (some ⟨bq, k * 4, none⟩) j j] rfl (by simp only [World.size_alloc]; rfl) HP.out rfl (by intro u hu; simp only [List.mem_cons, List.not_mem_nil, or_false] at hu; rcases hu with rfl | rfl | rfl | rfl <;> rfl) HI7.out.p (Below.refl _ _) HI7.out.hz (by rw [List.length_map]; have := HPL.out; omega) ?_); intro v9 w9 hO9 hB9 hG9 hA9; obtain ⟨A9, c9, rfl, -⟩ := OwnRow.slice_ hO9; obtain ⟨⟨g0, g1, g2, g3⟩, ⟨f0, f1, f2, f3⟩⟩ := four ((hB9.block _ (Nat.lt_succ_self (w.heap.size + 2))).trans HI7.out.out); have HI9 := hid (RfS.addP HI7.out hO9 hB9 hG9); clear hO9 hB9 hG9 hA9)
                    have hI9 := HI9.out
                    rw [show (ps.map (mkP s d g) ++ [mkP s d g (Q.take j)]).length = ps.length + 1 by simp, show ps.map (mkP s d g) ++ [mkP s d g (Q.take j)] = (ps ++ [Q.take j]).map (mkP s d g) by simp] at hI9
                    have HI9b := hid hI9
                    clear hI9 hcutl q0 g0 g1 g2 g3 f0 f1 f2 f3 o0
                    exact ⟨⟨k + j, A', cc - j, _, ps ++ [Q.take j], by first | (rw [show nq - (k + j) = m - j by have := HKN.out; omega]; done) | (rw [show nq - (k + j) = 0 by have := HKN.out; omega]; done), by have := HKN.out; omega, by have := HKN.out; omega, HA2, HO2, HI9b⟩, by first | (show m - j < m; have := HM0.out; omega) | (show 0 < m; exact HM0.out)⟩
                  · have q0 := pw_cell_below (below_alloc (Below.refl w46.heap.size w46) (.cells #[.int .u16 s, .int .u16 d, .int .u32 g, .slice (some ⟨bq, k * 4, none⟩) j j] 38)) z0
                    have hb7 : Below w46.heap.size w46 (w46.alloc (.cells #[.int .u16 s, .int .u16 d, .int .u32 g, .slice (some ⟨bq, k * 4, none⟩) j j] 38)) := below_alloc (Below.refl _ _) _
                    have hI7 := RfS.below HI46.out hb7
                    have htg : tg g (Q.take j) = g := by rw [HGQ.out, if_neg h1]
                    have hlj : (Q.take j).length = j := by rw [List.length_take, HQL2.out]; omega
                    have hp : RpQ bq qs (mkP s d g (Q.take j)) [.int .u16 s, .int .u16 d, .int .u32 g, .slice (some ⟨bq, k * 4, none⟩) j j] := ⟨k, by show ([.int .u16 s, .int .u16 d, .int .u32 g, .slice (some ⟨bq, k * 4, none⟩) j j] : List Value) = [.int .u16 s, .int .u16 d, .int .u32 (tg g (Q.take j)), .slice (some ⟨bq, k * 4, none⟩) (Q.take j).length (Q.take j).length]; rw [htg, hlj], by show k + (Q.take j).length ≤ qs.length; rw [hlj, HNQ.out]; have := HKN.out; omega, by show Q.take j = (qs.drop k).take (Q.take j).length; rw [hlj, HQ.out]⟩
                    have HP := hid hp
                    have HI7 := hid hI7
                    obtain ⟨⟨o0, o1, o2, o3⟩, -⟩ := four hI7.out
                    clear hb7 hI7 htg hlj hp o1 o2 o3
                    go_wp2_with (at_builtin; go_loud (refine OwnRow.append (w0 := w46.alloc (.cells #[.int .u16 s, .int .u16 d, .int .u32 g, .slice (some ⟨bq, k * 4, none⟩) j j] 38)) (W := w46.alloc (.cells #[.int .u16 s, .int .u16 d, .int .u32 g, .slice (some ⟨bq, k * 4, none⟩) j j] 38)) (w.heap.size + 3) rfl _ _ 29 38 _ 4 32 rfl Tryz.underlying29 infoP rfl (by decide) (by decide) (.slice Ap np cp) (ps.map (mkP s d g)) (mkP s d g (Q.take j)) [.int .u16 s, .int .u16 d, .int .u32 g, .slice (some ⟨bq, k * 4, none⟩) j j] rfl (by simp only [World.size_alloc]; rfl) HP.out rfl (by intro u hu; simp only [List.mem_cons, List.not_mem_nil, or_false] at hu; rcases hu with rfl | rfl | rfl | rfl <;> rfl) HI7.out.p (Below.refl _ _) HI7.out.hz (by rw [List.length_map]; have := HPL.out; omega) ?_); intro v9 w9 hO9 hB9 hG9 hA9; obtain ⟨A9, c9, rfl, -⟩ := OwnRow.slice_ hO9; obtain ⟨⟨g0, g1, g2, g3⟩, ⟨f0, f1, f2, f3⟩⟩ := four ((hB9.block _ (Nat.lt_succ_self (w.heap.size + 2))).trans HI7.out.out); have HI9 := hid (RfS.addP HI7.out hO9 hB9 hG9); clear hO9 hB9 hG9 hA9)
                    have hI9 := HI9.out
                    rw [show (ps.map (mkP s d g) ++ [mkP s d g (Q.take j)]).length = ps.length + 1 by simp, show ps.map (mkP s d g) ++ [mkP s d g (Q.take j)] = (ps ++ [Q.take j]).map (mkP s d g) by simp] at hI9
                    have HI9b := hid hI9
                    clear hI9 hcutl q0 g0 g1 g2 g3 f0 f1 f2 f3 o0
                    exact ⟨⟨k + j, A', cc - j, _, ps ++ [Q.take j], by first | (rw [show nq - (k + j) = m - j by have := HKN.out; omega]; done) | (rw [show nq - (k + j) = 0 by have := HKN.out; omega]; done), by have := HKN.out; omega, by have := HKN.out; omega, HA2, HO2, HI9b⟩, by first | (show m - j < m; have := HM0.out; omega) | (show 0 < m; exact HM0.out)⟩
            · obtain rfl : m = j := by omega
              have hHF := hid (show ∀ y', Q[m]? = some y' → roomC M (Q.take m) y' = false from fun y' h => by rw [List.getElem?_eq_none (by rw [HQL2.out]; exact Nat.le_refl _)] at h; cases h)
              have hS0 : Below wr.heap.size wr wr.drew ∧ True := ⟨below_drew (Below.refl _ _) 1, trivial⟩
              go_upto_region 16 with fail
              refine start_ (n := 25) (S := (fun W => Below wr.heap.size wr W ∧ True)) (ds := []) (bA 25 0) (by kernel_rfl) rfl rfl hS0 (fun hHeld => ?_)
              generalize wr.drew = w44 at hS0 hHeld ⊢
              refine pU 0 (some 64) (bA 25 1) rfl rfl ?_
              refine pU 1 (some 65) (bA 25 3) rfl rfl ?_
              refine pU 2 (some 66) (bA 25 7) rfl rfl ?_
              refine pU 3 (some 67) (bA 25 15) rfl rfl ?_
              refine pU 4 (some 68) (bA 25 31) rfl rfl ?_
              refine pure_ (i := 5) (N := some 69) (v := undef) (a' := ?_) (bA 25 63) rfl rfl (by kernel_rfl) (fun _ _ _ h => h) (Or.inr ⟨by rfl, rfl⟩) ?_ ?_
              rotate_left
              · simp only [Act.put, sA, s0, sS, i64_w, i32_w]
                rfl
              refine pure_ (i := 6) (N := some 70) (v := undef) (a' := ?_) (bA 25 127) rfl rfl (by kernel_rfl) (fun _ _ _ h => h) (Or.inr ⟨by rfl, rfl⟩) ?_ ?_
              rotate_left
              · simp only [Act.put, sA, s0, sS, i64_w, i32_w]
                rfl
              refine pure_ (i := 7) (N := some 71) (v := undef) (a' := ?_) (bA 25 255) rfl rfl (by kernel_rfl) (fun _ _ _ h => h) (Or.inr ⟨by rfl, rfl⟩) ?_ ?_
              rotate_left
              · simp only [Act.put, sA, s0, sS, i64_w, i32_w]
                rfl
              refine pure_ (i := 8) (N := some 72) (v := undef) (a' := ?_) (bA 25 511) rfl rfl (by kernel_rfl) (fun _ _ _ h => h) (Or.inr ⟨by rfl, rfl⟩) ?_ ?_
              rotate_left
              · simp only [Act.put, sA, s0, sS, i64_w, i32_w]
                rfl
              refine pure_ (i := 10) (N := some 74) (v := undef) (a' := ?_) (bA 25 1535) rfl rfl (by kernel_rfl) (fun _ _ _ h => h) (Or.inr ⟨by rfl, rfl⟩) ?_ ?_
              rotate_left
              · simp only [Act.put, sA, s0, sS, i64_w, i32_w]
                rfl
              refine pure_ (i := 11) (N := some 75) (v := undef) (a' := ?_) (bA 25 3583) rfl rfl (by kernel_rfl) (fun _ _ _ h => h) (Or.inr ⟨by rfl, rfl⟩) ?_ ?_
              rotate_left
              · simp only [Act.put, sA, s0, sS, i64_w, i32_w]
                rfl
              refine pure_ (i := 12) (N := some 76) (v := undef) (a' := ?_) (bA 25 7679) rfl rfl (by kernel_rfl) (fun _ _ _ h => h) (Or.inr ⟨by rfl, rfl⟩) ?_ ?_
              rotate_left
              · simp only [Act.put, sA, s0, sS, i64_w, i32_w]
                rfl
              refine pure_ (i := 9) (N := some 73) (v := undef) (a' := ?_) (bA 25 8191) rfl rfl (by kernel_rfl) (fun _ _ _ h => h) (Or.inr ⟨by rfl, rfl⟩) ?_ ?_
              rotate_left
              · simp only [Act.put, sA, s0, sS, i64_w, i32_w]
                rfl
              refine pure_ (i := 13) (N := some 77) (v := undef) (a' := ?_) (bA 25 16383) rfl rfl (by kernel_rfl) (fun _ _ _ h => h) (Or.inr ⟨by rfl, rfl⟩) ?_ ?_
              rotate_left
              · simp only [Act.put, sA, s0, sS, i64_w, i32_w]
                rfl
              refine pure_ (i := 14) (N := some 78) (v := undef) (a' := ?_) (bA 25 32767) rfl rfl (by kernel_rfl) (fun _ _ _ h => h) (Or.inr ⟨by rfl, rfl⟩) ?_ ?_
              rotate_left
              · simp only [Act.put, sA, s0, sS, i64_w, i32_w]
                rfl
              refine pU 15 (some 79) (bA 25 65535) rfl rfl ?_
              refine pU 16 (some 80) (bA 25 131071) rfl rfl ?_
              refine pure_ (i := 17) (N := some 81) (v := undef) (a' := ?_) (bA 25 262143) rfl rfl (by kernel_rfl) (fun _ _ _ h => h) (Or.inr ⟨by rfl, rfl⟩) ?_ ?_
              rotate_left
              · simp only [Act.put, sA, s0, sS, i64_w, i32_w]
                rfl
              refine pure_ (i := 18) (N := some 82) (v := undef) (a' := ?_) (bA 25 524287) rfl rfl (by kernel_rfl) (fun _ _ _ h => h) (Or.inr ⟨by rfl, rfl⟩) ?_ ?_
              rotate_left
              · simp only [Act.put, sA, s0, sS, i64_w, i32_w]
                rfl
              refine pure_ (i := 19) (N := some 83) (v := undef) (a' := ?_) (bA 25 1048575) rfl rfl (by kernel_rfl) (fun _ _ _ h => h) (Or.inr ⟨by rfl, rfl⟩) ?_ ?_
              rotate_left
              · simp only [Act.put, sA, s0, sS, i64_w, i32_w]
                rfl
              refine pure_ (i := 20) (N := some 84) (v := undef) (a' := ?_) (bA 25 2097151) rfl rfl (by kernel_rfl) (fun _ _ _ h => h) (Or.inr ⟨by rfl, rfl⟩) ?_ ?_
              rotate_left
              · simp only [Act.put, sA, s0, sS, i64_w, i32_w]
                rfl
              refine pure_ (i := 22) (N := some 86) (v := undef) (a' := ?_) (bA 25 6291455) rfl rfl (by kernel_rfl) (fun _ _ _ h => h) (Or.inr ⟨by rfl, rfl⟩) ?_ ?_
              rotate_left
              · simp only [Act.put, sA, s0, sS, i64_w, i32_w]
                rfl
              refine pure_ (i := 21) (N := some 85) (v := undef) (a' := ?_) (bA 25 8388607) rfl rfl (by kernel_rfl) (fun _ _ _ h => h) (Or.inr ⟨by rfl, rfl⟩) ?_ ?_
              rotate_left
              · simp only [Act.put, sA, s0, sS, i64_w, i32_w]
                rfl
              refine pure_ (i := 23) (N := some 87) (v := undef) (a' := ?_) (bA 25 16777215) rfl rfl (by kernel_rfl) (fun _ _ _ h => h) (Or.inr ⟨by rfl, rfl⟩) ?_ ?_
              rotate_left
              · simp only [Act.put, sA, s0, sS, i64_w, i32_w]
                rfl
              refine pU 24 (some 88) (bA 25 33554431) rfl rfl ?_
              refine done_ (by kernel_rfl) ?_
              have HBT := hid (cthen hB.out hHeld.1)
              clear hS0 hHeld
              have hIT := RfS.below hI.out HBT.out
              obtain ⟨Ap, cp, rfl, -⟩ := OwnRow.slice_ hIT.p
              obtain ⟨np, hnp⟩ : ∃ np, (ps.map (mkP s d g)).length = np := ⟨_, rfl⟩
              rw [hnp] at hI hIT
              obtain ⟨⟨t0, t1, t2⟩, -⟩ := three hIT.hd
              have hjc : m ≤ cc := by omega
              have hcl := clip3 (some ⟨bq, k * 4, none⟩) m cc (by omega)
              obtain ⟨A', hA', hcutl⟩ := cut_l bq k m cc m (by omega) (by omega)
              have HA2 := hid (show k + m < nq → A' = some ⟨bq, (k + m) * 4, none⟩ from fun h => hA' (by have := HKN.out; omega))
              have HO2 := hid (show outsC M l = (ps ++ [Q.take m]) ++ Pkg.packs (fitC M) (roomC M) (qs.drop (k + m)) by
                rw [hO.out, Pkg.packs_cut (fitC M) (roomC M) Q (fun y hy => HQF.out y (HQM.out y hy)) m (by omega) (by rw [HQL2.out]; omega) (fun i h0 h => hT.out i h0 h _ (List.getElem?_eq_getElem (by rw [HQL2.out]; omega))) (fun h => hHF.out _ (List.getElem?_eq_getElem h)), ← List.drop_drop, HQ.out]
                simp)
              have hS2 : Below w44.heap.size w44 w44.drew ∧ w44.drew.cell? ⟨w.heap.size, 0, none⟩ = some (.int .u16 s) ∧ w44.drew.cell? ⟨w.heap.size, 1, none⟩ = some (.int .u16 d) ∧ w44.drew.cell? ⟨w.heap.size, 2, none⟩ = some (.int .u32 g) := ⟨below_drew (Below.refl _ _) 1, t0, t1, t2⟩
              have HCUTL := hid hcutl
              clear hIT hnp t0 t1 t2 hA' hcutl
              go_upto_region 18 with fail
              refine start_ (n := 8) (S := (fun w' => Below w44.heap.size w44 w' ∧ w'.cell? ⟨w.heap.size, 0, none⟩ = some (.int .u16 s) ∧ w'.cell? ⟨w.heap.size, 1, none⟩ = some (.int .u16 d) ∧ w'.cell? ⟨w.heap.size, 2, none⟩ = some (.int .u32 g))) (ds := [7]) (bA 8 0) (by kernel_rfl) rfl rfl hS2 (fun hHeld => ?_)
              generalize w44.drew = w46 at hS2 hHeld ⊢
              refine pU 1 (some 92) (bA 8 2) rfl rfl ?_
              refine pU 2 (some 93) (bA 8 6) rfl rfl ?_
              refine pU 3 (some 94) (bA 8 14) rfl rfl ?_
              refine pU 4 (some 95) (bA 8 30) rfl rfl ?_
              refine tU 0 (some 91) (bA 8 31) rfl rfl hHeld (by rintro w' ⟨q0, q1, q2, q3⟩; go_simp; with_reducible rfl) ?_
              refine pU 5 (some 96) (bA 8 63) rfl rfl ?_
              refine one_ (i := 6) (N := some 12) (bA 8 127) rfl rfl (by kernel_rfl) (by decide) (fun KK hK => ?_)
              refine value_ (w1 := w46.alloc (.cells #[.int .u16 0, .int .u16 0, .int .u32 0, .slice none 0 0] 38)) (v := .pointer (some ⟨w46.heap.size, 0, none⟩)) (by rfl) rfl (by go_simp; done) ?_
              refine hK.out _ _ (rf3_blw hHeld (below_alloc (Below.refl _ _) _)) (fun hHeld7 => ?_)
              clear hK KK
              refine nU ?_
              refine last_ (i := 7) (N := none) (bA 8 255) rfl rfl (by kernel_rfl) (by decide) (fun KK hK => ?_)
              refine skip_ (w1 := w46.alloc (.cells #[.int .u16 s, .int .u16 d, .int .u32 g, .slice (some ⟨bq, k * 4, none⟩) m m] 38)) (by rfl) rfl (by go_simp; done) ?_
              refine hK.out _ _ ?_
              clear hK KK
              refine done_ (by kernel_rfl) ?_
              have HI46 := hid (RfS.below hI.out (cthen HBT.out hHeld.1))
              clear hS2 hHeld hHeld7 hcl
              have hqr := HQR.out w46 HI46.out.q HI46.out.bel
              obtain ⟨b1, off1, B1, d1, B2, d2, e1, z0, -⟩ := chunk_at hqr 0 (by rw [HQL2.out]; exact HM0.out)
              injection e1 with e1
              injection e1 with e1 e2 e3
              subst e1
              subst e2
              rw [Nat.zero_mul, Nat.add_zero] at z0
              have hgq := tg_take g Q m hj1 (by rw [HQL2.out]; exact HM0.out)
              obtain ⟨ty, hty⟩ : ∃ ty, (Q[0]'(by rw [HQL2.out]; exact HM0.out)).f0 = ty := ⟨_, rfl⟩
              rw [hty] at z0 hgq
              have HGQ := hid hgq
              have hcutl := HCUTL.out
              clear hqr e3 B1 d1 B2 d2 hty hgq
              by_cases h1 : ty = 1
              · subst h1
                have q0 := pw_cell_below (below_alloc (Below.refl w46.heap.size w46) (.cells #[.int .u16 s, .int .u16 d, .int .u32 g, .slice (some ⟨bq, k * 4, none⟩) m m] 38)) z0
                have hb7 : Below w46.heap.size w46 (w46.alloc (.cells #[.int .u16 s, .int .u16 d, .int .u32 0, .slice (some ⟨bq, k * 4, none⟩) m m] 38)) := below_alloc (Below.refl _ _) _
                have hI7 := RfS.below HI46.out hb7
                have htg : tg g (Q.take m) = 0 := by rw [HGQ.out, if_pos rfl]
                have hlj : (Q.take m).length = m := by rw [List.length_take, HQL2.out]; omega
                have hp : RpQ bq qs (mkP s d g (Q.take m)) [.int .u16 s, .int .u16 d, .int .u32 0, .slice (some ⟨bq, k * 4, none⟩) m m] := ⟨k, by show ([.int .u16 s, .int .u16 d, .int .u32 0, .slice (some ⟨bq, k * 4, none⟩) m m] : List Value) = [.int .u16 s, .int .u16 d, .int .u32 (tg g (Q.take m)), .slice (some ⟨bq, k * 4, none⟩) (Q.take m).length (Q.take m).length]; rw [htg, hlj], by show k + (Q.take m).length ≤ qs.length; rw [hlj, HNQ.out]; have := HKN.out; omega, by show Q.take m = (qs.drop k).take (Q.take m).length; rw [hlj, HQ.out]⟩
                have HP := hid hp
                have HI7 := hid hI7
                obtain ⟨⟨o0, o1, o2, o3⟩, -⟩ := four hI7.out
                clear hb7 hI7 htg hlj hp o1 o2 o3
                go_wp2_with (at_builtin; go_loud (refine OwnRow.append (w0 := w46.alloc (.cells #[.int .u16 s, .int .u16 d, .int .u32 0, .slice (some ⟨bq, k * 4, none⟩) m m] 38)) (W := w46.alloc (.cells #[.int .u16 s, .int .u16 d, .int .u32 0, .slice (some ⟨bq, k * 4, none⟩) m m] 38)) (w.heap.size + 3) rfl _ _ 29 38 _ 4 32 rfl Tryz.underlying29 infoP rfl (by decide) (by decide) (.slice Ap np cp) (ps.map (mkP s d g)) (mkP s d g (Q.take m)) [.int .u16 s, .int .u16 d, .int .u32 0, .slice (some ⟨bq, k * 4, none⟩) m m] rfl (by simp only [World.size_alloc]; rfl) HP.out rfl (by intro u hu; simp only [List.mem_cons, List.not_mem_nil, or_false] at hu; rcases hu with rfl | rfl | rfl | rfl <;> rfl) HI7.out.p (Below.refl _ _) HI7.out.hz (by rw [List.length_map]; have := HPL.out; omega) ?_); intro v9 w9 hO9 hB9 hG9 hA9; obtain ⟨A9, c9, rfl, -⟩ := OwnRow.slice_ hO9; obtain ⟨⟨g0, g1, g2, g3⟩, ⟨f0, f1, f2, f3⟩⟩ := four ((hB9.block _ (Nat.lt_succ_self (w.heap.size + 2))).trans HI7.out.out); have HI9 := hid (RfS.addP HI7.out hO9 hB9 hG9); clear hO9 hB9 hG9 hA9)
                have hI9 := HI9.out
                rw [show (ps.map (mkP s d g) ++ [mkP s d g (Q.take m)]).length = ps.length + 1 by simp, show ps.map (mkP s d g) ++ [mkP s d g (Q.take m)] = (ps ++ [Q.take m]).map (mkP s d g) by simp] at hI9
                have HI9b := hid hI9
                clear hI9 hcutl q0 g0 g1 g2 g3 f0 f1 f2 f3 o0
                exact ⟨⟨k + m, A', cc - m, _, ps ++ [Q.take m], by first | (rw [show nq - (k + m) = m - m by have := HKN.out; omega]; done) | (rw [show nq - (k + m) = 0 by have := HKN.out; omega]; done), by have := HKN.out; omega, by have := HKN.out; omega, HA2, HO2, HI9b⟩, by first | (show m - m < m; have := HM0.out; omega) | (show 0 < m; exact HM0.out)⟩
              · have q0 := pw_cell_below (below_alloc (Below.refl w46.heap.size w46) (.cells #[.int .u16 s, .int .u16 d, .int .u32 g, .slice (some ⟨bq, k * 4, none⟩) m m] 38)) z0
                have hb7 : Below w46.heap.size w46 (w46.alloc (.cells #[.int .u16 s, .int .u16 d, .int .u32 g, .slice (some ⟨bq, k * 4, none⟩) m m] 38)) := below_alloc (Below.refl _ _) _
                have hI7 := RfS.below HI46.out hb7
                have htg : tg g (Q.take m) = g := by rw [HGQ.out, if_neg h1]
                have hlj : (Q.take m).length = m := by rw [List.length_take, HQL2.out]; omega
                have hp : RpQ bq qs (mkP s d g (Q.take m)) [.int .u16 s, .int .u16 d, .int .u32 g, .slice (some ⟨bq, k * 4, none⟩) m m] := ⟨k, by show ([.int .u16 s, .int .u16 d, .int .u32 g, .slice (some ⟨bq, k * 4, none⟩) m m] : List Value) = [.int .u16 s, .int .u16 d, .int .u32 (tg g (Q.take m)), .slice (some ⟨bq, k * 4, none⟩) (Q.take m).length (Q.take m).length]; rw [htg, hlj], by show k + (Q.take m).length ≤ qs.length; rw [hlj, HNQ.out]; have := HKN.out; omega, by show Q.take m = (qs.drop k).take (Q.take m).length; rw [hlj, HQ.out]⟩
                have HP := hid hp
                have HI7 := hid hI7
                obtain ⟨⟨o0, o1, o2, o3⟩, -⟩ := four hI7.out
                clear hb7 hI7 htg hlj hp o1 o2 o3
                go_wp2_with (at_builtin; go_loud (refine OwnRow.append (w0 := w46.alloc (.cells #[.int .u16 s, .int .u16 d, .int .u32 g, .slice (some ⟨bq, k * 4, none⟩) m m] 38)) (W := w46.alloc (.cells #[.int .u16 s, .int .u16 d, .int .u32 g, .slice (some ⟨bq, k * 4, none⟩) m m] 38)) (w.heap.size + 3) rfl _ _ 29 38 _ 4 32 rfl Tryz.underlying29 infoP rfl (by decide) (by decide) (.slice Ap np cp) (ps.map (mkP s d g)) (mkP s d g (Q.take m)) [.int .u16 s, .int .u16 d, .int .u32 g, .slice (some ⟨bq, k * 4, none⟩) m m] rfl (by simp only [World.size_alloc]; rfl) HP.out rfl (by intro u hu; simp only [List.mem_cons, List.not_mem_nil, or_false] at hu; rcases hu with rfl | rfl | rfl | rfl <;> rfl) HI7.out.p (Below.refl _ _) HI7.out.hz (by rw [List.length_map]; have := HPL.out; omega) ?_); intro v9 w9 hO9 hB9 hG9 hA9; obtain ⟨A9, c9, rfl, -⟩ := OwnRow.slice_ hO9; obtain ⟨⟨g0, g1, g2, g3⟩, ⟨f0, f1, f2, f3⟩⟩ := four ((hB9.block _ (Nat.lt_succ_self (w.heap.size + 2))).trans HI7.out.out); have HI9 := hid (RfS.addP HI7.out hO9 hB9 hG9); clear hO9 hB9 hG9 hA9)
                have hI9 := HI9.out
                rw [show (ps.map (mkP s d g) ++ [mkP s d g (Q.take m)]).length = ps.length + 1 by simp, show ps.map (mkP s d g) ++ [mkP s d g (Q.take m)] = (ps ++ [Q.take m]).map (mkP s d g) by simp] at hI9
                have HI9b := hid hI9
                clear hI9 hcutl q0 g0 g1 g2 g3 f0 f1 f2 f3 o0
                exact ⟨⟨k + m, A', cc - m, _, ps ++ [Q.take m], by first | (rw [show nq - (k + m) = m - m by have := HKN.out; omega]; done) | (rw [show nq - (k + m) = 0 by have := HKN.out; omega]; done), by have := HKN.out; omega, by have := HKN.out; omega, HA2, HO2, HI9b⟩, by first | (show m - m < m; have := HM0.out; omega) | (show 0 < m; exact HM0.out)⟩
        · obtain rfl : nq = k := by omega
          have hop := hO.out
          rw [List.drop_of_length_le (by have := HNQ.out; omega), Pkg.packs_nil, List.append_nil] at hop
          subst hop
          have HFIN := hid (RfS.fin hI.out (fun h0 A n c e => by injection e with e _ _; rw [← e]; exact HBQ.out (by have := HNQ.out; omega)))
          obtain ⟨Ap, cp, Ar, cr, rfl, rfl, -⟩ := HFIN.out .nilIface .nilIface .nilIface .nilIface
          obtain ⟨⟨o0, o1, o2, o3⟩, -⟩ := four hI.out.out
          obtain ⟨⟨r0, r1, r2, r3⟩, ⟨f0, f1, f2, f3⟩⟩ := four hI.out.res
          obtain ⟨np, hnp⟩ : ∃ np, ((outsC M l).map (mkP s d g)).length = np := ⟨_, rfl⟩
          obtain ⟨nr, hnr⟩ : ∃ nr, (rejC M l).length = nr := ⟨_, rfl⟩
          have HNP := hid (show (outsC M l).length = np by rw [← hnp, List.length_map])
          have HNR := hid hnr
          rw [hnp, hnr] at hI HFIN
          rw [hnp] at o0
          rw [hnr] at o1
          clear hnp hnr
          go_wp2_with fail
          clear r0 r1 r2 r3 f0 f1 f2 f3 o0 o1 o2 o3
          obtain ⟨⟨s0, s1, s2, s3⟩, -⟩ := four (show ((((wr.setCell ⟨w.heap.size + 1, 0, none⟩ (.slice Ap np cp)).setCell ⟨w.heap.size + 1, 1, none⟩ (.slice Ar nr cr)).setCell ⟨w.heap.size + 1, 2, none⟩ (.int .i64 0)).setCell ⟨w.heap.size + 1, 3, none⟩ (.int .i64 0)).heap[w.heap.size + 1]? = some (.cells #[.slice Ap np cp, .slice Ar nr cr, .int .i64 0, .int .i64 0] 35 (0, 0)) from set_blk3 (set_blk3 (set_blk3 (set_blk3 hI.out.res 0 _) 1 _) 2 _) 3 _)
          obtain ⟨Ap2, cp2, Ar2, cr2, e1, e2, l1, r1, l2, r2, hbf⟩ := HFIN.out (.slice Ap np cp) (.slice Ar nr cr) (.int .i64 0) (.int .i64 0)
          injection e1 with e1 _ e3
          injection e2 with e2 _ e4
          subst e1
          subst e2
          subst e3
          subst e4
          exact bodyPost_ret (v := .agg #[.slice Ap np cp, .slice Ar nr cr, .int .i64 0, .int .i64 0]) (by simp [results, Tryz.results10, go_sem, s0, s1, s2, s3]) rfl ⟨fun er h => (by rw [HST.out] at h; cases h), fun _ => ⟨Ap, cp, Ar, cr, by rw [HNP.out, HNR.out], by rw [HNP.out]; exact l1, by rw [HNP.out]; exact r1, by rw [HNR.out]; exact l2, by rw [HNR.out]; exact r2⟩, hbf⟩
end Bn
end Go.Proofs.YtmfmomfhiieilaaGreatDoor
/- 'packet.Clone', 'bundle.Load', 'bundle.Join'. -/
set_option linter.unusedVariables false
set_option linter.unusedSimpArgs false
namespace Go.Proofs.YtmfmomfhiieilaaGreatDoor
open Go.RowKit Go.Shelf Go.Proofs.YtmfmomfhiieilaaGreatDoor.It Go.Proofs.YtmfmomfhiieilaaGreatDoorW.PrintWords Go.Proofs.YtmfmomfhiieilaaGreatDoorW.PrintLast Go.Proofs.YtmfmomfhiieilaaGreatDoorW.PrintMore
namespace Bn
open PBundleSorted
/-- What 'packet.Clone' gives. -/
def PcP (s d g : Int) (q : List Ck) (w : World) (e : Ending) (w' : World) : Prop := ∃ v, e = .returned (.agg #[.int .u16 s, .int .u16 d, .int .u32 g, v]) ∧ kC.R 42 w' w.heap.size (fun _ => True) v q ∧ Below w.heap.size w w'
structure PcI (w : World) (s d g : Int) (p0 : Obj) (v : Value) (l : List Ck) (W : World) : Prop where
  bel : Below w.heap.size w W
  box : W.heap[w.heap.size]? = some p0
  res : W.heap[w.heap.size + 1]? = some (.cells #[.int .u16 0, .int .u16 0, .int .u32 0, .slice none 0 0] 38 (0, 0))
  out : W.heap[w.heap.size + 2]? = some (.cells #[.int .u16 s, .int .u16 d, .int .u32 g, v] 38 (0, 0))
  row : kC.R 42 W (w.heap.size + 3) (fun _ => True) v l
  hz : w.heap.size + 3 ≤ W.heap.size
theorem PcI.below {w : World} {s d g : Int} {p0 : Obj} {v : Value} {l : List Ck} {W W' : World} (h : PcI w s d g p0 v l W) (hb : Below W.heap.size W W') : PcI w s d g p0 v l W' :=
  ⟨cthen h.bel hb, blk_below h.box hb, blk_below h.res hb, blk_below h.out hb, Kd.R_below h.row hb, Nat.le_trans h.hz hb.size⟩
theorem RC_far {W : World} {z p j : Nat} {v u : Value} {l : List Ck} (h : kC.R 42 W z (fun _ => True) v l) (hp : p < z) : kC.R 42 (W.setCell ⟨p, j, none⟩ u) z (fun _ => True) v l :=
  Kd.R_mono (Kd.R_far (p := ⟨p, j, none⟩) (Kd.R_bound h) (fun k hk => by have := hk.2.1; show k ≠ p; omega) u) (fun _ _ => trivial)
theorem PcI.step {w : World} {s d g : Int} {x : Ck} {p0 : Obj} {v v1 : Value} {l : List Ck} {W w1 : World} (h : PcI w s d g p0 v l W) (hb : Below (w.heap.size + 3) W w1) (hr : kC.R 42 w1 (w.heap.size + 3) (fun _ => True) v1 (l ++ [x])) : PcI w s d g p0 v1 (l ++ [x]) (w1.setCell ⟨w.heap.size + 2, 3, none⟩ v1) := by
  have hlt : ∀ k, k < w.heap.size + 3 → w1.heap[k]? = W.heap[k]? := fun k hk => hb.block k hk
  have hsz : W.heap.size ≤ w1.heap.size := hb.size
  refine ⟨below_set ?_ (by omega) _, blk_fars ((hlt _ (by omega)).trans h.box) (by omega), blk_fars ((hlt _ (by omega)).trans h.res) (by omega), ?_, RC_far hr (by omega), by have := h.hz; simp [World.setCell]; omega⟩
  · exact h.bel.trans (hb.mono (by omega))
  · exact set_blk3 ((hlt _ (by omega)).trans h.out) 3 v1
theorem pc5_blw {S W W' : World} {a0 a1 a2 a3 a4 : Addr} {v0 v1 v2 v3 v4 : Value} (h : Below S.heap.size S W ∧ W.cell? a0 = some v0 ∧ W.cell? a1 = some v1 ∧ W.cell? a2 = some v2 ∧ W.cell? a3 = some v3 ∧ W.cell? a4 = some v4) (hb : Below W.heap.size W W') : Below S.heap.size S W' ∧ W'.cell? a0 = some v0 ∧ W'.cell? a1 = some v1 ∧ W'.cell? a2 = some v2 ∧ W'.cell? a3 = some v3 ∧ W'.cell? a4 = some v4 := rm_blw h hb
set_option maxRecDepth 100000 in
set_option maxHeartbeats 8000000 in
theorem pclone_any (s d g : Int) (q : List Ck) (A3 : Option Addr) (n3 c3 : Nat) (w : World) (hn : q.length = n3) (hC : CsC w A3 n3 q) (hc : n3 ≤ c3) (hl : n3 ≤ 1000) (hok : ∀ x ∈ q, CkOk x) :
    Calls Tryz.prog 41 #[.agg #[.int .u16 s, .int .u16 d, .int .u32 g, .slice A3 n3 c3]] w (PcP s d g q w) := by
  obtain ⟨S, hS⟩ : ∃ S, ((w.alloc (.cells #[.int .u16 s, .int .u16 d, .int .u32 g, .slice A3 n3 c3] 38)).alloc (.cells #[.int .u16 0, .int .u16 0, .int .u32 0, .slice none 0 0] 38)).alloc (.cells #[.int .u16 s, .int .u16 d, .int .u32 g, .slice none 0 0] 38) = S := ⟨_, rfl⟩
  have HS := hid hS
  have hbS : Below w.heap.size w S := by rw [← hS]; exact below_alloc (below_alloc (below_alloc (Below.refl _ _) _) _) _
  have hzS : S.heap.size = w.heap.size + 3 := by rw [← hS, World.size_alloc, World.size_alloc, World.size_alloc]
  have hI0 : PcI w s d g (.cells #[.int .u16 s, .int .u16 d, .int .u32 g, .slice A3 n3 c3] 38 (0, 0)) (.slice none 0 0) (q.take 0) S := by
    rw [← hS] at hbS hzS ⊢
    refine ⟨hbS, ?_, ?_, ?_, Kd.R_nil _ _ _ _ _, by omega⟩
    · exact blk_alloc (blk_alloc (blk_new w _))
    · have h := blk_new (w.alloc (.cells #[.int .u16 s, .int .u16 d, .int .u32 g, .slice A3 n3 c3] 38)) (.cells #[.int .u16 0, .int .u16 0, .int .u32 0, .slice none 0 0] 38)
      rw [World.size_alloc] at h
      exact blk_alloc h
    · have h := blk_new ((w.alloc (.cells #[.int .u16 s, .int .u16 d, .int .u32 g, .slice A3 n3 c3] 38)).alloc (.cells #[.int .u16 0, .int .u16 0, .int .u32 0, .slice none 0 0] 38)) (.cells #[.int .u16 s, .int .u16 d, .int .u32 g, .slice none 0 0] 38)
      rw [World.size_alloc, World.size_alloc] at h
      exact h
  have HI0 := hid hI0
  have HN := hid hn
  have HC := hid hC
  have HL := hid hl
  have HOK := hid hok
  obtain ⟨⟨x0, x1, x2, x3⟩, -⟩ := four hI0.box
  rw [← hS] at x3
  clear hn hC hl hok hS hbS hzS hI0 x0 x1 x2
  go_enter Tryz.func41, Tryz.ntmps41
  go_wp2_with fail
  rw [HS.out]
  clear x3
  go_loopw [12] (fun vi W => ∃ (i : Nat) (A2 : Option Addr) (c2 : Nat), vi = .int .i64 i ∧ i ≤ n3 ∧ Hid (PcI w s d g (.cells #[.int .u16 s, .int .u16 d, .int .u32 g, .slice A3 n3 c3] 38 (0, 0)) (.slice A2 i c2) (q.take i) W)) (fun vi _ => n3 - (intOf vi).toNat)
  case atStart => exact ⟨0, none, 0, rfl, by omega, HI0⟩
  case round =>
    obtain ⟨i, A2, c2, rfl, hi, hI⟩ := hrel
    clear HI0
    by_cases hlt : i < n3
    · have hil : i < q.length := by have := HN.out; omega
      obtain ⟨b, off, B1, e1, B2, e2, rfl, k0, k1, k2, k3, l1, g1, l2, g2⟩ := chunk_at (Kd.C_below HC.out hI.out.bel) i hil
      have HTK := hid (List.take_succ_eq_append_getElem hil)
      have hxo := HOK.out _ (List.getElem_mem hil)
      obtain ⟨y, hy⟩ : ∃ y, q[i] = y := ⟨_, rfl⟩
      rw [hy] at k0 k1 k2 k3 l1 g1 l2 g2 HTK hxo
      obtain ⟨m1, hm1⟩ : ∃ m, y.f2.length = m := ⟨_, rfl⟩
      obtain ⟨m2, hm2⟩ : ∃ m, y.f3.length = m := ⟨_, rfl⟩
      rw [hm1] at k2 l1
      rw [hm2] at k3 l2 g2
      have HWI := hid (show wrap64 ((i : Int) + 1) = ((i + 1 : Nat) : Int) by have := HL.out; unfold wrap64; omega)
      have HIN := hid (show i ≤ 1000 by have := HL.out; omega)
      have HLN := hid (show (q.take i).length = i by rw [List.length_take]; omega)
      have hcall := fun W (hW : Below wr.heap.size wr W) => cclone_any y.f0 y.f1 B1 B2 m1 e1 m2 e2 y.f2 y.f3 W hm1 (g1.below hW) l1 (by have := hxo.len; omega) hm2 (Kd.C_below g2 hW) l2 hxo.cnt
      obtain ⟨⟨o0, o1, o2, o3⟩, -⟩ := four hI.out.out
      clear hy hil o0 o1 o2 g1 g2 l1 l2 hm1 hm2 hxo
      go_upto_region 5 with fail
      obtain ⟨S5, hS5⟩ : ∃ S5, wr.alloc (.cells #[.int .u8 y.f0, .int .u8 y.f1, .slice B1 m1 e1, .slice B2 m2 e2] 42) = S5 := ⟨_, rfl⟩
      have hbS5 : Below wr.heap.size wr S5 := by rw [← hS5]; exact below_alloc (Below.refl _ _) _
      have BS5 := hid hbS5
      obtain ⟨⟨y0, y1, y2, y3⟩, -⟩ := four (show S5.heap[wr.heap.size]? = some (.cells #[.int .u8 y.f0, .int .u8 y.f1, .slice B1 m1 e1, .slice B2 m2 e2] 42 (0, 0)) by rw [← hS5]; exact blk_new wr _)
      have HCALL := hid (fun W (hW : Below S5.heap.size S5 W) => hcall W (cthen hbS5 hW))
      have o3 := pw_cell_below hbS5 o3
      have hS50 : Below S5.heap.size S5 S5.drew ∧ S5.drew.cell? ⟨w.heap.size + 2, 3, none⟩ = some (.slice A2 i c2) ∧ S5.drew.cell? ⟨wr.heap.size, 0, none⟩ = some (.int .u8 y.f0) ∧ S5.drew.cell? ⟨wr.heap.size, 1, none⟩ = some (.int .u8 y.f1) ∧ S5.drew.cell? ⟨wr.heap.size, 2, none⟩ = some (.slice B1 m1 e1) ∧ S5.drew.cell? ⟨wr.heap.size, 3, none⟩ = some (.slice B2 m2 e2) := ⟨below_drew (Below.refl _ _) 1, o3, y0, y1, y2, y3⟩
      rw [hS5]
      clear hcall hS5 hbS5 y0 y1 y2 y3 o3 k0 k1 k2 k3
      refine start_ (n := 8) (S := (fun w' => Below S5.heap.size S5 w' ∧ w'.cell? ⟨w.heap.size + 2, 3, none⟩ = some (.slice A2 i c2) ∧ w'.cell? ⟨wr.heap.size, 0, none⟩ = some (.int .u8 y.f0) ∧ w'.cell? ⟨wr.heap.size, 1, none⟩ = some (.int .u8 y.f1) ∧ w'.cell? ⟨wr.heap.size, 2, none⟩ = some (.slice B1 m1 e1) ∧ w'.cell? ⟨wr.heap.size, 3, none⟩ = some (.slice B2 m2 e2))) (ds := [5, 7]) (bA 8 0) (by kernel_rfl) rfl rfl hS50 (fun hHeld => ?_)
      generalize S5.drew = w45 at hS50 hHeld ⊢
      refine pU 0 (some 16) (bA 8 1) rfl rfl ?_
      refine tU 1 (some 17) (bA 8 3) rfl rfl hHeld (by rintro w' ⟨q0, q1, q2, q3, q4, q5⟩; go_simp; with_reducible rfl) ?_
      refine tU 2 (some 18) (bA 8 7) rfl rfl hHeld (by rintro w' ⟨q0, q1, q2, q3, q4, q5⟩; go_simp; with_reducible rfl) ?_
      refine one_ (i := 3) (N := some 19) (bA 8 15) rfl rfl (by kernel_rfl) (by decide) (fun KK hK => ?_)
      refine goes_ Tryz.func28 (by kernel_rfl) rfl #[.agg #[.int .u8 y.f0, .int .u8 y.f1, .slice B1 m1 e1, .slice B2 m2 e2]] (by rfl) rfl rfl (by simp only [List.map_toArray, List.map_cons, List.map_nil]; rfl) ?_
      refine Calls.mono (HCALL.out _ hHeld.1) ?_
      rintro e W8 ⟨v1, v2, rfl, hr1, hr2, hb8⟩
      refine ⟨_, rfl, ?_⟩
      obtain ⟨C1, h1, rfl, -, -⟩ := Kd.R_reads hr1
      obtain ⟨C2, h2, rfl, -, -⟩ := Kd.R_reads hr2
      have HB8 := hid (cthen (cthen BS5.out hHeld.1) hb8)
      have hz8 : wr.heap.size ≤ w45.heap.size := by have h1 := BS5.out.size; have h2 := hHeld.1.size; omega
      have HM8 := hid (k42_mkM W8 (w.heap.size + 3) (fun k => wr.heap.size ≤ k) y (Kd.R_lower (Kd.R_mono (Kd.R_bound hr1) (fun k hk => by have := hk.2.1; show wr.heap.size ≤ k; omega)) (by have := hI.out.hz; omega)) (Kd.R_lower (Kd.R_mono (Kd.R_bound hr2) (fun k hk => by have := hk.2.1; show wr.heap.size ≤ k; omega)) (by have := hI.out.hz; omega)))
      have hS8 := pc5_blw hHeld hb8
      clear hr1 hr2 hb8 hz8
      refine hK.out _ _ hS8 (fun hHeld8 => ?_)
      clear hK KK
      refine nU ?_
      refine one_ (i := 4) (N := some 20) (bA 8 31) rfl rfl (by kernel_rfl) (by decide) (fun KK hK => ?_)
      refine value_ (w1 := W8.alloc (.cells #[.int .u8 y.f0, .int .u8 y.f1, .slice C1 y.f2.length h1, .slice C2 y.f3.length h2] 42)) (v := .slice (some ⟨W8.heap.size, 0, none⟩) 1 1) (by rfl) rfl (by go_simp; done) ?_
      refine hK.out _ _ (pc5_blw hS8 (below_alloc (Below.refl _ _) _)) (fun hHeld9 => ?_)
      clear hK KK
      refine nU ?_
      refine last_ (i := 5) (N := some 21) (bA 8 63) rfl rfl (by kernel_rfl) (by decide) (fun KK hK => ?_)
      refine Kd.R_append_step kC (w0 := W8) (W := W8) (w.heap.size + 3) (by rfl) _ _ 26 42 _ 56 (by rfl) Tryz.underlying26 infoC rfl (by decide) (by decide) (.slice A2 i c2) (q.take i) y [.int .u8 y.f0, .int .u8 y.f1, .slice C1 y.f2.length h1, .slice C2 y.f3.length h2] (fun _ => True) (fun k => wr.heap.size ≤ k) (by rfl) (by rfl) HM8.out (fun k hk => ⟨trivial, fun he => by have h := (Kd.R_bound hI.out.row).1 k he.symm; have := h.2.2.1; omega⟩) (fun _ _ => trivial) (Kd.R_below hI.out.row HB8.out) (Below.refl _ _) (by have h1 := hI.out.hz; have h2 := HB8.out.size; omega) (by rw [HLN.out]; have := HIN.out; omega) ?_
      rintro v3 w9 hr9 hb9 - -
      obtain ⟨A3', c3', rfl, -, -⟩ := Kd.R_reads hr9
      obtain ⟨⟨g0, g1, g2, g3⟩, ⟨f0, f1, f2, f3⟩⟩ := four ((hb9.block _ (Nat.lt_succ_self (w.heap.size + 2))).trans (blk_below hI.out.out HB8.out))
      have HR9 := hid hr9
      have HB9 := hid hb9
      clear hr9 hb9
      refine hK.out _ _ ?_
      clear hK KK
      refine nU ?_
      refine pU 6 (some 22) (bA 8 127) rfl rfl ?_
      refine last_ (i := 7) (N := none) (bA 8 255) rfl rfl (by kernel_rfl) (by decide) (fun KK hK => ?_)
      refine skip_ (w1 := w9.setCell ⟨w.heap.size + 2, 3, none⟩ (.slice A3' (q.take i ++ [y]).length c3')) (by rfl) rfl (by go_simp; done) ?_
      refine hK.out _ _ ?_
      clear hK KK
      refine done_ (by kernel_rfl) ?_
      have HST := hid (PcI.step hI.out ((HB8.out.mono hI.out.hz).trans HB9.out) HR9.out)
      have HL2 := hid (show (q.take i ++ [y]).length = i + 1 by rw [List.length_append, HLN.out]; rfl)
      rw [HL2.out] at HST ⊢
      rw [← HTK.out] at HST
      clear g0 g1 g2 g3 f0 f1 f2 f3 hHeld hS50 hS8 hHeld8 hHeld9
      go_wp2_with fail
      exact ⟨⟨i + 1, A3', c3', by rw [HWI.out], hlt, HST⟩, by rw [HWI.out]; simp only [intOf, Int.toNat_natCast]; omega⟩
    · obtain rfl : n3 = i := by omega
      have htl : q.take n3 = q := by rw [← HN.out, List.take_length]
      rw [htl] at hI
      obtain ⟨⟨o0, o1, o2, o3⟩, -⟩ := four hI.out.out
      obtain ⟨⟨r0, r1, r2, r3⟩, ⟨f0, f1, f2, f3⟩⟩ := four hI.out.res
      clear htl
      go_wp2_with fail
      clear r0 r1 r2 r3 f0 f1 f2 f3 o0 o1 o2 o3
      obtain ⟨⟨s0, s1, s2, s3⟩, -⟩ := four (show ((((wr.setCell ⟨w.heap.size + 1, 0, none⟩ (.int .u16 s)).setCell ⟨w.heap.size + 1, 1, none⟩ (.int .u16 d)).setCell ⟨w.heap.size + 1, 2, none⟩ (.int .u32 g)).setCell ⟨w.heap.size + 1, 3, none⟩ (.slice A2 n3 c2)).heap[w.heap.size + 1]? = some (.cells #[.int .u16 s, .int .u16 d, .int .u32 g, .slice A2 n3 c2] 38 (0, 0)) from set_blk3 (set_blk3 (set_blk3 (set_blk3 hI.out.res 0 _) 1 _) 2 _) 3 _)
      exact bodyPost_ret (v := .agg #[.int .u16 s, .int .u16 d, .int .u32 g, .slice A2 n3 c2]) (by simp [results, Tryz.results41, go_sem, s0, s1, s2, s3]) rfl ⟨_, rfl, Kd.R_lower (RC_far (RC_far (RC_far (RC_far hI.out.row (by omega)) (by omega)) (by omega)) (by omega)) (by omega), set4_below hI.out.bel (by omega)⟩
/-- A packet in a row that is read. -/
theorem pk_at {w : World} {A : Option Addr} {n : Nat} {ps : List Pk} (h : kP.C w A n ps) (i : Nat) (hi : i < ps.length) :
    ∃ b off A3 c3, A = some ⟨b, off, none⟩ ∧ w.cell? ⟨b, off + i * 4, none⟩ = some (.int .u16 (ps[i]).f0.f0) ∧ w.cell? ⟨b, off + i * 4 + 1, none⟩ = some (.int .u16 (ps[i]).f0.f1) ∧ w.cell? ⟨b, off + i * 4 + 2, none⟩ = some (.int .u32 (ps[i]).f0.f2) ∧ w.cell? ⟨b, off + i * 4 + 3, none⟩ = some (.slice A3 (ps[i]).f1.length c3) ∧ (ps[i]).f1.length ≤ c3 ∧ CsC w A3 (ps[i]).f1.length (ps[i]).f1 := by
  have hn : 0 < n := by have := h.1; omega
  obtain ⟨ad, rfl, hc⟩ := h.2.2 hn
  obtain ⟨c, -, hk, hcell⟩ := hc i _ (List.getElem?_eq_getElem hi)
  obtain ⟨A3, c3, rfl, l3, g3⟩ := k38_open hk
  have hz : kP.sz = 4 := rfl
  rw [hz] at hcell
  have hs : ad.spot = none := by
    obtain ⟨c', -, hk', hcell'⟩ := hc 0 _ (List.getElem?_eq_getElem (by omega))
    obtain ⟨A3', c3', rfl, -⟩ := k38_open hk'
    have h0 := World.cell?_spot (hcell' 0 _ rfl)
    simpa [Addr.add] using h0
  obtain ⟨b, off, sp⟩ := ad
  simp only at hs
  subst hs
  have g := fun j u hu => by
    have := hcell j u hu
    rw [Go.WideShapes.add_plain] at this
    exact this
  exact ⟨b, off, A3, c3, rfl, g 0 _ rfl, g 1 _ rfl, g 2 _ rfl, g 3 _ rfl, l3, g3⟩
def lod (ps : List Pk) : Nat := (ps.map (fun p => 12 + psz p.f1)).sum
theorem lod_step (ps : List Pk) (i : Nat) (h : i < ps.length) : lod (ps.take (i + 1)) = lod (ps.take i) + (12 + psz (ps[i]).f1) := by
  unfold lod
  rw [List.take_succ_eq_append_getElem h]
  simp only [List.map_append, List.sum_append, List.map_cons, List.map_nil, List.sum_cons, List.sum_nil, Nat.add_zero]
theorem psz_all (l : List Ck) (h : OkS l) : psz l ≤ 1909007000 := by
  have := psz_take l h l.length
  rwa [List.take_length] at this
theorem lod_le (ps : List Pk) (h : ∀ p ∈ ps, OkS p.f1) : lod ps ≤ ps.length * 1909007012 := by
  induction ps with
  | nil => simp [lod]
  | cons a l ih =>
    have h1 := psz_all a.f1 (h a (by simp))
    have h3 := ih (fun x hx => h x (by simp [hx]))
    unfold lod at h3 ⊢
    rw [List.map_cons, List.sum_cons, List.length_cons]
    omega
set_option maxRecDepth 100000 in
set_option maxHeartbeats 2000000 in
/-- 'bundle.Load'. -/
theorem load_any (ps : List Pk) (A : Option Addr) (n c : Nat) (w : World) (hn : ps.length = n) (hC : kP.C w A n ps) (hl : n ≤ 1000) (hok : ∀ p ∈ ps, OkS p.f1) : Calls Tryz.prog 22 #[.slice A n c] w (IsPost (.int .i64 ((lod ps : Nat) : Int)) w) := by
  have HN := hid hn
  have HC := hid hC
  have HOK := hid hok
  have HL := hid hl
  have HI0 := hid (Below.refl w.heap.size w)
  clear hn hC hok hl
  go_enter Tryz.func22, Tryz.ntmps22
  go_wp2_with fail
  go_loopw [3, 8] (fun v vi W => ∃ (i s : Nat), vi = .int .i64 i ∧ v = .int .i64 s ∧ i ≤ n ∧ Hid (s = lod (ps.take i)) ∧ Hid (Below w.heap.size w W)) (fun _ vi _ => n - (intOf vi).toNat)
  case atStart => exact ⟨0, 0, rfl, rfl, by omega, hid rfl, HI0⟩
  case round =>
    obtain ⟨i, s, rfl, rfl, hi, hs, hI⟩ := hrel
    clear HI0
    by_cases hlt : i < n
    · have hil : i < ps.length := by have := HN.out; omega
      obtain ⟨b, off, A3, c3, rfl, k0, k1, k2, k3, l3, g3⟩ := pk_at (Kd.C_below HC.out hI.out) i hil
      have hst := lod_step ps i hil
      have hxo := HOK.out _ (List.getElem_mem hil)
      have hb1 := lod_le (ps.take i) (fun p hp => HOK.out p (List.mem_of_mem_take hp))
      have hb3 : (ps.take i).length ≤ 1000 := by rw [List.length_take]; have := HL.out; omega
      have hb2 := psz_all _ hxo
      obtain ⟨p, hp⟩ : ∃ p, ps[i] = p := ⟨_, rfl⟩
      rw [hp] at k0 k1 k2 k3 l3 g3 hst hxo hb2
      obtain ⟨m3, hm3⟩ : ∃ m, p.f1.length = m := ⟨_, rfl⟩
      rw [hm3] at k3 l3 g3
      have hsz := fun W (hW : Below wr.heap.size wr W) => psize_any A3 m3 c3 p.f1 W hm3 (Kd.C_below g3 hW) hxo
      obtain ⟨z, hz⟩ : ∃ z, 12 + psz p.f1 = z := ⟨_, rfl⟩
      rw [hz] at hsz hst
      have HWU := hid (show wrap64 ((s : Int) + (z : Int)) = ((s + z : Nat) : Int) by have := hs.out; unfold wrap64; omega)
      have HWI := hid (show wrap64 ((i : Int) + 1) = ((i + 1 : Nat) : Int) by have := HL.out; unfold wrap64; omega)
      have HS2 := hid (show s + z = lod (ps.take (i + 1)) by rw [hst, ← hs.out])
      have hcs := hsz (wr.alloc (.cells #[.int .u16 p.f0.f0, .int .u16 p.f0.f1, .int .u32 p.f0.f2, .slice A3 m3 c3] 38)) (below_alloc (Below.refl _ _) _)
      clear hp hxo hb1 hb2 hb3 hm3 hz hst hsz g3 l3 hil
      go_wp2_with fail
      refine hcs.mono ?_
      rintro e W6 ⟨rfl, hb6⟩
      have HB6 := hid (show Below wr.heap.size wr W6 from cthen (below_alloc (Below.refl _ _) _) hb6)
      clear hb6 hcs k0 k1 k2 k3
      go_wp2_with fail
      exact ⟨⟨i + 1, s + z, by rw [HWI.out], by rw [HWU.out], hlt, HS2, hid (cthen hI.out HB6.out)⟩, by rw [HWI.out]; simp only [intOf, Int.toNat_natCast]; omega⟩
    · obtain rfl : n = i := by omega
      have htl : ps.take n = ps := by rw [← HN.out, List.take_length]
      rw [htl] at hs
      go_wp2_with fail
      go_ret
      exact ⟨by rw [hs.out]; rfl, hI.out⟩
def joi (ps : List Pk) : List Ck := ps.flatMap (fun p => p.f1)
theorem joi_step (ps : List Pk) (i : Nat) (h : i < ps.length) : joi (ps.take (i + 1)) = joi (ps.take i) ++ (ps[i]).f1 := by
  unfold joi
  rw [List.take_succ_eq_append_getElem h, List.flatMap_append]
  simp
theorem joi_le (ps : List Pk) (h : ∀ p ∈ ps, p.f1.length ≤ 1000) : (joi ps).length ≤ ps.length * 1000 := by
  induction ps with
  | nil => simp [joi]
  | cons a l ih =>
    have h1 := h a (by simp)
    have h3 := ih (fun x hx => h x (by simp [hx]))
    unfold joi at h3 ⊢
    rw [List.flatMap_cons, List.length_append, List.length_cons]
    omega
theorem field_pch (a b c : Int) (A : Option Addr) (n m : Nat) (w : World) : (Instr.field 38 (.agg #[.int .u16 a, .int .u16 b, .int .u32 c, .slice A n m]) 1).run Tryz.prog w = .ok (.slice A n m) w := by kernel_rfl
/-- What 'bundle.Join' gives. -/
def JnP (l : List Ck) (w : World) (e : Ending) (w' : World) : Prop := ∃ v, e = .returned v ∧ kC.R 42 w' w.heap.size (fun _ => True) v l ∧ Below w.heap.size w w'
set_option maxRecDepth 100000 in
set_option maxHeartbeats 4000000 in
/-- 'bundle.Join'. -/
theorem join_any (ps : List Pk) (A : Option Addr) (n c : Nat) (w : World) (hn : ps.length = n) (hC : kP.C w A n ps) (hl : n ≤ 1000) (hok : ∀ p ∈ ps, p.f1.length ≤ 1000 ∧ ∀ x ∈ p.f1, CkOk x) : Calls Tryz.prog 23 #[.slice A n c] w (JnP (joi ps) w) := by
  have HN := hid hn
  have HC := hid hC
  have HOK := hid hok
  have HL := hid hl
  have HI0 := hid (Below.refl w.heap.size w)
  have HR0 := hid (show kC.R 42 w w.heap.size (fun _ => True) (.slice none 0 0) (joi (ps.take 0)) from Kd.R_nil _ _ _ _ _)
  clear hn hC hok hl
  go_enter Tryz.func23, Tryz.ntmps23
  go_wp2_with fail
  go_loopw [3, 8] (fun v vi W => ∃ (i : Nat), vi = .int .i64 i ∧ i ≤ n ∧ Hid (kC.R 42 W w.heap.size (fun _ => True) v (joi (ps.take i))) ∧ Hid (Below w.heap.size w W)) (fun _ vi _ => n - (intOf vi).toNat)
  case atStart => exact ⟨0, rfl, by omega, HR0, HI0⟩
  case round =>
    obtain ⟨i, rfl, hi, hR, hI⟩ := hrel
    clear HI0 HR0
    by_cases hlt : i < n
    · have hil : i < ps.length := by have := HN.out; omega
      obtain ⟨b, off, A3, c3, rfl, k0, k1, k2, k3, l3, g3⟩ := pk_at (Kd.C_below HC.out hI.out) i hil
      have hst := joi_step ps i hil
      have hxo := HOK.out _ (List.getElem_mem hil)
      have hb1 := joi_le (ps.take i) (fun p hp => (HOK.out p (List.mem_of_mem_take hp)).1)
      have hb3 : (ps.take i).length ≤ 1000 := by rw [List.length_take]; have := HL.out; omega
      obtain ⟨p, hp⟩ : ∃ p, ps[i] = p := ⟨_, rfl⟩
      rw [hp] at k0 k1 k2 k3 l3 g3 hst hxo
      obtain ⟨m3, hm3⟩ : ∃ m, p.f1.length = m := ⟨_, rfl⟩
      rw [hm3] at k3 l3 g3
      have hcl := pclone_any p.f0.f0 p.f0.f1 p.f0.f2 p.f1 A3 m3 c3 (wr.alloc (.cells #[.int .u16 p.f0.f0, .int .u16 p.f0.f1, .int .u32 p.f0.f2, .slice A3 m3 c3] 38)) hm3 (Kd.C_below g3 (below_alloc (Below.refl _ _) _)) l3 (by have := hxo.1; omega) hxo.2
      obtain ⟨J, hJ⟩ : ∃ J, joi (ps.take i) = J := ⟨_, rfl⟩
      rw [hJ] at hst hb1 hR
      obtain ⟨Av, cv, rfl, -, -⟩ := Kd.R_reads hR.out
      have HWI := hid (show wrap64 ((i : Int) + 1) = ((i + 1 : Nat) : Int) by have := HL.out; unfold wrap64; omega)
      have HST := hid hst
      have HM3 := hid hm3
      have HJL := hid (show J.length + m3 ≤ 2000000 by have := hxo.1; omega)
      clear hp hxo hb1 hb3 hm3 hst g3 l3 hil hJ
      obtain ⟨nj, hnj⟩ : ∃ nj, J.length = nj := ⟨_, rfl⟩
      rw [hnj] at hR HJL
      rw [hnj]
      have HNJ := hid hnj
      clear hnj
      go_wp2_with fail
      refine hcl.mono ?_
      rintro e W6 ⟨v, rfl, hr6, hb6⟩
      rw [World.size_alloc] at hr6
      obtain ⟨A6, c6, rfl, l6, -⟩ := Kd.R_reads hr6
      have hrd : ReadsRow (kC.M W6 w.heap.size (fun k => wr.heap.size ≤ k)) kC.sz W6 A6 m3 p.f1 := by
        obtain ⟨A7, c7, e7, l7, r7⟩ := OwnRow.reads ((Kd.R_bound hr6).2)
        injection e7 with e7 _ _
        subst e7
        rw [← HM3.out]
        exact r7.imp_ (Below.refl _ _) (fun _ _ hp => kC.M_lower (Nat.le_trans hI.out.size (Nat.le_succ _)) (kC.M_mono (fun k hk => by have := hk.1.2.1; show wr.heap.size ≤ k; omega) hp))
      have HB6 := hid (show Below wr.heap.size wr W6 from cthen (below_alloc (Below.refl _ _) _) hb6)
      have HRD := hid hrd
      have HR6 := hid (Kd.R_below hR.out HB6.out)
      have HOB := hid (show ∀ k, wr.heap.size ≤ k → True ∧ some k ≠ (Value.slice Av nj cv).ownBlock from fun k hk => ⟨trivial, fun he => by have h := (Kd.R_bound hR.out).1 k he.symm; have := h.2.2.1; omega⟩)
      have HBZ := hid (show w.heap.size ≤ W6.heap.size from Nat.le_trans hI.out.size HB6.out.size)
      have hfp := field_pch
      rw [HM3.out]
      clear hb6 hcl k0 k1 k2 k3 hrd hr6 l6
      go_wp2_with (at_builtin; go_loud (refine Kd.R_append_rows kC (w0 := W6) (W := W6) w.heap.size rfl _ _ 26 42 _ 56 rfl Tryz.underlying26 infoC rfl (by decide) (by decide) (.slice Av nj cv) J p.f1 A6 m3 c6 (fun _ => True) (fun k => wr.heap.size ≤ k) rfl rfl HR6.out HRD.out (fun _ _ h => h) HOB.out (fun _ _ => trivial) (Below.refl _ _) HBZ.out (by rw [HNJ.out]; have := HJL.out; omega) ?_); intro v9 w9 hR9 hB9 hG9 hA9; have HR9 := hid hR9; have HB9 := hid hB9; clear hR9 hB9 hG9 hA9)
      have hR9 := HR9.out
      rw [← HST.out] at hR9
      exact ⟨⟨i + 1, by rw [HWI.out], hlt, hid hR9, hid ((cthen hI.out HB6.out).trans HB9.out)⟩, by rw [HWI.out]; simp only [intOf, Int.toNat_natCast]; omega⟩
    · obtain rfl : n = i := by omega
      have htl : ps.take n = ps := by rw [← HN.out, List.take_length]
      rw [htl] at hR
      go_wp2_with fail
      go_ret
      exact ⟨_, rfl, hR.out, hI.out⟩
end Bn
end Go.Proofs.YtmfmomfhiieilaaGreatDoor
/- 'awake' answers true. -/
set_option linter.unusedVariables false
set_option linter.unusedSimpArgs false
namespace Go.Proofs.YtmfmomfhiieilaaGreatDoor
open Go.RowKit Go.Shelf Go.Proofs.YtmfmomfhiieilaaGreatDoor.It Go.Proofs.YtmfmomfhiieilaaGreatDoorW.PrintWords Go.Proofs.YtmfmomfhiieilaaGreatDoorW.PrintLast Go.Proofs.YtmfmomfhiieilaaGreatDoorW.PrintMore
namespace Bn
open PBundleSorted
def zer : List Int := List.replicate 26 0
def cA : Ck := ⟨132, 0, zer, []⟩
theorem cA_csz : csz cA = 30 := by
  unfold csz cA
  rw [show nszs ([] : List Nd) = [] by rw [nszs.eq_def]]
  rfl
theorem cA_up : up 30 = 32 := by decide
theorem cA_fit : fitC 64 cA = true := by unfold fitC; rw [cA_csz, cA_up]; decide
theorem cA_room : roomC 64 [cA] cA = false := by
  have h : psz ([cA] ++ [cA]) = 64 := by
    show up (csz cA) + (up (csz cA) + 0) = 64
    rw [cA_csz, cA_up]
  unfold roomC
  rw [h, Bool.and_eq_false_iff]
  exact .inr (by decide)
theorem cA_outs : outsC 64 [cA, cA] = [[cA], [cA]] := by
  unfold outsC Pkg.packs
  rw [List.foldl_cons, List.foldl_cons, List.foldl_nil, Pkg.stp_nil _ _ _ cA_fit]
  have h := Pkg.stp_app (fitC 64) (roomC 64) [] [cA] cA cA_fit
  rw [List.nil_append, cA_room] at h
  simpa using h
theorem cA_rej : rejC 64 [cA, cA] = [] := by unfold rejC; simp [cA_fit]
theorem cA_ok : CkOk cA := by
  refine ⟨by decide, by decide, by decide, by decide, ?_, ?_, by decide, ?_⟩
  · intro x hx
    have : x = 0 := List.eq_of_mem_replicate hx
    omega
  · show okL []
    rw [okL]; trivial
  · show cnts [] ≤ 900
    rw [cnts]; omega
theorem cA_code : cCode cA = 0 := by
  show pCk 132 0 zer [] = 0
  have h : headE 132 0 zer [] = none := by
    unfold headE
    decide
  rw [pCk_fin (C := (iR (kOf 132).kids).1) h rfl rfl, show nszs ([] : List Nd) = [] by rw [nszs.eq_def]]
  decide
theorem cA_err : ofErr 64 [cA, cA] = none := by
  unfold ofErr
  rw [if_neg (by decide), if_neg (by decide), fstBad, if_pos cA_code, fstBad, if_pos cA_code, fstBad]
theorem kn_nil (w : World) : Kd.C k87 w none 0 [] := ⟨rfl, by decide, fun h => absurd h (by decide)⟩
theorem cs_nil (w : World) : CsC w none 0 [] := ⟨rfl, by decide, fun h => absurd h (by decide)⟩
theorem zer_bc {w w2 : World} (h : w2.ownsRow w.heap.size 5 1 (.slice (some ⟨w.heap.size, 0, none⟩) 26 26) 26 (madeCells (Value.int .u8 0).cells (26 * 1)).toList) : BC w2 (some ⟨w.heap.size, 0, none⟩) zer := by
  have e : (madeCells (Value.int .u8 0).cells (26 * 1)).toList = encs (Value.int .u8) zer := by
    show (madeCells #[Value.int .u8 0] 26).toList = zer.map (Value.int .u8)
    rw [toList_madeCells_one]
    unfold zer
    rw [List.map_replicate]
  rw [e] at h
  obtain ⟨A, c, e1, -, r⟩ := Kd.R_reads (Kd.R_of_own (h1 := fun _ => rfl) (ok := fun _ => True) (xs := zer) h (fun _ _ => trivial))
  injection e1 with e1 _ _
  subst e1
  exact r
theorem cA_two {W : World} {b z : Nat} (hb : W.heap[b]? = some (.cells #[.int .u8 132, .int .u8 0, .slice (some ⟨z, 0, none⟩) 26 26, .slice none 0 0, .int .u8 132, .int .u8 0, .slice (some ⟨z, 0, none⟩) 26 26, .slice none 0 0] 42 (0, 0))) (h1 : BC W (some ⟨z, 0, none⟩) zer) : CsC W (some ⟨b, 0, none⟩) 2 [cA, cA] := by
  have hk : kC.K W cA [.int .u8 132, .int .u8 0, .slice (some ⟨z, 0, none⟩) 26 26, .slice none 0 0] := k42_mk W cA (A2 := some ⟨z, 0, none⟩) (c2 := 26) (A3 := none) (c3 := 0) (by decide) h1 (by decide) (kn_nil W)
  refine ⟨rfl, by decide, fun _ => ⟨_, rfl, fun j p hj => ?_⟩⟩
  match j, hj with
  | 0, hj =>
    simp at hj
    subst hj
    refine ⟨_, rfl, hk, fun t u hu => ?_⟩
    rw [Go.WideShapes.add_plain]
    match t, hu with
    | 0, hu => simp at hu; subst hu; exact (blk_cell hb 0).trans rfl
    | 1, hu => simp at hu; subst hu; exact (blk_cell hb 1).trans rfl
    | 2, hu => simp at hu; subst hu; exact (blk_cell hb 2).trans rfl
    | 3, hu => simp at hu; subst hu; exact (blk_cell hb 3).trans rfl
    | t + 4, hu => simp at hu
  | 1, hj =>
    simp at hj
    subst hj
    refine ⟨_, rfl, hk, fun t u hu => ?_⟩
    rw [Go.WideShapes.add_plain]
    match t, hu with
    | 0, hu => simp at hu; subst hu; exact (blk_cell hb 4).trans rfl
    | 1, hu => simp at hu; subst hu; exact (blk_cell hb 5).trans rfl
    | 2, hu => simp at hu; subst hu; exact (blk_cell hb 6).trans rfl
    | 3, hu => simp at hu; subst hu; exact (blk_cell hb 7).trans rfl
    | t + 4, hu => simp at hu
  | j + 2, hj => simp at hj
theorem cA_lod : lod ([[cA], [cA]].map (mkP 1 0 0)) = 88 := by
  show (12 + (up (csz cA) + 0)) + ((12 + (up (csz cA) + 0)) + 0) = 88
  rw [cA_csz, cA_up]
theorem cA_joi : joi ([[cA], [cA]].map (mkP 1 0 0)) = [cA, cA] := rfl
theorem err63 : ofErr 63 [] = some (11, none) := by unfold ofErr; rw [if_pos (by decide)]
set_option maxRecDepth 100000 in
set_option maxHeartbeats 4000000 in
theorem bawake_any (w : World) (hg : GTab w) (hgl : GLg w) : Calls Tryz.prog 7 #[] w (IsPost (.bool true) w) := by
  have HG := hid hg
  have HGL := hid hgl
  clear hg hgl
  obtain ⟨i0, hi, hz0, hz1, hz2⟩ := info_parts infoB
  have HI := hid hi
  have HZ0 := hid hz0
  have HZ1 := hid hz1
  have HZ2 := hid hz2
  clear hi hz0 hz1 hz2
  go_enter Tryz.func7, Tryz.ntmps7
  go_wp2_with (at_make; go_loud (refine wpList_make_full _ rfl _ _ 39 rfl w.heap.size 5 i0 (.int .u8 0) 1 Tryz.underlying39 HI.out HZ0.out HZ1.out _ _ _ _ 26 rfl rfl rfl rfl (by rw [HZ2.out]; decide) (by decide) (Nat.le_refl _) ?_); intro w2 hown hgr; have HOWN := hid hown; have HGR := hid hgr; clear hown hgr)
  have hb2 : Below w.heap.size w w2 := grownN_below HGR.out
  have hz2 := zer_bc HOWN.out
  obtain ⟨W3, hW3⟩ : ∃ W3, w2.alloc (.cells #[.int .u8 132, .int .u8 0, .slice (some ⟨w.heap.size, 0, none⟩) 26 26, .slice none 0 0] 42) = W3 := ⟨_, rfl⟩
  have hb3 : Below w2.heap.size w2 W3 := by rw [← hW3]; exact below_alloc (Below.refl _ _) _
  have hx3 : W3.heap[w2.heap.size]? = some (.cells #[.int .u8 132, .int .u8 0, .slice (some ⟨w.heap.size, 0, none⟩) 26 26, .slice none 0 0] 42 (0, 0)) := by rw [← hW3]; exact blk_new w2 _
  have hs3 : W3.heap.size = w2.heap.size + 1 := by rw [← hW3, World.size_alloc]
  rw [hW3]
  obtain ⟨W4, hW4⟩ : ∃ W4, W3.alloc (.cells #[.int .u8 132, .int .u8 0, .slice (some ⟨w.heap.size, 0, none⟩) 26 26, .slice none 0 0, .int .u8 132, .int .u8 0, .slice (some ⟨w.heap.size, 0, none⟩) 26 26, .slice none 0 0] 42) = W4 := ⟨_, rfl⟩
  have hb4 : Below W3.heap.size W3 W4 := by rw [← hW4]; exact below_alloc (Below.refl _ _) _
  have hx4 : W4.heap[w2.heap.size + 1]? = some (.cells #[.int .u8 132, .int .u8 0, .slice (some ⟨w.heap.size, 0, none⟩) 26 26, .slice none 0 0, .int .u8 132, .int .u8 0, .slice (some ⟨w.heap.size, 0, none⟩) 26 26, .slice none 0 0] 42 (0, 0)) := by rw [← hW4, ← hs3]; exact blk_new W3 _
  rw [hW4]
  have hB4 : Below w.heap.size w W4 := cthen (cthen hb2 hb3) hb4
  have hz4 : BC W4 (some ⟨w.heap.size, 0, none⟩) zer := (hz2.below hb3).below hb4
  have hof := of_any 1 0 0 64 [cA, cA] (some ⟨w2.heap.size + 1, 0, none⟩) 2 2 W4 (HG.out.below hB4) (HGL.out.below hB4) rfl (cA_two hx4 hz4) (Nat.le_refl _) (by decide) (fun x hx => by simp at hx; subst hx; exact cA_ok)
  have HB4 := hid hB4
  have HZ4 := hid hz4
  have HX4 := hid (blk_below hx3 hb4)
  clear hb2 hz2 hb3 hx3 hs3 hW3 hW4 hb4 hx4 hB4 hz4 HOWN HGR HI HZ0 HZ1 HZ2
  refine hof.mono ?_
  rintro e W5 ⟨-, hno, hb5⟩
  obtain ⟨A1, c1, A2, c2, rfl, l1, r1, l2, -⟩ := hno cA_err
  have e1 : (outsC 64 [cA, cA]).length = 2 := by rw [cA_outs]; rfl
  have e2 : (rejC 64 [cA, cA]).length = 0 := by rw [cA_rej]; rfl
  rw [cA_outs] at r1
  rw [e1] at l1
  rw [e1, e2]
  have HR1 := hid (show kP.C W5 A1 2 ([[cA], [cA]].map (mkP 1 0 0)) from r1)
  have HB5 := hid (cthen HB4.out hb5)
  have HB45 := hid hb5
  have hof2 := of_any 0 0 0 63 [] none 0 0 W5 (HG.out.below HB5.out) (HGL.out.below HB5.out) rfl (cs_nil W5) (Nat.le_refl _) (by decide) (fun x hx => by simp at hx)
  clear e1 e2 hno l1 r1 l2 hb5 hof
  go_wp2_with fail
  refine hof2.mono ?_
  rintro e W6 ⟨hye, -, hb6⟩
  obtain rfl := hye _ err63
  have HB6 := hid (cthen HB5.out hb6)
  have HB46 := hid (cthen HB45.out hb6)
  have HR6 := hid (Kd.C_below HR1.out hb6)
  clear hye hb6 hof2
  rw [show eV (some (11, none)) = .iface 54 (.int .i64 11) from rfl]
  have hft := fits_any 64 cA (some ⟨w.heap.size, 0, none⟩) none 26 26 0 0 W6 rfl rfl (HZ4.out.below HB46.out) (by decide) (kn_nil W6) (by decide) ⟨by decide, by show cnts [] ≤ 900; rw [cnts]; omega⟩
  rw [fits_eq, cA_fit] at hft
  unfold ckV at hft
  obtain ⟨⟨y0, y1, y2, y3⟩, -⟩ := four (blk_below HX4.out HB46.out)
  have heq : ∀ W, (binOp BinOp.eql 31 (Value.iface 54 (Value.int IntKind.i64 11)) (Value.iface 54 (Value.int IntKind.i64 11))).run Tryz.prog W = .ok (.bool true) W := fun W => by kernel_rfl
  go_wp2_with fail
  clear heq
  refine Calls.mono hft ?_
  rintro e W7 ⟨rfl, hb7⟩
  have HB7 := hid (cthen HB6.out hb7)
  have HR7 := hid (Kd.C_below HR6.out hb7)
  clear y0 y1 y2 y3 hb7 hft
  go_wp2_with fail
  have hld := load_any _ A1 2 c1 W7 rfl HR7.out (by decide) (by intro p hp; simp at hp; subst hp; exact ⟨by decide, fun x hx => by simp [mkP] at hx; subst hx; exact ⟨cA_ok.len, cA_ok.cnt⟩⟩)
  rw [cA_lod] at hld
  refine hld.mono ?_
  rintro e W8 ⟨rfl, hb8⟩
  have HB8 := hid (cthen HB7.out hb8)
  have HR8 := hid (Kd.C_below HR7.out hb8)
  clear hb8 hld
  go_wp2_with fail
  have hjn := join_any _ A1 2 c1 W8 rfl HR8.out (by decide) (by intro p hp; simp at hp; subst hp; exact ⟨by decide, fun x hx => by simp [mkP] at hx; subst hx; exact cA_ok⟩)
  rw [cA_joi] at hjn
  refine hjn.mono ?_
  rintro e W9 ⟨v9, rfl, hr9, hb9⟩
  obtain ⟨A9, c9, rfl, -, -⟩ := Kd.R_reads hr9
  have HB9 := hid (cthen HB8.out hb9)
  clear hb9 hjn hr9
  go_wp2_with fail
  go_ret
  exact ⟨rfl, HB9.out⟩
end Bn
end Go.Proofs.YtmfmomfhiieilaaGreatDoor
