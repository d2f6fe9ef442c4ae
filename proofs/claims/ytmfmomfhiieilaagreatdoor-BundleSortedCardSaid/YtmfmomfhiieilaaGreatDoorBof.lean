/- An append to a slice that is only read and full: a new row. -/
import Derived.Test.YtmfmomfhiieilaaGreatDoorBps
import Derived.Test.YtmfmomfhiieilaaGreatDoorBcc
import Derived.Test.YtmfmomfhiieilaaGreatDoorBlm
import Derived.Test.YtmfmomfhiieilaaGreatDoorBch
import Derived.Test.YtmfmomfhiieilaaGreatDoorBft
set_option linter.unusedVariables false
set_option linter.unusedSimpArgs false
namespace Go.Proofs.YtmfmomfhiieilaaGreatDoor
open Go.RowKit Go.Shelf Go.Proofs.YtmfmomfhiieilaaGreatDoor.It Go.Proofs.YtmfmomfhiieilaaGreatDoorW.PrintWords Go.Proofs.YtmfmomfhiieilaaGreatDoorW.PrintLast Go.Proofs.YtmfmomfhiieilaaGreatDoorW.PrintMore
namespace Bn
open PBundleSorted
theorem grownN_below {W w1 : World} (hg : W.grownBy w1 none) : Below W.heap.size W w1 := ⟨hg.os, hg.tape, hg.output, hg.size, fun k hk => hg.block k hk (by simp)⟩
/-- The append, run. -/
theorem run_clip {α : Type} (dd : Kd α) {P : Program} {W : World} (t ty e : TypeId) (z : Value) (bytes : Nat)
    (ht : P.underlying t = some (.slice e)) (hinfo : (P.info? e).map (fun i => (i.zero, i.size, i.bytes)) = some (some z, dd.sz, bytes)) (hz : z.cells.size = dd.sz) (hs0 : 0 < dd.sz) (hb0 : 0 < bytes)
    (A : Option Addr) (n : Nat) (xs : List α) (p : α) (cs : List Value) (hC : dd.C W A n xs) (hp : dd.K W p cs) (hA : A = none → n = 0) (hl : (n + 1) * bytes ≤ 140737488355328) :
    ∃ A' c' w1, (Builtin.append_ #[t, t] ty #[.slice A n n, .slice (some ⟨W.heap.size, 0, none⟩) 1 1]).run P (W.alloc (.cells cs.toArray e)) = .ok (.slice A' (n + 1) c') w1 ∧ n + 1 ≤ c' ∧ dd.C w1 A' (n + 1) (xs ++ [p]) ∧ Below W.heap.size W w1 := by
  obtain ⟨i0, hi, hzz⟩ := Option.map_eq_some_iff.1 hinfo
  simp only [Prod.mk.injEq] at hzz
  obtain ⟨hz0, hz1, hz2⟩ := hzz
  have hys := dd.K_len hp
  have h1c := dd.K_one hp
  have hlen : n + 1 ≤ 140737488355328 := Nat.le_trans (Nat.le_mul_of_pos_right _ hb0) hl
  have hmx : n + 1 ≤ maxLen := by simp only [maxLen]; omega
  have hnews := by simpa using World.news_of_block (cs := cs.toArray) (t := e) (fr := (0, 0)) (heap_alloc_new W (.cells cs.toArray e))
  have hn := hC.1
  have hb : Below W.heap.size W (W.alloc (.cells cs.toArray e)) := below_alloc (Below.refl _ _) _
  have fin : ∀ {v' : Value} {w' : World} {olds : List Value} {b0 : Nat}, Reps (dd.K W) dd.sz xs olds → w'.ownsRow b0 e dd.sz v' (n + 1) (olds ++ cs) → (W.alloc (.cells cs.toArray e)).grownBy w' none → ∃ A' c', v' = .slice A' (n + 1) c' ∧ n + 1 ≤ c' ∧ dd.C w' A' (n + 1) (xs ++ [p]) ∧ Below W.heap.size W w' := by
    intro v' w' olds b0 hr hown hg
    have hbw : Below W.heap.size W w' := cthen hb (grownN_below hg)
    have hr2 : Reps (dd.K w') dd.sz (xs ++ [p]) (olds ++ cs) := (hr.snoc hp hys).imp_ (fun _ _ h => dd.K_below hbw h)
    have hl2 : (xs ++ [p]).length = n + 1 := by rw [List.length_append, hn]; rfl
    have ho : OwnRow (dd.K w') e dd.sz w' b0 v' (xs ++ [p]) := ⟨_, by rw [hl2]; exact hown, hr2⟩
    obtain ⟨A', c', e1, l1, r1⟩ := OwnRow.reads ho
    rw [hl2] at e1 l1 r1
    exact ⟨A', c', e1, l1, r1, hbw⟩
  cases A with
  | none =>
    obtain rfl := hA rfl
    obtain rfl : xs = [] := List.eq_nil_of_length_eq_zero hn
    obtain ⟨v', w', hrun, r1, r2, _⟩ := run_append_own (P := P) (W.alloc (.cells cs.toArray e)) (W.alloc (.cells cs.toArray e)).heap.size t ty e i0 z dd.sz bytes ht hi hz0 hz1 hz2 hz hs0 (.slice none 0 0) 0 [] (World.ownsRow_nil _ _ e dd.sz) ⟨W.heap.size, 0, none⟩ 1 1 cs (by rw [hys]; simp) hnews h1c hmx hl (Nat.le_refl _)
    obtain ⟨A', c', rfl, q1, q2, q3⟩ := fin (olds := []) (Reps.none _ _) r1 (by simpa [Value.ownBlock] using r2)
    exact ⟨A', c', w', hrun, q1, q2, q3⟩
  | some b =>
    obtain ⟨olds, hr, hcell⟩ := ReadsRow.inner_ hC
    have hol : olds.length = n * dd.sz := by rw [hr.1, hn]
    obtain ⟨v', w', hrun, r1, r2⟩ := run_append_arg_grows (P := P) (W.alloc (.cells cs.toArray e)) t ty e i0 z dd.sz bytes ht hi hz0 hz1 hz2 hz hs0 b n n olds hol (fun j u hu => pw_cell_below hb (hcell j u hu)) ⟨W.heap.size, 0, none⟩ 1 1 cs (by rw [hys]; simp) hnews (by omega) hmx hl
    obtain ⟨A', c', rfl, q1, q2, q3⟩ := fin hr r1 r2
    exact ⟨A', c', w', hrun, q1, q2, q3⟩
/-- As a step of a region that draws. -/
theorem step_clip {α : Type} (dd : Kd α) {P : Program} {ops : Array Oper} {o : Oper} {a : Act} {Q : Exit → Act → World → Prop} {K : Act → World → Prop} {W : World} (hw : Region.wanted o (yielded ops a.tmps) = true) (s x : Operand) (t e : TypeId) (z : Value) (bytes : Nat)
    (ho : o.op = .call { callee := .builtin .append, args := #[s, x], argTypes := #[t, t] })
    (ht : P.underlying t = some (.slice e)) (hinfo : (P.info? e).map (fun i => (i.zero, i.size, i.bytes)) = some (some z, dd.sz, bytes)) (hz : z.cells.size = dd.sz) (hs0 : 0 < dd.sz) (hb0 : 0 < bytes)
    (A : Option Addr) (n : Nat) (xs : List α) (p : α) (cs : List Value) (hs : a.eval s = .slice A n n) (hx : a.eval x = .slice (some ⟨W.heap.size, 0, none⟩) 1 1) (hC : dd.C W A n xs) (hp : dd.K W p cs) (hA : A = none → n = 0) (hl : (n + 1) * bytes ≤ 140737488355328)
    (h : ∀ A' c' w1, n + 1 ≤ c' → dd.C w1 A' (n + 1) (xs ++ [p]) → Below W.heap.size W w1 → K (a.put o.dst (.slice A' (n + 1) c')) w1) :
    if Region.wanted o (yielded ops a.tmps) = true then Oper.wp P o a (W.alloc (.cells cs.toArray e)) K Q else K (a.put o.dst undef) (W.alloc (.cells cs.toArray e)) := by
  rw [if_pos hw]
  obtain ⟨A', c', w1, hrun, q1, q2, q3⟩ := run_clip dd (P := P) (W := W) t o.type e z bytes ht hinfo hz hs0 hb0 A n xs p cs hC hp hA hl
  unfold Oper.wp execOp
  simp only [ho, resolve, invoke, builtin, Sem.run_bind, Sem.run_pure, Result.andThen_ok, List.map_toArray, List.map_cons, List.map_nil, hs, hx, hrun]
  exact h A' c' w1 q1 q2 q3
theorem infoC : (Tryz.prog.info? 42).map (fun i => (i.zero, i.size, i.bytes)) = some (some (.agg #[.int .u8 0, .int .u8 0, .slice none 0 0, .slice none 0 0]), 4, 56) := by kernel_rfl
theorem infoP : (Tryz.prog.info? 38).map (fun i => (i.zero, i.size, i.bytes)) = some (some (.agg #[.int .u16 0, .int .u16 0, .int .u32 0, .slice none 0 0]), 4, 32) := by kernel_rfl
end Bn
end Go.Proofs.YtmfmomfhiieilaaGreatDoor
/- The state of packing: the packets so far, the open one, and what is rejected, each in memory of its own. -/
set_option linter.unusedVariables false
set_option linter.unusedSimpArgs false
namespace Go.Proofs.YtmfmomfhiieilaaGreatDoor
open Go.RowKit Go.Shelf Go.Proofs.YtmfmomfhiieilaaGreatDoor.It Go.Proofs.YtmfmomfhiieilaaGreatDoorW.PrintWords Go.Proofs.YtmfmomfhiieilaaGreatDoorW.PrintLast Go.Proofs.YtmfmomfhiieilaaGreatDoorW.PrintMore
namespace Bn
open PBundleSorted
abbrev Pk := S38
abbrev kP : Kd Pk := k38
abbrev kC : Kd Ck := k42
/-- The tag of a packet that begins so. -/
def tg (g : Int) : List Ck → Int
  | [] => g
  | x :: _ => if x.f0 = 1 then 0 else g
def mkP (s d g : Int) (q : List Ck) : Pk := ⟨⟨s, d, tg g q⟩, q⟩
theorem tg_snoc (g : Int) (q : List Ck) (x : Ck) (h : q ≠ []) : tg g (q ++ [x]) = tg g q := by
  cases q with
  | nil => exact absurd rfl h
  | cons a q => rfl
def OfI (base : Nat) (s d g : Int) (vo vr : Value) (outs : List (List Ck)) (rej : List Ck) (W : World) : Prop :=
  ∃ (Pd Pl Pr : Nat → Prop) (inner : List Value),
    (∀ k, Pd k → k < W.heap.size ∧ ¬ Pl k ∧ ¬ Pr k) ∧ (∀ k, Pl k → k < W.heap.size ∧ ¬ Pr k) ∧ (∀ k, Pr k → k < W.heap.size) ∧
    W.ownsRow base 38 4 vo outs.length inner ∧
    (∀ j q, outs[j]? = some q → kP.M W base (if j + 1 = outs.length then Pl else Pd) (mkP s d g q) ((inner.drop (j * 4)).take 4)) ∧
    kC.R 42 W base Pr vr rej
theorem OfI.nil (base : Nat) (s d g : Int) (W : World) : OfI base s d g (.slice none 0 0) (.slice none 0 0) [] [] W :=
  ⟨fun _ => False, fun _ => False, fun _ => False, [], fun k h => h.elim, fun k h => h.elim, fun k h => h.elim, own_nil _ _ _ _, fun j q h => by simp at h, Kd.R_nil _ _ _ _ _⟩
variable {base : Nat} {s d g : Int} {vo vr : Value} {outs : List (List Ck)} {rej : List Ck} {W W1 : World}
theorem OfI.below (h : OfI base s d g vo vr outs rej W) (hb : Below W.heap.size W W1) : OfI base s d g vo vr outs rej W1 := by
  obtain ⟨Pd, Pl, Pr, inner, h1, h2, h3, h4, h5, h6⟩ := h
  have hz := hb.size
  exact ⟨Pd, Pl, Pr, inner, fun k hk => ⟨by have := (h1 k hk).1; omega, (h1 k hk).2⟩, fun k hk => ⟨by have := (h2 k hk).1; omega, (h2 k hk).2⟩, fun k hk => by have := h3 k hk; omega, pw_own_below h4 hb, fun j q hj => Kd.M_below (h5 j q hj) hb, Kd.R_below h6 hb⟩
theorem kP_E : ∀ q, q ∈ kP.E → q ≠ 38 := by decide
theorem kC_E : ∀ q, q ∈ 42 :: kC.E → q ≠ 38 := by decide
/-- A row of packets is no row of chunks. -/
theorem own_two {w : World} {b1 b2 n1 n2 s1 s2 : Nat} {v1 v2 : Value} {x1 x2 : List Value} {t1 t2 : TypeId} (h1 : w.ownsRow b1 t1 s1 v1 n1 x1) (h2 : w.ownsRow b2 t2 s2 v2 n2 x2) (ht : t1 ≠ t2) : v1.ownBlock = none ∨ v1.ownBlock ≠ v2.ownBlock := by
  cases e : v1.ownBlock with
  | none => exact .inl rfl
  | some k =>
    refine .inr (fun he => ?_)
    obtain ⟨c1, g1⟩ := own_typed h1 k e
    obtain ⟨c2, g2⟩ := own_typed h2 k he.symm
    rw [g1] at g2
    injection g2 with g2
    injection g2 with _ g2
    exact ht g2
theorem OfI.rej_ready (h : OfI base s d g vo vr outs rej W) (hb : Below W.heap.size W W1) :
    ∃ ok : Nat → Prop, kC.R 42 W1 base ok vr rej ∧ (∀ k, W.heap.size ≤ k → ok k ∧ some k ≠ vr.ownBlock) ∧ (∀ k, W1.heap.size ≤ k → ok k) ∧
      ∀ v1 w1 ys, kC.R 42 w1 base ok v1 ys → W1.grownBy w1 vr.ownBlock → OfI base s d g vo v1 outs ys w1 := by
  obtain ⟨Pd, Pl, Pr, inner, h1, h2, h3, h4, h5, h6⟩ := h
  have hz := hb.size
  refine ⟨fun k => Pr k ∨ W.heap.size ≤ k, Kd.R_mono (Kd.R_below h6 hb) (fun k hk => .inl hk), fun k hk => ⟨.inr hk, fun he => ?_⟩, fun k hk => .inr (by omega), fun v1 w1 ys hR hg => ?_⟩
  · have := h3 k (h6.1 k he.symm); omega
  · have hgz := hg.size
    obtain ⟨inn, hown⟩ := Kd.R_own (Kd.R_below h6 hb)
    refine ⟨Pd, Pl, fun k => (Pr k ∨ W.heap.size ≤ k) ∧ k < w1.heap.size, inner, fun k hk => ?_, fun k hk => ?_, fun k hk => hk.2, own_other (pw_own_below h4 hb) hg (own_two (pw_own_below h4 hb) hown (by decide)), fun j q hj => ?_, Kd.R_mono (Kd.R_bound hR) (fun k hk => ⟨hk.1, hk.2.2.1⟩)⟩
    · have := h1 k hk
      exact ⟨by omega, this.2.1, fun hh => by rcases hh.1 with hh | hh; exact this.2.2 hh; omega⟩
    · have := h2 k hk
      exact ⟨by omega, fun hh => by rcases hh.1 with hh | hh; exact this.2 hh; omega⟩
    · refine Kd.M_grown (Kd.M_below (h5 j q hj) hb) hg (fun k hk he => ?_)
      have hr := h6.1 k he.symm
      by_cases hj1 : j + 1 = outs.length
      · rw [if_pos hj1] at hk; exact (h2 k hk).2 hr
      · rw [if_neg hj1] at hk; exact (h1 k hk).2.2 hr
theorem take_set_far (l : List Value) (i j : Nat) (v : Value) (h : j + 4 ≤ i) : (((l.set i v).drop j).take 4) = ((l.drop j).take 4) := by
  apply List.ext_getElem?
  intro t
  simp only [List.getElem?_take, List.getElem?_drop, List.getElem?_set]
  by_cases ht : t < 4
  · rw [if_pos ht, if_pos ht, if_neg (by omega)]
  · rw [if_neg ht, if_neg ht]
theorem take_set_at (l : List Value) (j : Nat) (a b c u v : Value) (h : (l.drop j).take 4 = [a, b, c, u]) : ((l.set (j + 3) v).drop j).take 4 = [a, b, c, v] := by
  have hl : j + 4 ≤ l.length := by
    have := congrArg List.length h
    simp at this
    omega
  apply List.ext_getElem?
  intro t
  have g := fun t : Nat => congrArg (fun l : List Value => l[t]?) h
  simp only [List.getElem?_take, List.getElem?_drop] at g
  match t with
  | 0 => have := g 0; simp only [List.getElem?_take, List.getElem?_drop, List.getElem?_set] at this ⊢; simp at this ⊢; exact this
  | 1 => have := g 1; simp only [List.getElem?_take, List.getElem?_drop, List.getElem?_set] at this ⊢; simp at this ⊢; exact this
  | 2 => have := g 2; simp only [List.getElem?_take, List.getElem?_drop, List.getElem?_set] at this ⊢; simp at this ⊢; exact this
  | 3 => simp only [List.getElem?_take, List.getElem?_drop, List.getElem?_set]; simp; omega
  | t + 4 => simp; omega
theorem OfI.join_ready {ds : List (List Ck)} {q : List Ck} (h : OfI base s d g vo vr (ds ++ [q]) rej W) (hb : Below W.heap.size W W1) :
    ∃ (ok : Nat → Prop) (b cap : Nat) (vl : Value), vo = .slice (some ⟨b, 0, none⟩) (ds.length + 1) cap ∧ W1.cell? ⟨b, ds.length * 4, none⟩ = some (.int .u16 s) ∧ W1.cell? ⟨b, ds.length * 4 + 1, none⟩ = some (.int .u16 d) ∧ W1.cell? ⟨b, ds.length * 4 + 2, none⟩ = some (.int .u32 (tg g q)) ∧ W1.cell? ⟨b, ds.length * 4 + 3, none⟩ = some vl ∧
      kC.R 42 W1 base ok vl q ∧ (∀ k, W.heap.size ≤ k → ok k ∧ some k ≠ vl.ownBlock) ∧ (∀ k, W1.heap.size ≤ k → ok k) ∧ base ≤ b ∧ b < W.heap.size ∧
      ∀ v1 w1 q', kC.R 42 w1 base ok v1 q' → W1.grownBy w1 vl.ownBlock → tg g q' = tg g q →
        w1.cell? ⟨b, ds.length * 4 + 3, none⟩ = some vl ∧ w1.frozen? ⟨b, ds.length * 4 + 3, none⟩ = false ∧ OfI base s d g vo vr (ds ++ [q']) rej (w1.setCell ⟨b, ds.length * 4 + 3, none⟩ v1) := by
  obtain ⟨Pd, Pl, Pr, inner, h1, h2, h3, h4, h5, h6⟩ := h
  have hz := hb.size
  have hlen : (ds ++ [q]).length = ds.length + 1 := by simp
  rw [hlen] at h4 h5
  have h4' := pw_own_below h4 hb
  have hM := Kd.M_below (h5 ds.length q (by simp)) hb
  rw [if_pos rfl] at hM
  obtain ⟨vl, hcs, hR⟩ := k38_openM hM
  have hR : kC.R 42 W1 base Pl vl q := hR
  rcases h4'.2 with ⟨-, hc⟩ | ⟨b, cap, cur, rfl, hbb, hblk, hcap, hmax, hsz, htake⟩
  · omega
  have hlt : b < W.heap.size := own_lt h4 b rfl
  have hcell : ∀ t u, [Value.int .u16 s, .int .u16 d, .int .u32 (tg g q), vl][t]? = some u → W1.cell? ⟨b, ds.length * 4 + t, none⟩ = some u := by
    intro t u hu
    have e := congrArg (fun l : List Value => l[t]?) hcs
    simp only [List.getElem?_take, List.getElem?_drop] at e
    have ht : t < 4 := by have := (List.getElem?_eq_some_iff.1 hu).1; simpa using this
    rw [if_pos ht] at e
    have e2 : inner[ds.length * 4 + t]? = some u := e.trans hu
    have := h4'.cells (g := b) rfl (ds.length * 4 + t) u e2
    rwa [Go.WideShapes.add_plain, Nat.zero_add] at this
  refine ⟨fun k => Pl k ∨ W.heap.size ≤ k, b, cap, vl, rfl, hcell 0 _ rfl, hcell 1 _ rfl, hcell 2 _ rfl, hcell 3 _ rfl, Kd.R_mono hR (fun k hk => .inl hk), fun k hk => ⟨.inr hk, fun he => ?_⟩, fun k hk => .inr (by omega), hbb, hlt, fun v1 w1 q' hR1 hg htg => ?_⟩
  · have := (h2 k (hR.1 k he.symm)).1; omega
  · have hgz := hg.size
    obtain ⟨inn, hownl⟩ := Kd.R_own hR
    have hne := own_two h4' hownl (by decide)
    have hneb : some b ≠ vl.ownBlock := by
      rcases hne with hne | hne
      · simp [Value.ownBlock] at hne
      · exact hne
    have hblk1 : w1.heap[b]? = some (.cells cur 38 (0, 0)) := (hg.block b (by omega) hneb).trans hblk
    have hown1 := own_other h4' hg hne
    have hc3 : w1.cell? ⟨b, ds.length * 4 + 3, none⟩ = some vl := (World.cell?_of_block (a := ⟨b, ds.length * 4 + 3, none⟩) (hg.block b (by omega) hneb)).trans (hcell 3 _ rfl)
    have hfr : w1.frozen? ⟨b, ds.length * 4 + 3, none⟩ = false := by simp [World.frozen?, hblk1]
    refine ⟨hc3, hfr, ?_⟩
    have hset : (w1.setCell ⟨b, ds.length * 4 + 3, none⟩ v1).heap[b]? = some (.cells (cur.setIfInBounds (ds.length * 4 + 3) v1) 38 (0, 0)) := set_blk3 hblk1 _ _
    have hil : inner.length = (ds.length + 1) * 4 := h4.1
    have hse : (w1.setCell ⟨b, ds.length * 4 + 3, none⟩ v1).heap.size = w1.heap.size := by simp [World.setCell]
    refine ⟨Pd, fun k => (Pl k ∨ W.heap.size ≤ k) ∧ k < w1.heap.size, Pr, inner.set (ds.length * 4 + 3) v1, fun k hk => ?_, fun k hk => ?_, fun k hk => ?_, ?_, fun j q2 hj => ?_, ?_⟩
    · have := h1 k hk
      exact ⟨by omega, fun hh => by rcases hh.1 with hh | hh; exact this.2.1 hh; omega, this.2.2⟩
    · refine ⟨by omega, fun hr => ?_⟩
      rcases hk.1 with hh | hh
      · exact (h2 k hh).2 hr
      · have := h3 k hr; omega
    · have := h3 k hk; omega
    · have hl2 : (ds ++ [q']).length = ds.length + 1 := by simp
      rw [hl2]
      refine ⟨by rw [List.length_set]; exact h4.1, .inr ⟨b, cap, _, rfl, hbb, hset, hcap, hmax, by simpa using hsz, ?_⟩⟩
      rw [Array.toList_setIfInBounds, List.take_set, htake]
    · have hl2 : (ds ++ [q']).length = ds.length + 1 := by simp
      rw [hl2]
      by_cases hj1 : j + 1 = ds.length + 1
      · obtain rfl : j = ds.length := by omega
        rw [if_pos rfl]
        have hq2 : q2 = q' := by simpa using hj.symm
        subst hq2
        rw [take_set_at inner (ds.length * 4) _ _ _ _ v1 hcs]
        have hR2 : kC.R 42 (w1.setCell ⟨b, ds.length * 4 + 3, none⟩ v1) base (fun k => (Pl k ∨ W.heap.size ≤ k) ∧ k < w1.heap.size) v1 q2 :=
          Kd.R_set (Kd.R_mono (Kd.R_bound hR1) (fun k hk => ⟨hk.1, hk.2.2.1⟩)) hblk1 kC_E _ _
        have := k38_mkM (w1.setCell ⟨b, ds.length * 4 + 3, none⟩ v1) base (fun k => (Pl k ∨ W.heap.size ≤ k) ∧ k < w1.heap.size) (mkP s d g q2) hR2
        rw [show (mkP s d g q2).f0.f2 = tg g q from htg] at this
        exact this
      · rw [if_neg hj1]
        have hjl : j < ds.length := by
          have := (List.getElem?_eq_some_iff.1 hj).1
          simp at this
          omega
        rw [take_set_far inner _ _ v1 (by omega)]
        have hq : (ds ++ [q])[j]? = some q2 := by
          rw [List.getElem?_append_left hjl] at hj ⊢
          exact hj
        have hMj := Kd.M_below (h5 j q2 hq) hb
        rw [if_neg hj1] at hMj
        have hM1 := Kd.M_grown hMj hg (fun k hk he => (h1 k hk).2.1 (hR.1 k he.symm))
        exact kP.M_mono (fun k hk => hk.1) (Kd.M_far (p := ⟨b, ds.length * 4 + 3, none⟩) (Kd.M_types hM1 hblk1 kP_E) (fun k hk => hk.2) v1)
    · have hR6 := Kd.R_grown (Kd.R_below h6 hb) hg (fun k hk he => (h2 k (hR.1 k he.symm)).2 hk)
      exact Kd.R_set hR6 hblk1 kC_E _ _
theorem OfI.open_ready {x : Ck} {vx : Value} (h : OfI base s d g vo vr outs rej W) (hb : Below W.heap.size W W1) (hbase : base ≤ W.heap.size) (hx : kC.R 42 W1 W.heap.size (fun _ => True) vx [x]) :
    ∃ inner : List Value, W1.ownsRow base 38 4 vo outs.length inner ∧
      ∀ v1 w1, w1.ownsRow base 38 4 v1 (outs.length + 1) (inner ++ [.int .u16 s, .int .u16 d, .int .u32 (tg g [x]), vx]) → W1.grownBy w1 vo.ownBlock → OfI base s d g v1 vr (outs ++ [[x]]) rej w1 := by
  obtain ⟨Pd, Pl, Pr, inner, h1, h2, h3, h4, h5, h6⟩ := h
  have hz := hb.size
  have h4' := pw_own_below h4 hb
  refine ⟨inner, h4', fun v1 w1 hown hg => ?_⟩
  have hgz := hg.size
  have hil : inner.length = outs.length * 4 := h4.1
  have far : ∀ {okk : Nat → Prop} {p : Pk} {cs : List Value} {bs : Nat}, kP.M W1 bs okk p cs → kP.M w1 bs okk p cs := by
    intro okk p cs bs hM
    cases e : vo.ownBlock with
    | none => rw [e] at hg; exact Kd.M_grown hM hg (fun k _ => by simp)
    | some b =>
      obtain ⟨cells, hc⟩ := own_typed h4' b e
      rw [e] at hg
      exact kP.M_mono (fun k hk => hk.1) (Kd.M_grown (Kd.M_types hM hc kP_E) hg (fun k hk he => hk.2 (Option.some.inj he)))
  have farR : ∀ {okk : Nat → Prop} {v : Value} {xs : List Ck} {bs : Nat}, kC.R 42 W1 bs okk v xs → kC.R 42 w1 bs okk v xs := by
    intro okk v xs bs hR
    cases e : vo.ownBlock with
    | none => rw [e] at hg; exact Kd.R_grown hR hg (fun k _ => by simp)
    | some b =>
      obtain ⟨cells, hc⟩ := own_typed h4' b e
      rw [e] at hg
      exact Kd.R_mono (Kd.R_grown (Kd.R_types hR hc kC_E) hg (fun k hk he => hk.2 (Option.some.inj he))) (fun k hk => hk.1)
  refine ⟨fun k => Pd k ∨ Pl k, fun k => W.heap.size ≤ k ∧ k < w1.heap.size, Pr, inner ++ [.int .u16 s, .int .u16 d, .int .u32 (tg g [x]), vx], fun k hk => ?_, fun k hk => ?_, fun k hk => ?_, ?_, fun j q hj => ?_, farR (Kd.R_below h6 hb)⟩
  · rcases hk with hk | hk
    · have := h1 k hk
      exact ⟨by omega, fun hh => by omega, this.2.2⟩
    · have := h2 k hk
      exact ⟨by omega, fun hh => by omega, this.2⟩
  · exact ⟨hk.2, fun hr => by have := h3 k hr; omega⟩
  · have := h3 k hk; omega
  · rw [List.length_append]; exact hown
  · have hl2 : (outs ++ [[x]]).length = outs.length + 1 := by simp
    rw [hl2]
    by_cases hj1 : j + 1 = outs.length + 1
    · obtain rfl : j = outs.length := by omega
      have hq : q = [x] := by simpa using hj.symm
      subst hq
      rw [if_pos rfl, ← hil, List.drop_left]
      have hR2 : kC.R 42 w1 base (fun k => W.heap.size ≤ k ∧ k < w1.heap.size) vx [x] := Kd.R_lower (Kd.R_mono (Kd.R_bound (farR hx)) (fun k hk => ⟨hk.2.1, hk.2.2.1⟩)) hbase
      exact k38_mkM w1 base _ (mkP s d g [x]) hR2
    · have hjl : j < outs.length := by
        have := (List.getElem?_eq_some_iff.1 hj).1
        rw [hl2] at this
        omega
      rw [if_neg hj1, List.drop_append_of_le_length (by omega), List.take_append_of_le_length (by rw [List.length_drop]; omega)]
      rw [List.getElem?_append_left hjl] at hj
      refine kP.M_mono (fun k hk => ?_) (far (Kd.M_below (h5 j q hj) hb))
      by_cases hj2 : j + 1 = outs.length
      · rw [if_pos hj2] at hk; exact .inr hk
      · rw [if_neg hj2] at hk; exact .inl hk
/-- What is given back can be read. -/
theorem OfI.reads (h : OfI base s d g vo vr outs rej W) : ∃ A c A2 c2, vo = .slice A outs.length c ∧ outs.length ≤ c ∧ kP.C W A outs.length (outs.map (mkP s d g)) ∧ vr = .slice A2 rej.length c2 ∧ rej.length ≤ c2 ∧ kC.C W A2 rej.length rej := by
  obtain ⟨Pd, Pl, Pr, inner, h1, h2, h3, h4, h5, h6⟩ := h
  obtain ⟨A2, c2, e2, l2, r2⟩ := Kd.R_reads h6
  have hr : OwnRow (kP.K W) 38 4 W base vo (outs.map (mkP s d g)) := by
    refine ⟨inner, by rw [List.length_map]; exact h4, by rw [List.length_map]; exact h4.1, fun j p hj => ?_⟩
    rw [List.getElem?_map, Option.map_eq_some_iff] at hj
    obtain ⟨q, hq, rfl⟩ := hj
    exact kP.K_of_M (h5 j q hq)
  obtain ⟨A, c, e, l, r⟩ := OwnRow.reads hr
  rw [List.length_map] at e l r
  exact ⟨A, c, A2, c2, e, l, r, e2, l2, r2⟩
end Bn
end Go.Proofs.YtmfmomfhiieilaaGreatDoor
/- The plain law of packing: what is put in packets one chunk after the other is what is cut off from the front. -/
set_option linter.unusedVariables false
set_option linter.unusedSimpArgs false
namespace Go.Proofs.YtmfmomfhiieilaaGreatDoor
namespace Bn
namespace Pkg
variable {α : Type} (fit : α → Bool) (room : List α → α → Bool)
/-- One step of packing: the packets so far, and a chunk. -/
def stp (out : List (List α)) (x : α) : List (List α) :=
  if fit x = true then
    match out.getLast? with
    | none => [[x]]
    | some q => if room q x = true then out.dropLast ++ [q ++ [x]] else out ++ [[x]]
  else out
def packs (l : List α) : List (List α) := l.foldl (stp fit room) []
/-- The same from a packet that is open. -/
def grd : List α → List α → List (List α)
  | q, [] => [q]
  | q, x :: l => if room q x = true then grd (q ++ [x]) l else q :: grd [x] l
theorem stp_app (out : List (List α)) (q : List α) (x : α) (h : fit x = true) : stp fit room (out ++ [q]) x = if room q x = true then out ++ [q ++ [x]] else out ++ [q, [x]] := by
  unfold stp
  rw [if_pos h]
  simp
theorem stp_nil (x : α) (h : fit x = true) : stp fit room [] x = [[x]] := by
  unfold stp
  rw [if_pos h]
  simp
theorem fold_filter (l : List α) : ∀ out : List (List α), l.foldl (stp fit room) out = (l.filter fit).foldl (stp fit room) out := by
  induction l with
  | nil => intro out; rfl
  | cons x l ih =>
    intro out
    by_cases h : fit x = true
    · rw [List.filter_cons_of_pos h, List.foldl_cons, List.foldl_cons, ih]
    · rw [List.filter_cons_of_neg h, List.foldl_cons, show stp fit room out x = out by unfold stp; rw [if_neg h], ih]
theorem fold_grd (l : List α) : ∀ (out : List (List α)) (q : List α), (∀ x ∈ l, fit x = true) → l.foldl (stp fit room) (out ++ [q]) = out ++ grd room q l := by
  induction l with
  | nil => intro out q _; rfl
  | cons x l ih =>
    intro out q h
    rw [List.foldl_cons, stp_app fit room out q x (h x (by simp)), grd]
    by_cases hr : room q x = true
    · rw [if_pos hr, if_pos hr, ih out (q ++ [x]) (fun y hy => h y (by simp [hy]))]
    · rw [if_neg hr, if_neg hr, show out ++ [q, [x]] = (out ++ [q]) ++ [[x]] by simp, ih (out ++ [q]) [x] (fun y hy => h y (by simp [hy]))]
      simp
theorem packs_nil : packs fit room [] = [] := rfl
theorem packs_grd (x : α) (l : List α) (h : ∀ y ∈ x :: l, fit y = true) : packs fit room (x :: l) = grd room [x] l := by
  unfold packs
  rw [List.foldl_cons, stp_nil fit room x (h x (by simp))]
  have := fold_grd fit room l [] [x] (fun y hy => h y (by simp [hy]))
  simpa using this
theorem packs_filter (l : List α) : packs fit room l = packs fit room (l.filter fit) := fold_filter fit room l []
theorem packs_snoc (l : List α) (x : α) : packs fit room (l ++ [x]) = stp fit room (packs fit room l) x := by
  unfold packs
  rw [List.foldl_append]
  rfl
/-- The end of the first packet. -/
theorem grd_cut (q l : List α) : ∀ (n : Nat) (hn : n < l.length), (∀ i (h : i < n), room (q ++ l.take i) (l[i]'(by omega)) = true) → room (q ++ l.take n) l[n] = false → grd room q l = (q ++ l.take n) :: grd room [l[n]] (l.drop (n + 1)) := by
  intro n
  induction n generalizing q l with
  | zero =>
    intro hn h hf
    cases l with
    | nil => simp at hn
    | cons x l =>
      have hf' : ¬ room q x = true := by simpa using hf
      rw [grd, if_neg hf']
      simp
  | succ n ih =>
    intro hn h hf
    cases l with
    | nil => simp at hn
    | cons x l =>
      have h0 : room q x = true := by simpa using h 0 (by omega)
      rw [grd, if_pos h0]
      have hn' : n < l.length := by simpa using hn
      have := ih (q ++ [x]) l hn' (fun i hi => by have := h (i + 1) (by omega); simpa using this) (by simpa using hf)
      rw [this]
      simp
theorem grd_all (q l : List α) (h : ∀ i (h : i < l.length), room (q ++ l.take i) l[i] = true) : grd room q l = [q ++ l] := by
  induction l generalizing q with
  | nil => simp [grd]
  | cons x l ih =>
    have h0 : room q x = true := by have := h 0 (Nat.zero_lt_succ _); simpa using this
    rw [grd, if_pos h0, ih (q ++ [x]) (fun i hi => by have := h (i + 1) (by simpa using hi); simpa using this)]
    simp
/-- As the reference splits: 'n' is the end of the first packet of what fits. -/
theorem packs_cut (l : List α) (hfit : ∀ y ∈ l, fit y = true) (n : Nat) (h0 : 0 < n) (hn : n ≤ l.length) (hr : ∀ i (_ : 0 < i) (h : i < n), room (l.take i) (l[i]'(by omega)) = true) (hf : ∀ h : n < l.length, room (l.take n) l[n] = false) : packs fit room l = l.take n :: packs fit room (l.drop n) := by
  cases l with
  | nil => simp at hn; omega
  | cons x l =>
    rw [packs_grd fit room x l hfit]
    obtain ⟨m, rfl⟩ : ∃ m, n = m + 1 := ⟨n - 1, by omega⟩
    have hm : m ≤ l.length := by simpa using hn
    by_cases hl : m < l.length
    · rw [grd_cut room [x] l m hl (fun i hi => by have := hr (i + 1) (by omega) (by omega); simpa using this) (by have := hf (by simpa using hl); simpa using this)]
      have hd : l.drop m = l[m] :: l.drop (m + 1) := List.drop_eq_getElem_cons hl
      rw [List.take_succ_cons, List.drop_succ_cons, hd, packs_grd fit room _ _ (fun y hy => hfit y (by rw [← hd] at hy; exact List.mem_cons_of_mem _ (List.mem_of_mem_drop hy)))]
      rfl
    · obtain rfl : m = l.length := by omega
      rw [grd_all room [x] l (fun i hi => by have := hr (i + 1) (by omega) (by omega); simpa using this)]
      simp [packs_nil]
/-- Greedy: the first of a packet could not stand in the one in front of it. -/
def Gre (out : List (List α)) : Prop := (∀ q ∈ out, q ≠ []) ∧ ∀ i (h : i + 1 < out.length) (x : α), (out[i + 1]).head? = some x → room (out[i]'(by omega)) x = false
theorem gre_last (out : List (List α)) (q : List α) (x : α) (h : Gre room (out ++ [q])) : Gre room (out ++ [q ++ [x]]) := by
  refine ⟨fun p hp => ?_, fun i hi y hy => ?_⟩
  · rcases List.mem_append.1 hp with hp | hp
    · exact h.1 p (by simp [hp])
    · simp at hp; subst hp; simp
  · simp only [List.length_append, List.length_cons, List.length_nil] at hi
    have h1 := h.2 i (by simp; omega) y
    have e1 : (out ++ [q])[i]'(by simp; omega) = (out ++ [q ++ [x]])[i]'(by simp; omega) := by
      rw [List.getElem_append_left (by omega), List.getElem_append_left (by omega)]
    rw [← e1]
    refine h1 ?_
    by_cases hl : i + 1 < out.length
    · rw [List.getElem_append_left hl] at hy ⊢
      exact hy
    · have hne : q ≠ [] := h.1 q (by simp)
      rw [List.getElem_append_right (by omega)] at hy ⊢
      simp only [List.getElem_singleton] at hy ⊢
      cases q with
      | nil => exact absurd rfl hne
      | cons a q => simpa using hy
theorem gre_new (out : List (List α)) (q : List α) (x : α) (h : Gre room (out ++ [q])) (hr : room q x = false) : Gre room (out ++ [q, [x]]) := by
  rw [show out ++ [q, [x]] = (out ++ [q]) ++ [[x]] by simp]
  refine ⟨fun p hp => ?_, fun i hi y hy => ?_⟩
  · rcases List.mem_append.1 hp with hp | hp
    · exact h.1 p hp
    · simp at hp; subst hp; simp
  · simp only [List.length_append, List.length_cons, List.length_nil] at hi
    by_cases hl : i + 1 < (out ++ [q]).length
    · rw [List.getElem_append_left hl] at hy
      have := h.2 i hl y hy
      rw [List.getElem_append_left (by omega)]
      exact this
    · simp only [List.length_append, List.length_cons, List.length_nil] at hl
      obtain rfl : i = out.length := by omega
      rw [List.getElem_append_right (by simp)] at hy
      simp at hy
      subst hy
      rw [List.getElem_append_left (by simp)]
      simp [hr]
theorem gre_stp (out : List (List α)) (x : α) (h : Gre room out) : Gre room (stp fit room out x) := by
  by_cases hf : fit x = true
  · rcases List.eq_nil_or_concat out with rfl | ⟨o, q, rfl⟩
    · rw [stp_nil fit room x hf]
      exact ⟨by simp, fun i hi => by simp at hi⟩
    · rw [List.concat_eq_append] at h ⊢
      rw [stp_app fit room o q x hf]
      by_cases hr : room q x = true
      · rw [if_pos hr]
        exact gre_last room o q x h
      · rw [if_neg hr]
        exact gre_new room o q x h (by simpa using hr)
  · unfold stp
    rw [if_neg hf]
    exact h
theorem gre_packs (l : List α) : Gre room (packs fit room l) := by
  have : ∀ (l : List α) (out : List (List α)), Gre room out → Gre room (l.foldl (stp fit room) out) := by
    intro l
    induction l with
    | nil => intro out h; exact h
    | cons x l ih => intro out h; exact ih _ (gre_stp fit room out x h)
  exact this l [] ⟨by simp, fun i hi => by simp at hi⟩
/-- All that is in a packet stands in the list, and there are no more packets than chunks. -/
theorem packs_len (l : List α) : (packs fit room l).length ≤ l.length ∧ ∀ q ∈ packs fit room l, q.length ≤ l.length ∧ ∀ x ∈ q, x ∈ l := by
  have : ∀ (l : List α) (out : List (List α)) (m : Nat) (P : α → Prop), (∀ q ∈ out, q.length ≤ m ∧ ∀ x ∈ q, P x) → (∀ x ∈ l, P x) → (l.foldl (stp fit room) out).length ≤ out.length + l.length ∧ ∀ q ∈ l.foldl (stp fit room) out, q.length ≤ m + l.length ∧ ∀ x ∈ q, P x := by
    intro l
    induction l with
    | nil => intro out m P h _; exact ⟨by simp, fun q hq => h q hq⟩
    | cons x l ih =>
      intro out m P h hP
      have hs : (stp fit room out x).length ≤ out.length + 1 ∧ ∀ q ∈ stp fit room out x, q.length ≤ m + 1 ∧ ∀ y ∈ q, P y := by
        by_cases hf : fit x = true
        · rcases List.eq_nil_or_concat out with rfl | ⟨o, q, rfl⟩
          · rw [stp_nil fit room x hf]
            exact ⟨by simp, fun q hq => by simp at hq; subst hq; exact ⟨by simp, fun y hy => by simp at hy; subst hy; exact hP _ (by simp)⟩⟩
          · rw [List.concat_eq_append] at h ⊢
            rw [stp_app fit room o q x hf]
            have hx := hP x (by simp)
            have hq := h q (by simp)
            by_cases hr : room q x = true
            · rw [if_pos hr]
              refine ⟨by simp, fun p hp => ?_⟩
              rcases List.mem_append.1 hp with hp | hp
              · have := h p (by simp [hp]); exact ⟨by omega, this.2⟩
              · simp at hp; subst hp
                refine ⟨by simp; omega, fun y hy => ?_⟩
                rcases List.mem_append.1 hy with hy | hy
                · exact hq.2 y hy
                · simp at hy; subst hy; exact hx
            · rw [if_neg hr]
              refine ⟨by simp, fun p hp => ?_⟩
              simp only [List.mem_append, List.mem_cons, List.not_mem_nil, or_false] at hp
              rcases hp with hp | rfl | rfl
              · have := h p (by simp [hp]); exact ⟨by omega, this.2⟩
              · exact ⟨by omega, hq.2⟩
              · exact ⟨by simp, fun y hy => by simp at hy; subst hy; exact hx⟩
        · unfold stp
          rw [if_neg hf]
          exact ⟨by omega, fun q hq => by have := h q hq; exact ⟨by omega, this.2⟩⟩
      have h2 := ih (stp fit room out x) (m + 1) P hs.2 (fun y hy => hP y (by simp [hy]))
      rw [List.foldl_cons]
      refine ⟨by have := hs.1; rw [List.length_cons]; omega, fun q hq => ?_⟩
      have h3 := h2.2 q hq
      rw [List.length_cons]
      exact ⟨by omega, h3.2⟩
  have h := this l [] 0 (fun x => x ∈ l) (by simp) (fun x hx => hx)
  simpa [packs] using h
end Pkg
end Bn
end Go.Proofs.YtmfmomfhiieilaaGreatDoor
/- 'bundle.room': whether a chunk can stand in a packet. -/
set_option linter.unusedVariables false
set_option linter.unusedSimpArgs false
namespace Go.Proofs.YtmfmomfhiieilaaGreatDoor
open Go.RowKit Go.Shelf Go.Proofs.YtmfmomfhiieilaaGreatDoor.It Go.Proofs.YtmfmomfhiieilaaGreatDoorW.PrintWords Go.Proofs.YtmfmomfhiieilaaGreatDoorW.PrintLast Go.Proofs.YtmfmomfhiieilaaGreatDoorW.PrintMore
namespace Bn
open PBundleSorted
def fitC (M : Int) (x : Ck) : Bool := decide (((12 + up (csz x) : Nat) : Int) ≤ M)
def roomC (M : Int) (q : List Ck) (x : Ck) : Bool := mayR x.f0 (tys q) && decide (((12 + psz (q ++ [x]) : Nat) : Int) ≤ M)
theorem tys_len (q : List Ck) : (tys q).length = q.length := by unfold tys; rw [List.length_map]
theorem cs_none {w : World} {n : Nat} {q : List Ck} (h : CsC w none n q) : n = 0 := by
  rcases Nat.eq_zero_or_pos n with h0 | h0
  · exact h0
  · obtain ⟨ad, e, -⟩ := h.2.2 h0
    cases e
/-- A slice cut to its length: no room behind it. -/
theorem clip3 (A3 : Option Addr) (n3 c3 : Nat) (h : n3 ≤ c3) (W : World) : (Instr.slice 26 (.slice A3 n3 c3) none (some (.int .i64 (n3 : Int))) (some (.int .i64 (n3 : Int)))).run Tryz.prog W = .ok (.slice A3 n3 n3) W := by
  obtain ⟨i0, hi, -⟩ := Option.map_eq_some_iff.1 infoC
  have hel : Tryz.prog.elem 26 = 42 := by simp [Program.elem, Tryz.underlying26]
  have hu : Tryz.prog.underlying 26 = some (.slice (Tryz.prog.elem 26)) := by rw [hel]; exact Tryz.underlying26
  have ha : (A3.map fun x => x.add 0) = A3 := by cases A3 <;> simp [Addr.add]
  rw [run_slice_hm W 26 A3 n3 c3 hu .i64 .i64 n3 n3 (by omega) (by omega) (by omega), hel]
  simp [sizeOf, typeInfo, hi, sliced, Result.andThen, ha]
theorem rm_blw {S W W' : World} {a0 a1 a2 a3 a4 : Addr} {v0 v1 v2 v3 v4 : Value} (h : Below S.heap.size S W ∧ W.cell? a0 = some v0 ∧ W.cell? a1 = some v1 ∧ W.cell? a2 = some v2 ∧ W.cell? a3 = some v3 ∧ W.cell? a4 = some v4) (hb : Below W.heap.size W W') : Below S.heap.size S W' ∧ W'.cell? a0 = some v0 ∧ W'.cell? a1 = some v1 ∧ W'.cell? a2 = some v2 ∧ W'.cell? a3 = some v3 ∧ W'.cell? a4 = some v4 :=
  ⟨cthen h.1 hb, pw_cell_below hb h.2.1, pw_cell_below hb h.2.2.1, pw_cell_below hb h.2.2.2.1, pw_cell_below hb h.2.2.2.2.1, pw_cell_below hb h.2.2.2.2.2⟩
set_option maxRecDepth 100000 in
set_option maxHeartbeats 4000000 in
theorem room_any (M : Int) (s d g : Int) (q : List Ck) (x : Ck) (A3 A K : Option Addr) (n3 c3 n c m e : Nat) (w : World) (hg : GLg w) (hn3 : q.length = n3) (hq : CsC w A3 n3 q) (hc3 : n3 ≤ c3) (hn : x.f2.length = n) (hm : x.f3.length = m) (h1 : BC w A x.f2) (h2 : n ≤ c) (h3 : Kd.C k87 w K m x.f3) (h4 : m ≤ e) (hok : OkS (q ++ [x])) :
    Calls Tryz.prog 29 #[.int .i64 M, .agg #[.int .u16 s, .int .u16 d, .int .u32 g, .slice A3 n3 c3], ckV x.f0 x.f1 A n c K m e] w (IsPost (.bool (roomC M q x)) w) := by
  obtain ⟨S, hS⟩ : ∃ S, (w.alloc (.cells #[.int .u16 s, .int .u16 d, .int .u32 g, .slice A3 n3 c3] 38)).alloc (.cells #[.int .u8 x.f0, .int .u8 x.f1, .slice A n c, .slice K m e] 42) = S := ⟨_, rfl⟩
  have HS := hid hS
  have hbS : Below w.heap.size w S := by rw [← hS]; exact below_alloc (below_alloc (Below.refl _ _) _) _
  have BS := hid hbS
  have XS := hid (show S.heap[w.heap.size]? = some (.cells #[.int .u16 s, .int .u16 d, .int .u32 g, .slice A3 n3 c3] 38 (0, 0)) by rw [← hS]; exact blk_alloc (blk_new w _))
  have RS := hid (show S.heap[w.heap.size + 1]? = some (.cells #[.int .u8 x.f0, .int .u8 x.f1, .slice A n c, .slice K m e] 42 (0, 0)) by rw [← hS]; have h := blk_new (w.alloc (.cells #[.int .u16 s, .int .u16 d, .int .u32 g, .slice A3 n3 c3] 38)) (.cells #[.int .u8 x.f0, .int .u8 x.f1, .slice A n c, .slice K m e] 42); rw [World.size_alloc] at h; exact h)
  have hlen : n3 + 1 ≤ 1000 := by have := hok.1; rw [List.length_append, hn3] at this; exact this
  have HLEN := hid hlen
  have HTY := hid (fun W (hW : Below S.heap.size S W) => ltypes_any A3 n3 c3 q W hn3 (Kd.C_below hq (cthen hbS hW)) hc3 (by omega))
  have HMY := hid (fun A4 c4 W (hW : Below S.heap.size S W) (r : BC W A4 (tys q)) (l : (tys q).length ≤ c4) => lmay_any x.f0 A4 (tys q).length c4 (tys q) W (hg.below (cthen hbS hW)) rfl r l (by rw [tys_len, hn3]; omega))
  have HSZ := hid (fun A7 c7 W (r : CsC W A7 (n3 + 1) (q ++ [x])) => psize_any A7 (n3 + 1) c7 (q ++ [x]) W (by rw [List.length_append, hn3]; rfl) r hok)
  have HQ := hid (fun W (hW : Below S.heap.size S W) => Kd.C_below hq (cthen hbS hW))
  have HX := hid (fun W (hW : Below S.heap.size S W) => show kC.K W x [.int .u8 x.f0, .int .u8 x.f1, .slice A n c, .slice K m e] by
    have h := k42_mk W x (by rw [hn]; exact h2) (h1.below (cthen hbS hW)) (by rw [hm]; exact h4) (by rw [hm]; exact Kd.C_below h3 (cthen hbS hW))
    rw [hn, hm] at h
    exact h)
  have HA3 := hid (show A3 = none → n3 = 0 by rintro rfl; exact cs_none hq)
  have hcl := clip3 A3 n3 c3 hc3
  obtain ⟨b, hb⟩ : ∃ b, mayR x.f0 (tys q) = b := ⟨_, rfl⟩
  obtain ⟨z, hz⟩ : ∃ z, 12 + psz (q ++ [x]) = z := ⟨_, rfl⟩
  unfold roomC
  simp only [hb] at HMY
  simp only [hz] at HSZ
  rw [hb, hz]
  unfold ckV
  obtain ⟨⟨x0, x1, x2, x3⟩, -⟩ := four XS.out
  obtain ⟨⟨y0, y1, y2, y3⟩, -⟩ := four RS.out
  have hS0 : Below S.heap.size S S.drew ∧ S.drew.cell? ⟨w.heap.size, 3, none⟩ = some (.slice A3 n3 c3) ∧ S.drew.cell? ⟨w.heap.size + 1, 0, none⟩ = some (.int .u8 x.f0) ∧ S.drew.cell? ⟨w.heap.size + 1, 1, none⟩ = some (.int .u8 x.f1) ∧ S.drew.cell? ⟨w.heap.size + 1, 2, none⟩ = some (.slice A n c) ∧ S.drew.cell? ⟨w.heap.size + 1, 3, none⟩ = some (.slice K m e) := ⟨below_drew (Below.refl _ _) 1, x3, y0, y1, y2, y3⟩
  have HS0 := hid hS0
  rw [← hS] at x3
  clear hg hn3 hq hc3 hn hm h1 h2 h3 h4 hok hbS hlen hb hz x0 x1 x2 y0 y1 y2 y3 hS hS0
  cases b with
  | false =>
    go_enter Tryz.func29, Tryz.ntmps29
    go_upto_region 2 with fail
    rw [HS.out]
    clear x3
    have hS0 := HS0.out
    refine start_ (n := 20) (S := (fun W => Below S.heap.size S W ∧ W.cell? ⟨w.heap.size, 3, none⟩ = some (.slice A3 n3 c3) ∧ W.cell? ⟨w.heap.size + 1, 0, none⟩ = some (.int .u8 x.f0) ∧ W.cell? ⟨w.heap.size + 1, 1, none⟩ = some (.int .u8 x.f1) ∧ W.cell? ⟨w.heap.size + 1, 2, none⟩ = some (.slice A n c) ∧ W.cell? ⟨w.heap.size + 1, 3, none⟩ = some (.slice K m e))) (ds := [5]) (bA 20 0) (by kernel_rfl) rfl rfl hS0 (fun hHeld => ?_)
    generalize S.drew = w44 at hS0 hHeld ⊢
    refine pU 0 (some 11) (bA 20 1) rfl rfl ?_
    refine pU 2 (some 13) (bA 20 5) rfl rfl ?_
    refine tU 1 (some 12) (bA 20 7) rfl rfl hHeld (by rintro w' ⟨q0, q1, q2, q3, q4, q5⟩; go_simp; with_reducible rfl) ?_
    refine tU 3 (some 14) (bA 20 15) rfl rfl hHeld (by rintro w' ⟨q0, q1, q2, q3, q4, q5⟩; go_simp; with_reducible rfl) ?_
    refine one_ (i := 4) (N := some 15) (bA 20 31) rfl rfl (by kernel_rfl) (by decide) (fun KK hK => ?_)
    refine goes_ Tryz.func56 (by kernel_rfl) rfl #[.slice A3 n3 c3] (by rfl) rfl rfl (by simp only [List.map_toArray, List.map_cons, List.map_nil]; rfl) ?_
    refine Calls.mono (HTY.out _ hHeld.1) ?_
    rintro e4 W4 ⟨v4, rfl, hr4, hb4⟩
    refine ⟨_, rfl, ?_⟩
    obtain ⟨A4, c4, rfl, l4, r4⟩ := Kd.R_reads hr4
    have hS4 := rm_blw hHeld hb4
    have HR4 := hid (show BC W4 A4 (tys q) from r4)
    have HL4 := hid l4
    clear hr4 hb4 r4 l4
    refine hK.out _ _ hS4 (fun hHeld4 => ?_)
    clear hK KK
    refine nU ?_
    refine last_ (i := 5) (N := some 16) (bA 20 63) rfl rfl (by kernel_rfl) (by decide) (fun KK hK => ?_)
    refine goes_ Tryz.func55 (by kernel_rfl) rfl #[.int .u8 x.f0, .slice A4 (tys q).length c4] (by rfl) rfl rfl (by simp only [List.map_toArray, List.map_cons, List.map_nil]; rfl) ?_
    refine Calls.mono (HMY.out A4 c4 _ hHeld4.1 HR4.out HL4.out) ?_
    rintro e5 W5 ⟨rfl, hb5⟩
    refine ⟨_, rfl, ?_⟩
    have hS5 := rm_blw hHeld4 hb5
    clear hb5
    refine hK.out _ _ ?_
    clear hK KK
    refine nU ?_
    refine pU 6 (some 17) (bA 20 127) rfl rfl ?_
    refine pure_ (i := 7) (N := some 18) (v := undef) (a' := ?_) (bA 20 255) rfl rfl (by kernel_rfl) (fun _ _ _ h => h) (Or.inr ⟨by rfl, rfl⟩) ?_ ?_
    rotate_left
    · simp only [Act.put, sA, s0, sS, i64_w, i32_w]
      rfl
    refine pure_ (i := 9) (N := some 20) (v := undef) (a' := ?_) (bA 20 767) rfl rfl (by kernel_rfl) (fun _ _ _ h => h) (Or.inr ⟨by rfl, rfl⟩) ?_ ?_
    rotate_left
    · simp only [Act.put, sA, s0, sS, i64_w, i32_w]
      rfl
    refine pure_ (i := 10) (N := some 21) (v := undef) (a' := ?_) (bA 20 1791) rfl rfl (by kernel_rfl) (fun _ _ _ h => h) (Or.inr ⟨by rfl, rfl⟩) ?_ ?_
    rotate_left
    · simp only [Act.put, sA, s0, sS, i64_w, i32_w]
      rfl
    refine pure_ (i := 16) (N := some 27) (v := undef) (a' := ?_) (bA 20 67327) rfl rfl (by kernel_rfl) (fun _ _ _ h => h) (Or.inr ⟨by rfl, rfl⟩) ?_ ?_
    rotate_left
    · simp only [Act.put, sA, s0, sS, i64_w, i32_w]
      rfl
    refine pure_ (i := 8) (N := some 19) (v := undef) (a' := ?_) (bA 20 67583) rfl rfl (by kernel_rfl) (fun _ _ _ h => h) (Or.inr ⟨by rfl, rfl⟩) ?_ ?_
    rotate_left
    · simp only [Act.put, sA, s0, sS, i64_w, i32_w]
      rfl
    refine pure_ (i := 11) (N := some 22) (v := undef) (a' := ?_) (bA 20 69631) rfl rfl (by kernel_rfl) (fun _ _ _ h => h) (Or.inr ⟨by rfl, rfl⟩) ?_ ?_
    rotate_left
    · simp only [Act.put, sA, s0, sS, i64_w, i32_w]
      rfl
    refine pure_ (i := 12) (N := some 23) (v := undef) (a' := ?_) (bA 20 73727) rfl rfl (by kernel_rfl) (fun _ _ _ h => h) (Or.inr ⟨by rfl, rfl⟩) ?_ ?_
    rotate_left
    · simp only [Act.put, sA, s0, sS, i64_w, i32_w]
      rfl
    refine pure_ (i := 13) (N := some 24) (v := undef) (a' := ?_) (bA 20 81919) rfl rfl (by kernel_rfl) (fun _ _ _ h => h) (Or.inr ⟨by rfl, rfl⟩) ?_ ?_
    rotate_left
    · simp only [Act.put, sA, s0, sS, i64_w, i32_w]
      rfl
    refine pure_ (i := 14) (N := some 25) (v := undef) (a' := ?_) (bA 20 98303) rfl rfl (by kernel_rfl) (fun _ _ _ h => h) (Or.inr ⟨by rfl, rfl⟩) ?_ ?_
    rotate_left
    · simp only [Act.put, sA, s0, sS, i64_w, i32_w]
      rfl
    refine pure_ (i := 15) (N := some 26) (v := undef) (a' := ?_) (bA 20 131071) rfl rfl (by kernel_rfl) (fun _ _ _ h => h) (Or.inr ⟨by rfl, rfl⟩) ?_ ?_
    rotate_left
    · simp only [Act.put, sA, s0, sS, i64_w, i32_w]
      rfl
    refine pure_ (i := 17) (N := some 28) (v := undef) (a' := ?_) (bA 20 262143) rfl rfl (by kernel_rfl) (fun _ _ _ h => h) (Or.inr ⟨by rfl, rfl⟩) ?_ ?_
    rotate_left
    · simp only [Act.put, sA, s0, sS, i64_w, i32_w]
      rfl
    refine pU 18 (some 29) (bA 20 524287) rfl rfl ?_
    refine pU 19 (some 6) (bA 20 1048575) rfl rfl ?_
    refine done_ (by kernel_rfl) ?_
    go_wp2_with fail
    go_ret
    exact ⟨rfl, cthen BS.out hS5.1⟩
  | true =>
    go_enter Tryz.func29, Tryz.ntmps29
    go_upto_region 2 with fail
    rw [HS.out]
    clear x3
    have hS0 := HS0.out
    refine start_ (n := 20) (S := (fun W => Below S.heap.size S W ∧ W.cell? ⟨w.heap.size, 3, none⟩ = some (.slice A3 n3 c3) ∧ W.cell? ⟨w.heap.size + 1, 0, none⟩ = some (.int .u8 x.f0) ∧ W.cell? ⟨w.heap.size + 1, 1, none⟩ = some (.int .u8 x.f1) ∧ W.cell? ⟨w.heap.size + 1, 2, none⟩ = some (.slice A n c) ∧ W.cell? ⟨w.heap.size + 1, 3, none⟩ = some (.slice K m e))) (ds := [15]) (bA 20 0) (by kernel_rfl) rfl rfl hS0 (fun hHeld => ?_)
    generalize S.drew = w44 at hS0 hHeld ⊢
    refine pU 0 (some 11) (bA 20 1) rfl rfl ?_
    refine pU 2 (some 13) (bA 20 5) rfl rfl ?_
    refine tU 1 (some 12) (bA 20 7) rfl rfl hHeld (by rintro w' ⟨q0, q1, q2, q3, q4, q5⟩; go_simp; with_reducible rfl) ?_
    refine tU 3 (some 14) (bA 20 15) rfl rfl hHeld (by rintro w' ⟨q0, q1, q2, q3, q4, q5⟩; go_simp; with_reducible rfl) ?_
    refine one_ (i := 4) (N := some 15) (bA 20 31) rfl rfl (by kernel_rfl) (by decide) (fun KK hK => ?_)
    refine goes_ Tryz.func56 (by kernel_rfl) rfl #[.slice A3 n3 c3] (by rfl) rfl rfl (by simp only [List.map_toArray, List.map_cons, List.map_nil]; rfl) ?_
    refine Calls.mono (HTY.out _ hHeld.1) ?_
    rintro e4 W4 ⟨v4, rfl, hr4, hb4⟩
    refine ⟨_, rfl, ?_⟩
    obtain ⟨A4, c4, rfl, l4, r4⟩ := Kd.R_reads hr4
    have hS4 := rm_blw hHeld hb4
    have HR4 := hid (show BC W4 A4 (tys q) from r4)
    have HL4 := hid l4
    clear hr4 hb4 r4 l4
    refine hK.out _ _ hS4 (fun hHeld4 => ?_)
    clear hK KK
    refine nU ?_
    refine one_ (i := 5) (N := some 16) (bA 20 63) rfl rfl (by kernel_rfl) (by decide) (fun KK hK => ?_)
    refine goes_ Tryz.func55 (by kernel_rfl) rfl #[.int .u8 x.f0, .slice A4 (tys q).length c4] (by rfl) rfl rfl (by simp only [List.map_toArray, List.map_cons, List.map_nil]; rfl) ?_
    refine Calls.mono (HMY.out A4 c4 _ hHeld4.1 HR4.out HL4.out) ?_
    rintro e5 W5 ⟨rfl, hb5⟩
    refine ⟨_, rfl, ?_⟩
    have hS5 := rm_blw hHeld4 hb5
    clear hb5
    refine hK.out _ _ hS5 (fun hHeld5 => ?_)
    clear hK KK
    refine nU ?_
    refine pU 6 (some 17) (bA 20 127) rfl rfl ?_
    refine pU 7 (some 18) (bA 20 255) rfl rfl ?_
    refine pU 9 (some 20) (bA 20 767) rfl rfl ?_
    refine pU 10 (some 21) (bA 20 1791) rfl rfl ?_
    refine pU 16 (some 27) (bA 20 67327) rfl rfl ?_
    refine tU 8 (some 19) (bA 20 67583) rfl rfl hHeld5 (by rintro w' ⟨q0, q1, q2, q3, q4, q5⟩; go_simp; with_reducible rfl) ?_
    refine pU 11 (some 22) (bA 20 69631) rfl rfl ?_
    refine tU 12 (some 23) (bA 20 73727) rfl rfl hHeld5 (by rintro w' ⟨q0, q1, q2, q3, q4, q5⟩; go_simp; with_reducible rfl) ?_
    refine one_ (i := 13) (N := some 24) (bA 20 81919) rfl rfl (by kernel_rfl) (by decide) (fun KK hK => ?_)
    refine value_ (w1 := W5.alloc (.cells #[.int .u8 x.f0, .int .u8 x.f1, .slice A n c, .slice K m e] 42)) (v := .slice (some ⟨W5.heap.size, 0, none⟩) 1 1) (by rfl) rfl (by go_simp; done) ?_
    refine hK.out _ _ (rm_blw hHeld5 (below_alloc (Below.refl _ _) _)) (fun hHeld6 => ?_)
    clear hK KK
    refine nU ?_
    refine one_ (i := 14) (N := some 25) (bA 20 98303) rfl rfl (by kernel_rfl) (by decide) (fun KK hK => ?_)
    refine step_clip kC (W := W5) (by rfl) _ _ 26 42 _ 56 (by rfl) Tryz.underlying26 infoC rfl (by decide) (by decide) A3 n3 q x [.int .u8 x.f0, .int .u8 x.f1, .slice A n c, .slice K m e] (by rfl) (by rfl) (HQ.out _ hHeld5.1) (HX.out _ hHeld5.1) HA3.out (by have := HLEN.out; omega) ?_
    rintro A7 c7 W7 l7 r7 hb7
    have HR7 := hid r7
    have hS7 := rm_blw hHeld5 hb7
    clear r7 hb7 l7
    refine hK.out _ _ hS7 (fun hHeld7 => ?_)
    clear hK KK
    refine nU ?_
    refine last_ (i := 15) (N := some 26) (bA 20 131071) rfl rfl (by kernel_rfl) (by decide) (fun KK hK => ?_)
    refine goes_ Tryz.func15 (by kernel_rfl) rfl #[.slice A7 (n3 + 1) c7] (by rfl) rfl rfl (by simp only [List.map_toArray, List.map_cons, List.map_nil]; rfl) ?_
    refine Calls.mono (HSZ.out A7 c7 _ HR7.out) ?_
    rintro e8 W8 ⟨rfl, hb8⟩
    refine ⟨_, rfl, ?_⟩
    have hB8 := hid (cthen hHeld7.1 hb8)
    clear hb8
    refine hK.out _ _ ?_
    clear hK KK
    refine nU ?_
    refine pU 17 (some 28) (bA 20 262143) rfl rfl ?_
    refine pU 18 (some 29) (bA 20 524287) rfl rfl ?_
    refine pU 19 (some 6) (bA 20 1048575) rfl rfl ?_
    refine done_ (by kernel_rfl) ?_
    clear hS0 hHeld hS4 hHeld4 hS5 hHeld5 hHeld6 hS7 hHeld7
    go_wp2_with fail
    go_ret
    exact ⟨by simp, cthen BS.out hB8.out⟩
end Bn
end Go.Proofs.YtmfmomfhiieilaaGreatDoor
/- 'bundle.Of': the packets of any chunks that are not too much, or the error. -/
set_option linter.unusedVariables false
set_option linter.unusedSimpArgs false
namespace Go.Proofs.YtmfmomfhiieilaaGreatDoor
open Go.RowKit Go.Shelf Go.Proofs.YtmfmomfhiieilaaGreatDoor.It Go.Proofs.YtmfmomfhiieilaaGreatDoorW.PrintWords Go.Proofs.YtmfmomfhiieilaaGreatDoorW.PrintLast Go.Proofs.YtmfmomfhiieilaaGreatDoorW.PrintMore
namespace Bn
open PBundleSorted
/-- A chunk whose numbers are numbers of its fields' types, and that is not too much. -/
structure CkOk (x : Ck) : Prop where
  t0 : 0 ≤ x.f0
  t1 : x.f0 ≤ 255
  g0 : 0 ≤ x.f1
  g1 : x.f1 ≤ 255
  byt : Byt x.f2
  nds : okL x.f3
  len : x.f2.length ≤ 1000000
  cnt : cnts x.f3 ≤ 900
def cCode (x : Ck) : Int := pCk x.f0 x.f1 x.f2 x.f3
/-- The first chunk that is not right. -/
def fstBad : Nat → List Ck → Option (Int × Option Int)
  | _, [] => none
  | i, x :: l => if cCode x = 0 then fstBad (i + 1) l else some (cCode x, some (i : Int))
def ofErr (M : Int) (l : List Ck) : Option (Int × Option Int) := if M < 64 then some (11, none) else if 65535 < M then some (11, none) else fstBad 0 l
def outsC (M : Int) (l : List Ck) : List (List Ck) := Pkg.packs (fitC M) (roomC M) l
def rejC (M : Int) (l : List Ck) : List Ck := l.filter (fun x => !fitC M x)
/-- What 'bundle.Of' gives. -/
def OfP (s d g M : Int) (l : List Ck) (w : World) (e : Ending) (w' : World) : Prop :=
  (∀ er, ofErr M l = some er → e = .returned (.tuple #[.slice none 0 0, .slice none 0 0, eV (some er)])) ∧
  (ofErr M l = none → ∃ A c A2 c2, e = .returned (.tuple #[.slice A (outsC M l).length c, .slice A2 (rejC M l).length c2, .nilIface]) ∧ (outsC M l).length ≤ c ∧ kP.C w' A (outsC M l).length ((outsC M l).map (mkP s d g)) ∧ (rejC M l).length ≤ c2 ∧ CsC w' A2 (rejC M l).length (rejC M l)) ∧ Below w.heap.size w w'
theorem OfP.err {s d g M : Int} {l : List Ck} {w w' : World} {e : Ending} {er : Int × Option Int} (h : ofErr M l = some er) (he : e = .returned (.tuple #[.slice none 0 0, .slice none 0 0, eV (some er)])) (hb : Below w.heap.size w w') : OfP s d g M l w e w' :=
  ⟨fun er' h' => by rw [h] at h'; cases h'; exact he, fun h' => (by rw [h] at h'; cases h'), hb⟩
theorem fst_step (i : Nat) (l : List Ck) (h : i < l.length) : fstBad i (l.drop i) = if cCode l[i] = 0 then fstBad (i + 1) (l.drop (i + 1)) else some (cCode l[i], some (i : Int)) := by
  rw [List.drop_eq_getElem_cons h, fstBad]
theorem fits_eq (M : Int) (x : Ck) : decide (((12 + up (csz x) : Nat) : Int) ≤ M) = fitC M x := rfl
theorem outs_step (M : Int) (l : List Ck) (i : Nat) (h : i < l.length) : outsC M (l.take (i + 1)) = Pkg.stp (fitC M) (roomC M) (outsC M (l.take i)) l[i] := by
  unfold outsC
  rw [List.take_succ_eq_append_getElem h, Pkg.packs_snoc]
theorem rej_step (M : Int) (l : List Ck) (i : Nat) (h : i < l.length) : rejC M (l.take (i + 1)) = rejC M (l.take i) ++ (if fitC M l[i] = true then [] else [l[i]]) := by
  unfold rejC
  rw [List.take_succ_eq_append_getElem h, List.filter_append]
  by_cases hf : fitC M l[i] = true <;> simp [hf]
theorem outs_ok (M : Int) (l : List Ck) (h : ∀ x ∈ l, CkOk x) (hl : l.length ≤ 900) (i : Nat) : ∀ q ∈ outsC M (l.take i), q.length ≤ 900 ∧ ∀ x ∈ q, CkOk x := by
  intro q hq
  have := (Pkg.packs_len (fitC M) (roomC M) (l.take i)).2 q hq
  refine ⟨?_, fun x hx => h x (List.mem_of_mem_take (this.2 x hx))⟩
  have h1 := this.1
  rw [List.length_take] at h1
  omega
theorem okS_snoc (q : List Ck) (x : Ck) (h : q.length ≤ 900) (h1 : ∀ y ∈ q, CkOk y) (h2 : CkOk x) : OkS (q ++ [x]) := by
  refine ⟨by rw [List.length_append]; simp; omega, fun y hy => ?_⟩
  rcases List.mem_append.1 hy with hy | hy
  · exact ⟨(h1 y hy).len, (h1 y hy).cnt⟩
  · simp at hy; subst hy; exact ⟨h2.len, h2.cnt⟩
/-- A row of one that was just made. -/
theorem lit_one {α : Type} (dd : Kd α) {e : Nat} {W : World} {base : Nat} {x : α} {cs : List Value} (hM : dd.M W base (fun _ => True) x cs) (hb : base ≤ W.heap.size) : dd.R e (W.alloc (.cells cs.toArray e)) base (fun _ => True) (.slice (some ⟨W.heap.size, 0, none⟩) 1 1) [x] := by
  refine ⟨fun _ _ => trivial, ?_⟩
  have hl := dd.K_len (dd.K_of_M hM)
  have hM1 : dd.M W base (fun k => True ∧ some k ≠ some W.heap.size) x cs := dd.M_mono (fun k hk => ⟨trivial, by have := hk.2.2.1; intro e; injection e; omega⟩) (dd.M_bound hM)
  have hM2 := Kd.M_below hM1 (below_alloc (Below.refl W.heap.size W) (.cells cs.toArray e))
  have hr : Reps (dd.M (W.alloc (.cells cs.toArray e)) base (fun k => True ∧ some k ≠ some W.heap.size)) dd.sz [x] cs := by simpa using (Reps.none _ _).snoc hM2 hl
  exact OwnRow.lit W base hr hb (by simp)
set_option maxRecDepth 100000 in
set_option maxHeartbeats 16000000 in
/-- The first part: all chunks are looked at. -/
theorem of_any (s d g M : Int) (l : List Ck) (A : Option Addr) (n c : Nat) (w : World) (hg : GTab w) (hgl : GLg w) (hn : l.length = n) (hC : CsC w A n l) (hc : n ≤ c) (hl : n ≤ 900) (hok : ∀ x ∈ l, CkOk x) :
    Calls Tryz.prog 9 #[.agg #[.int .u16 s, .int .u16 d, .int .u32 g], .int .i64 M, .slice A n c] w (OfP s d g M l w) := by
  obtain ⟨w1, hw1⟩ : ∃ w1, w.alloc (.cells #[.int .u16 s, .int .u16 d, .int .u32 g] 25) = w1 := ⟨_, rfl⟩
  have HW := hid hw1
  have hb1 : Below w.heap.size w w1 := by rw [← hw1]; exact below_alloc (Below.refl _ _) _
  have hz1 : w1.heap.size = w.heap.size + 1 := by rw [← hw1, World.size_alloc]
  have HX1 := hid (show w1.heap[w.heap.size]? = some (.cells #[.int .u16 s, .int .u16 d, .int .u32 g] 25 (0, 0)) by rw [← hw1]; exact blk_new w _)
  have HB1 := hid hb1
  have HZ1 := hid hz1
  have HG := hid (hg.below hb1)
  have HGL := hid (hgl.below hb1)
  have HC := hid (Kd.C_below hC hb1)
  have HN := hid hn
  have HL := hid hl
  have HOK := hid hok
  clear hg hgl hn hC hl hok hb1 hz1 hw1
  by_cases hM1 : M < 64
  · have he : ofErr M l = some (11, none) := by unfold ofErr; rw [if_pos hM1]
    have HE := hid he
    clear he
    go_enter Tryz.func9, Tryz.ntmps9
    go_wp2_with fail
    rw [HW.out]
    refine wp_scope_straight ?_
    go_wp2_with fail
    go_ret3
    exact OfP.err HE.out rfl HB1.out
  by_cases hM2 : 65535 < M
  · have he : ofErr M l = some (11, none) := by unfold ofErr; rw [if_neg hM1, if_pos hM2]
    have HE := hid he
    clear he
    go_enter Tryz.func9, Tryz.ntmps9
    go_wp2_with fail
    rw [HW.out]
    refine wp_scope_straight ?_
    go_wp2_with fail
    go_ret3
    exact OfP.err HE.out rfl HB1.out
  have HE := hid (show ofErr M l = fstBad 0 (l.drop 0) by unfold ofErr; rw [if_neg hM1, if_neg hM2]; rfl)
  have HI0 := hid (Below.refl w1.heap.size w1)
  go_enter Tryz.func9, Tryz.ntmps9
  go_wp2_with fail
  rw [HW.out]
  refine wp_scope_straight ?_
  go_wp2_with fail
  go_loopw [28] (fun vi W => ∃ (i : Nat), vi = .int .i64 i ∧ i ≤ n ∧ Hid (ofErr M l = fstBad i (l.drop i)) ∧ Hid (Below w1.heap.size w1 W)) (fun vi _ => n - (intOf vi).toNat)
  case atStart => exact ⟨0, rfl, by omega, HE, HI0⟩
  case round =>
    obtain ⟨i, rfl, hi, hE, hI⟩ := hrel
    clear HI0 HE
    by_cases hlt : i < n
    · have hil : i < l.length := by have := HN.out; omega
      obtain ⟨b, off, B1, d1, B2, d2, rfl, k0, k1, k2, k3, l1, g1, l2, g2⟩ := chunk_at (Kd.C_below HC.out hI.out) i hil
      have hst := fst_step i l hil
      have hxo := HOK.out _ (List.getElem_mem hil)
      obtain ⟨x, hx⟩ : ∃ x, l[i] = x := ⟨_, rfl⟩
      rw [hx] at k0 k1 k2 k3 l1 g1 l2 g2 hst hxo
      obtain ⟨m1, hm1⟩ : ∃ m, x.f2.length = m := ⟨_, rfl⟩
      obtain ⟨m2, hm2⟩ : ∃ m, x.f3.length = m := ⟨_, rfl⟩
      have hck := fun W (hW : Below wr.heap.size wr W) => cCheck_any x.f0 x.f1 B1 B2 m1 d1 m2 d2 x.f2 x.f3 W hxo.t0 hxo.t1 (HG.out.below (cthen hI.out hW)) hm1 (g1.below hW) hxo.byt (by omega) (by have := hxo.len; omega) hm2 (by rw [← hm2]; exact Kd.C_below g2 hW) (by have := hxo.cnt; omega) hxo.nds
      have hco := fun W (hW : Below wr.heap.size wr W) => code_any (codeE (cCode x)) W (HG.out.below (cthen hI.out hW))
      change ∀ W, _ → Calls _ _ _ _ (ErrPost (codeE (cCode x)) W) at hck
      rw [hm1] at k2
      rw [hm2] at k3
      unfold ckV at hck
      have HWI := hid (show wrap64 ((i : Int) + 1) = ((i + 1 : Nat) : Int) by have := HL.out; unfold wrap64; omega)
      obtain ⟨r, hr⟩ : ∃ r, cCode x = r := ⟨_, rfl⟩
      rw [hr] at hst hck hco
      have HCK := hid hck
      have HCO := hid hco
      rw [← hE.out] at hst
      clear hx hxo hm1 hm2 hr hck hco g1 g2 l1 l2 hil hE
      by_cases h0 : r = 0
      · subst h0
        rw [if_pos rfl] at hst
        have HST := hid hst
        clear hst
        have hck := HCK.out (wr.alloc (.cells #[.int .u8 x.f0, .int .u8 x.f1, .slice B1 m1 d1, .slice B2 m2 d2] 42)) (below_alloc (Below.refl _ _) _)
        go_wp2_with fail
        refine hck.mono ?_
        rintro e W6 ⟨rfl, hb6⟩
        have HB6 := hid (show Below wr.heap.size wr W6 from cthen (below_alloc (Below.refl _ _) _) hb6)
        have hco := HCO.out W6 HB6.out
        clear hb6 hck k0 k1 k2 k3
        go_wp2_with fail
        refine hco.mono ?_
        rintro e W7 ⟨rfl, hb7⟩
        have HB7 := hid (cthen HB6.out hb7)
        clear hb7 hco
        have e1 : eCode (codeE 0) = 0 := rfl
        have e2 : (codeE 0).isSome = false := rfl
        rw [e1, e2]
        clear e1 e2
        go_wp2_with fail
        exact ⟨⟨i + 1, by rw [HWI.out], hlt, HST, hid (cthen hI.out HB7.out)⟩, by rw [HWI.out]; simp only [intOf, Int.toNat_natCast]; omega⟩
      · rw [if_neg h0] at hst
        have HST := hid hst
        clear hst
        have hck := HCK.out (wr.alloc (.cells #[.int .u8 x.f0, .int .u8 x.f1, .slice B1 m1 d1, .slice B2 m2 d2] 42)) (below_alloc (Below.refl _ _) _)
        go_wp2_with fail
        refine hck.mono ?_
        rintro e W6 ⟨rfl, hb6⟩
        have HB6 := hid (show Below wr.heap.size wr W6 from cthen (below_alloc (Below.refl _ _) _) hb6)
        have hco := HCO.out W6 HB6.out
        clear hb6 hck k0 k1 k2 k3
        go_wp2_with fail
        refine hco.mono ?_
        rintro e W7 ⟨rfl, hb7⟩
        have HB7 := hid (cthen HB6.out hb7)
        clear hb7 hco
        have e1 : eCode (codeE r) = r := by unfold codeE; rw [if_neg h0]; rfl
        have e2 : (codeE r).isSome = true := by unfold codeE; rw [if_neg h0]; rfl
        rw [e1, e2]
        clear e1 e2
        go_wp2_with fail
        refine (new_any r i W7).mono ?_
        rintro e W8 ⟨rfl, rfl⟩
        go_wp2_with fail
        go_ret3
        exact OfP.err HST.out rfl (HB1.out.trans ((cthen hI.out HB7.out).mono HB1.out.size))
    · obtain rfl : n = i := by omega
      have HST := hid (show ofErr M l = none by rw [hE.out, List.drop_of_length_le (by have := HN.out; omega)]; rfl)
      clear hE hM1 hM2
      have hOf := OfI.nil w1.heap.size s d g wr
      have HO0 := hid (show OfI w1.heap.size s d g (.slice none 0 0) (.slice none 0 0) (outsC M (l.take 0)) (rejC M (l.take 0)) wr from hOf)
      clear hOf hi hlt
      go_wp2_with fail
      refine wp_label ?_
      go_wp2_with fail
      go_loopw [13, 14, 46] (fun vo vr vi W => ∃ (i : Nat), vi = .int .i64 i ∧ i ≤ n ∧ Hid (OfI w1.heap.size s d g vo vr (outsC M (l.take i)) (rejC M (l.take i)) W) ∧ Hid (Below w1.heap.size w1 W)) (fun _ _ vi _ => n - (intOf vi).toNat)
      case atStart => exact ⟨0, rfl, by omega, HO0, hI⟩
      case round =>
        obtain ⟨i, rfl, hi, hO, hI2⟩ := hrel
        clear HO0 hI
        by_cases hlt : i < n
        · have hil : i < l.length := by have := HN.out; omega
          obtain ⟨b, off, B1, d1, B2, d2, rfl, k0, k1, k2, k3, l1, g1, l2, g2⟩ := chunk_at (Kd.C_below HC.out hI2.out) i hil
          have hso := outs_step M l i hil
          have hsr := rej_step M l i hil
          have HOK1 := hid (outs_ok M l HOK.out (by have := HL.out; have := HN.out; omega) i)
          have hol := (Pkg.packs_len (fitC M) (roomC M) (l.take i)).1
          rw [List.length_take] at hol
          have hne := (Pkg.gre_packs (fitC M) (roomC M) (l.take i)).1
          change ∀ q ∈ outsC M (l.take i), q ≠ [] at hne
          have hrl : (rejC M (l.take i)).length ≤ i := by
            have h := List.length_filter_le (fun x => !fitC M x) (l.take i)
            rw [List.length_take] at h
            unfold rejC
            omega
          change (outsC M (l.take i)).length ≤ _ at hol
          have hxo := HOK.out _ (List.getElem_mem hil)
          obtain ⟨x, hx⟩ : ∃ x, l[i] = x := ⟨_, rfl⟩
          rw [hx] at k0 k1 k2 k3 l1 g1 l2 g2 hso hsr hxo
          obtain ⟨outs, houts⟩ : ∃ o, outsC M (l.take i) = o := ⟨_, rfl⟩
          obtain ⟨rej, hrej⟩ : ∃ o, rejC M (l.take i) = o := ⟨_, rfl⟩
          rw [houts] at hso HOK1 hO hol hne
          have HNE := hid hne
          rw [hrej] at hsr hO hrl
          have HOL := hid (show outs.length ≤ 900 by have := HL.out; omega)
          have HRL := hid (show rej.length ≤ 900 by have := HL.out; omega)
          obtain ⟨m1, hm1⟩ : ∃ m, x.f2.length = m := ⟨_, rfl⟩
          obtain ⟨m2, hm2⟩ : ∃ m, x.f3.length = m := ⟨_, rfl⟩
          have hcl := cclone_any x.f0 x.f1 B1 B2 m1 d1 m2 d2 x.f2 x.f3 (wr.alloc (.cells #[.int .u8 x.f0, .int .u8 x.f1, .slice B1 m1 d1, .slice B2 m2 d2] 42)) hm1 (g1.below (below_alloc (Below.refl _ _) _)) (by omega) (by have := hxo.len; omega) hm2 (by rw [← hm2]; exact Kd.C_below g2 (below_alloc (Below.refl _ _) _)) (by omega) hxo.cnt
          rw [hm1] at k2
          rw [hm2] at k3
          have HWI := hid (show wrap64 ((i : Int) + 1) = ((i + 1 : Nat) : Int) by have := HL.out; unfold wrap64; omega)
          have BX := hid (blk_new wr (.cells #[.int .u8 x.f0, .int .u8 x.f1, .slice B1 m1 d1, .slice B2 m2 d2] 42))
          have HXO := hid hxo
          have HM1 := hid hm1
          have HM2 := hid hm2
          have HSO := hid hso
          have HSR := hid hsr
          have HBS := hid (show w1.heap.size ≤ wr.heap.size from hI2.out.size)
          have HXW := hid (blk_below HX1.out hI2.out)
          clear hx houts hrej hol hrl hxo hne hm1 hm2 g1 g2 l1 l2 hil hso hsr
          go_wp2_with fail
          refine hcl.mono ?_
          rintro e W3 ⟨v1, v2, rfl, hr1, hr2, hb3⟩
          rw [World.size_alloc] at hr1 hr2
          obtain ⟨A9, c9, rfl, -, -⟩ := Kd.R_reads hr1
          obtain ⟨K9, e9, rfl, -, -⟩ := Kd.R_reads hr2
          rw [HM1.out] at hr1
          rw [HM2.out] at hr2
          rw [HM1.out, HM2.out]
          have hbx3 := blk_below BX.out hb3
          obtain ⟨⟨r0, r1, r2, r3⟩, ⟨f0, f1, f2, f3⟩⟩ := four hbx3
          have hlt3 : wr.heap.size < W3.heap.size := blk_lt hbx3
          have hB4 : Below wr.heap.size wr (set4 W3 wr.heap.size (.int .u8 x.f0) (.int .u8 x.f1) (.slice A9 m1 c9) (.slice K9 m2 e9)) := set4_below (cthen (below_alloc (Below.refl _ _) _) hb3) (Nat.le_refl _)
          have hX4 : (set4 W3 wr.heap.size (.int .u8 x.f0) (.int .u8 x.f1) (.slice A9 m1 c9) (.slice K9 m2 e9)).heap[wr.heap.size]? = some (.cells #[.int .u8 x.f0, .int .u8 x.f1, .slice A9 m1 c9, .slice K9 m2 e9] 42 (0, 0)) := set_blk3 (set_blk3 (set_blk3 (set_blk3 hbx3 0 (.int .u8 x.f0)) 1 (.int .u8 x.f1)) 2 (.slice A9 m1 c9)) 3 (.slice K9 m2 e9)
          have hD4 := set4_R (base := wr.heap.size) (u0 := .int .u8 x.f0) (u1 := .int .u8 x.f1) (u2 := .slice A9 m1 c9) (u3 := .slice K9 m2 e9) hr1 (by omega) (Nat.lt_succ_self wr.heap.size)
          have hK4 := set4_R (base := wr.heap.size) (u0 := .int .u8 x.f0) (u1 := .int .u8 x.f1) (u2 := .slice A9 m1 c9) (u3 := .slice K9 m2 e9) hr2 (by omega) (Nat.lt_succ_self wr.heap.size)
          obtain ⟨W4, hW4⟩ : ∃ W4, set4 W3 wr.heap.size (.int .u8 x.f0) (.int .u8 x.f1) (.slice A9 m1 c9) (.slice K9 m2 e9) = W4 := ⟨_, rfl⟩
          rw [hW4] at hB4 hX4 hD4 hK4
          unfold set4 at hW4
          have HW4 := hid hW4
          have B4 := hid hB4
          have X4 := hid hX4
          have D4 := hid hD4
          have K4 := hid hK4
          clear hB4 hX4 hD4 hK4 hW4 hr1 hr2 hb3 hlt3 hcl k0 k1 k2 k3 hbx3
          go_upto_region 16 with fail
          rw [HW4.out]
          clear r0 r1 r2 r3 f0 f1 f2 f3 HW4
          obtain ⟨⟨y0, y1, y2, y3⟩, -⟩ := four X4.out
          have HA9 := hid (show BC W4 A9 x.f2 ∧ m1 ≤ c9 ∧ Kd.C k87 W4 K9 m2 x.f3 ∧ m2 ≤ e9 from ⟨by obtain ⟨A, c, e, l, r⟩ := Kd.R_reads D4.out; injection e with e1 e2 e3; subst e1; exact r, by obtain ⟨A, c, e, l, r⟩ := Kd.R_reads D4.out; injection e with e1 e2 e3; omega, by obtain ⟨A, c, e, l, r⟩ := Kd.R_reads K4.out; injection e with e1 e2 e3; subst e1; rw [← HM2.out]; exact r, by obtain ⟨A, c, e, l, r⟩ := Kd.R_reads K4.out; injection e with e1 e2 e3; omega⟩)
          have hft := fits_any M x A9 K9 m1 c9 m2 e9 W4 HM1.out HM2.out HA9.out.1 HA9.out.2.1 HA9.out.2.2.1 HA9.out.2.2.2 ⟨HXO.out.len, HXO.out.cnt⟩
          rw [fits_eq] at hft
          unfold ckV at hft
          obtain ⟨ft, hfe⟩ : ∃ ft, fitC M x = ft := ⟨_, rfl⟩
          have HFE := hid hfe
          rw [hfe] at hft
          clear hfe
          cases ft with
          | false =>
            have HSO2 := hid (show outsC M (l.take (i + 1)) = outs by rw [HSO.out]; unfold Pkg.stp; rw [HFE.out, if_neg (by decide)])
            have HSR2 := hid (show rejC M (l.take (i + 1)) = rej ++ [x] by rw [HSR.out, HFE.out, if_neg (by decide)])
            obtain ⟨Ao, co, Ar, cr, rfl, -, -, rfl, -, -⟩ := OfI.reads hO.out
            obtain ⟨no, hno⟩ : ∃ no, outs.length = no := ⟨_, rfl⟩
            obtain ⟨nr, hnr⟩ : ∃ nr, rej.length = nr := ⟨_, rfl⟩
            rw [hno, hnr] at hO
            rw [hno, hnr]
            have HNR := hid hnr
            clear hno hnr
            go_wp2_with fail
            refine hft.mono ?_
            rintro e W5 ⟨rfl, hb5⟩
            have HB5 := hid (cthen B4.out hb5)
            obtain ⟨ok, hk1, hk2, hk3, hk4⟩ := OfI.rej_ready hO.out HB5.out
            have HMx := hid (k42_mkM W5 w1.heap.size (fun k => wr.heap.size ≤ k) x (Kd.R_lower (Kd.R_mono (Kd.R_bound (Kd.R_below D4.out hb5)) (fun k hk => hk.2.1)) HBS.out) (Kd.R_lower (Kd.R_mono (Kd.R_bound (Kd.R_below K4.out hb5)) (fun k hk => hk.2.1)) HBS.out))
            have HK1 := hid hk1
            have HK2 := hid hk2
            have HK3 := hid hk3
            have HK4 := hid hk4
            obtain ⟨⟨z0, z1, z2, z3⟩, -⟩ := four (blk_below X4.out hb5)
            have HBZ := hid (show w1.heap.size ≤ W5.heap.size from Nat.le_trans HBS.out HB5.out.size)
            clear hft y0 y1 y2 y3 hk1 hk2 hk3 hk4 hb5
            go_wp2_with (at_builtin; go_loud (refine Kd.R_append kC (w0 := W5) (W := W5) w1.heap.size rfl _ _ 26 42 _ 56 rfl Tryz.underlying26 infoC rfl (by decide) (by decide) (.slice Ar nr cr) rej x [.int .u8 x.f0, .int .u8 x.f1, .slice A9 m1 c9, .slice K9 m2 e9] ok (fun k => wr.heap.size ≤ k) rfl rfl HMx.out HK2.out HK3.out HK1.out (Below.refl _ _) HBZ.out (by have := HRL.out; omega) ?_); intro v9 w9 hR9 hB9 hG9 hA9; have HR9 := hid hR9; have HB9 := hid hB9; have HG9 := hid hG9; clear hR9 hB9 hG9 hA9)
            have hO9 := HK4.out v9 w9 _ HR9.out HG9.out
            rw [← HSO2.out, ← HSR2.out] at hO9
            exact ⟨⟨i + 1, by rw [HWI.out], hlt, hid hO9, hid ((cthen hI2.out HB5.out).trans HB9.out)⟩, by rw [HWI.out]; simp only [intOf, Int.toNat_natCast]; omega⟩
          | true =>
            have HSR2 := hid (show rejC M (l.take (i + 1)) = rej by rw [HSR.out, HFE.out, if_pos rfl, List.append_nil])
            rcases List.eq_nil_or_concat outs with rfl | ⟨ds, q, rfl⟩
            · have HSO2 := hid (show outsC M (l.take (i + 1)) = [] ++ [[x]] by rw [HSO.out, Pkg.stp_nil _ _ _ HFE.out]; rfl)
              obtain ⟨Ao, co, Ar, cr, rfl, -, -, rfl, -, -⟩ := OfI.reads hO.out
              obtain ⟨nr, hnr⟩ : ∃ nr, rej.length = nr := ⟨_, rfl⟩
              rw [hnr] at hO
              rw [hnr]
              have HNR := hid hnr
              clear hnr
              rw [List.length_nil] at hO ⊢
              go_wp2_with fail
              refine hft.mono ?_
              rintro e W5 ⟨rfl, hb5⟩
              have HB5 := hid (cthen B4.out hb5)
              have HB6 := hid (cthen HB5.out (below_drew (Below.refl W5.heap.size W5) 1))
              have X5 := hid (blk_below X4.out hb5)
              have D5 := hid (Kd.R_below D4.out hb5)
              have K5 := hid (Kd.R_below K4.out hb5)
              have hS0 : Below W5.heap.size W5 W5.drew ∧ True := ⟨below_drew (Below.refl _ _) 1, trivial⟩
              clear hft y0 y1 y2 y3 hb5
              go_upto_region 19 with fail
              refine start_ (n := 12) (S := (fun W => Below W5.heap.size W5 W ∧ True)) (ds := []) (bA 12 0) (by kernel_rfl) rfl rfl hS0 (fun hHeld => ?_)
              generalize W5.drew = w44 at hS0 hHeld ⊢
              refine pU 0 (some 65) (bA 12 1) rfl rfl ?_
              refine pU 1 (some 66) (bA 12 3) rfl rfl ?_
              refine pU 2 (some 67) (bA 12 7) rfl rfl ?_
              refine pure_ (i := 3) (N := some 68) (v := undef) (a' := ?_) (bA 12 15) rfl rfl (by kernel_rfl) (fun _ _ _ h => h) (Or.inr ⟨by rfl, rfl⟩) ?_ ?_
              rotate_left
              · simp only [Act.put, sA, s0, sS, i64_w, i32_w]
                rfl
              refine pure_ (i := 4) (N := some 69) (v := undef) (a' := ?_) (bA 12 31) rfl rfl (by kernel_rfl) (fun _ _ _ h => h) (Or.inr ⟨by rfl, rfl⟩) ?_ ?_
              rotate_left
              · simp only [Act.put, sA, s0, sS, i64_w, i32_w]
                rfl
              refine pure_ (i := 5) (N := some 70) (v := undef) (a' := ?_) (bA 12 63) rfl rfl (by kernel_rfl) (fun _ _ _ h => h) (Or.inr ⟨by rfl, rfl⟩) ?_ ?_
              rotate_left
              · simp only [Act.put, sA, s0, sS, i64_w, i32_w]
                rfl
              refine pure_ (i := 6) (N := some 71) (v := undef) (a' := ?_) (bA 12 127) rfl rfl (by kernel_rfl) (fun _ _ _ h => h) (Or.inr ⟨by rfl, rfl⟩) ?_ ?_
              rotate_left
              · simp only [Act.put, sA, s0, sS, i64_w, i32_w]
                rfl
              refine pure_ (i := 7) (N := some 72) (v := undef) (a' := ?_) (bA 12 255) rfl rfl (by kernel_rfl) (fun _ _ _ h => h) (Or.inr ⟨by rfl, rfl⟩) ?_ ?_
              rotate_left
              · simp only [Act.put, sA, s0, sS, i64_w, i32_w]
                rfl
              refine pure_ (i := 8) (N := some 73) (v := undef) (a' := ?_) (bA 12 511) rfl rfl (by kernel_rfl) (fun _ _ _ h => h) (Or.inr ⟨by rfl, rfl⟩) ?_ ?_
              rotate_left
              · simp only [Act.put, sA, s0, sS, i64_w, i32_w]
                rfl
              refine pure_ (i := 9) (N := some 74) (v := undef) (a' := ?_) (bA 12 1023) rfl rfl (by kernel_rfl) (fun _ _ _ h => h) (Or.inr ⟨by rfl, rfl⟩) ?_ ?_
              rotate_left
              · simp only [Act.put, sA, s0, sS, i64_w, i32_w]
                rfl
              refine pU 10 (some 75) (bA 12 2047) rfl rfl ?_
              refine pU 11 (some 64) (bA 12 4095) rfl rfl ?_
              refine done_ (by kernel_rfl) ?_
              have HB6 := hid (cthen HB5.out hHeld.1)
              have X6 := hid (blk_below X5.out hHeld.1)
              have D6 := hid (Kd.R_below D5.out hHeld.1)
              have K6 := hid (Kd.R_below K5.out hHeld.1)
              clear hS0 hHeld
              have hdr := blk_below HXW.out HB6.out
              obtain ⟨⟨t0, t1, t2⟩, -⟩ := three hdr
              have hX6 := X6.out
              obtain ⟨ty, hty⟩ : ∃ ty, x.f0 = ty := ⟨_, rfl⟩
              rw [hty] at hX6
              have HTY := hid hty
              obtain ⟨⟨z0, z1, z2, z3⟩, -⟩ := four hX6
              clear hdr hX6 hty
              by_cases h1 : ty = 1
              · subst h1
                have q0 := pw_cell_below (below_alloc (below_alloc (Below.refl _ _) (.cells #[.int .u8 1, .int .u8 x.f1, .slice A9 m1 c9, .slice K9 m2 e9] 42)) (.cells #[.int .u16 s, .int .u16 d, .int .u32 g, .slice (some ⟨w44.heap.size, 0, none⟩) 1 1] 38)) z0
                have hb7 : Below w44.heap.size w44 ((w44.alloc (.cells #[.int .u8 1, .int .u8 x.f1, .slice A9 m1 c9, .slice K9 m2 e9] 42)).alloc (.cells #[.int .u16 s, .int .u16 d, .int .u32 0, .slice (some ⟨w44.heap.size, 0, none⟩) 1 1] 38)) := below_alloc (below_alloc (Below.refl _ _) _) _
                have hM6 := kC.M_mono (fun _ _ => trivial) (k42_mkM w44 wr.heap.size (fun _ => True) x D6.out K6.out)
                rw [HTY.out] at hM6
                have hR7 := Kd.R_below (lit_one kC (e := 42) hM6 HB6.out.size) (below_alloc (Below.refl _ _) (.cells #[.int .u16 s, .int .u16 d, .int .u32 0, .slice (some ⟨w44.heap.size, 0, none⟩) 1 1] 38))
                have hW7 := cthen HB6.out hb7
                obtain ⟨inner, hown, hop⟩ := OfI.open_ready hO.out hW7 HBS.out hR7
                rw [List.length_nil] at hown hop
                have htg : tg g [x] = 0 := by show (if x.f0 = 1 then 0 else g) = 0; rw [if_pos HTY.out]
                rw [htg] at hop
                have HOWN := hid hown
                have HOP := hid hop
                have HW7 := hid hW7
                have HBZ := hid (show w1.heap.size ≤ ((w44.alloc (.cells #[.int .u8 1, .int .u8 x.f1, .slice A9 m1 c9, .slice K9 m2 e9] 42)).alloc (.cells #[.int .u16 s, .int .u16 d, .int .u32 0, .slice (some ⟨w44.heap.size, 0, none⟩) 1 1] 38)).heap.size from Nat.le_trans HBS.out hW7.size)
                clear hb7 hM6 hR7 hW7 hown hop htg
                go_wp2_with (at_builtin; go_loud (refine print_append_cells (w0 := (w44.alloc (.cells #[.int .u8 1, .int .u8 x.f1, .slice A9 m1 c9, .slice K9 m2 e9] 42)).alloc (.cells #[.int .u16 s, .int .u16 d, .int .u32 0, .slice (some ⟨w44.heap.size, 0, none⟩) 1 1] 38)) (W := (w44.alloc (.cells #[.int .u8 1, .int .u8 x.f1, .slice A9 m1 c9, .slice K9 m2 e9] 42)).alloc (.cells #[.int .u16 s, .int .u16 d, .int .u32 0, .slice (some ⟨w44.heap.size, 0, none⟩) 1 1] 38)) w1.heap.size rfl _ _ 29 38 _ 4 32 rfl Tryz.underlying29 infoP rfl (by decide) (by decide) (.slice Ao 0 co) 0 inner [.int .u16 s, .int .u16 d, .int .u32 0, .slice (some ⟨w44.heap.size, 0, none⟩) 1 1] rfl (by simp only [World.size_alloc]; rfl) rfl (by intro u hu; simp only [List.mem_cons, List.not_mem_nil, or_false] at hu; rcases hu with rfl | rfl | rfl | rfl <;> rfl) HOWN.out (Below.refl _ _) HBZ.out (by have := HOL.out; rw [List.length_nil] at this; omega) ?_); intro v9 w9 hN9 hB9 hG9 hA9; have HN9 := hid hN9; have HB9 := hid hB9; have HG9 := hid hG9; clear hN9 hB9 hG9 hA9)
                have hO9 := HOP.out v9 w9 HN9.out HG9.out
                rw [← HSO2.out, ← HSR2.out] at hO9
                exact ⟨⟨i + 1, by rw [HWI.out], hlt, hid hO9, hid ((cthen hI2.out HW7.out).trans HB9.out)⟩, by rw [HWI.out]; simp only [intOf, Int.toNat_natCast]; omega⟩
              · have q0 := pw_cell_below (below_alloc (below_alloc (Below.refl _ _) (.cells #[.int .u8 ty, .int .u8 x.f1, .slice A9 m1 c9, .slice K9 m2 e9] 42)) (.cells #[.int .u16 s, .int .u16 d, .int .u32 g, .slice (some ⟨w44.heap.size, 0, none⟩) 1 1] 38)) z0
                have hb7 : Below w44.heap.size w44 ((w44.alloc (.cells #[.int .u8 ty, .int .u8 x.f1, .slice A9 m1 c9, .slice K9 m2 e9] 42)).alloc (.cells #[.int .u16 s, .int .u16 d, .int .u32 g, .slice (some ⟨w44.heap.size, 0, none⟩) 1 1] 38)) := below_alloc (below_alloc (Below.refl _ _) _) _
                have hM6 := kC.M_mono (fun _ _ => trivial) (k42_mkM w44 wr.heap.size (fun _ => True) x D6.out K6.out)
                rw [HTY.out] at hM6
                have hR7 := Kd.R_below (lit_one kC (e := 42) hM6 HB6.out.size) (below_alloc (Below.refl _ _) (.cells #[.int .u16 s, .int .u16 d, .int .u32 g, .slice (some ⟨w44.heap.size, 0, none⟩) 1 1] 38))
                have hW7 := cthen HB6.out hb7
                obtain ⟨inner, hown, hop⟩ := OfI.open_ready hO.out hW7 HBS.out hR7
                rw [List.length_nil] at hown hop
                have htg : tg g [x] = g := by show (if x.f0 = 1 then 0 else g) = g; rw [if_neg (by rw [HTY.out]; exact h1)]
                rw [htg] at hop
                have HOWN := hid hown
                have HOP := hid hop
                have HW7 := hid hW7
                have HBZ := hid (show w1.heap.size ≤ ((w44.alloc (.cells #[.int .u8 ty, .int .u8 x.f1, .slice A9 m1 c9, .slice K9 m2 e9] 42)).alloc (.cells #[.int .u16 s, .int .u16 d, .int .u32 g, .slice (some ⟨w44.heap.size, 0, none⟩) 1 1] 38)).heap.size from Nat.le_trans HBS.out hW7.size)
                clear hb7 hM6 hR7 hW7 hown hop htg
                go_wp2_with (at_builtin; go_loud (refine print_append_cells (w0 := (w44.alloc (.cells #[.int .u8 ty, .int .u8 x.f1, .slice A9 m1 c9, .slice K9 m2 e9] 42)).alloc (.cells #[.int .u16 s, .int .u16 d, .int .u32 g, .slice (some ⟨w44.heap.size, 0, none⟩) 1 1] 38)) (W := (w44.alloc (.cells #[.int .u8 ty, .int .u8 x.f1, .slice A9 m1 c9, .slice K9 m2 e9] 42)).alloc (.cells #[.int .u16 s, .int .u16 d, .int .u32 g, .slice (some ⟨w44.heap.size, 0, none⟩) 1 1] 38)) w1.heap.size rfl _ _ 29 38 _ 4 32 rfl Tryz.underlying29 infoP rfl (by decide) (by decide) (.slice Ao 0 co) 0 inner [.int .u16 s, .int .u16 d, .int .u32 g, .slice (some ⟨w44.heap.size, 0, none⟩) 1 1] rfl (by simp only [World.size_alloc]; rfl) rfl (by intro u hu; simp only [List.mem_cons, List.not_mem_nil, or_false] at hu; rcases hu with rfl | rfl | rfl | rfl <;> rfl) HOWN.out (Below.refl _ _) HBZ.out (by have := HOL.out; rw [List.length_nil] at this; omega) ?_); intro v9 w9 hN9 hB9 hG9 hA9; have HN9 := hid hN9; have HB9 := hid hB9; have HG9 := hid hG9; clear hN9 hB9 hG9 hA9)
                have hO9 := HOP.out v9 w9 HN9.out HG9.out
                rw [← HSO2.out, ← HSR2.out] at hO9
                exact ⟨⟨i + 1, by rw [HWI.out], hlt, hid hO9, hid ((cthen hI2.out HW7.out).trans HB9.out)⟩, by rw [HWI.out]; simp only [intOf, Int.toNat_natCast]; omega⟩
            · obtain ⟨okl, bo, cap, vl, hvo, -⟩ := OfI.join_ready (by rw [← List.concat_eq_append]; exact hO.out) B4.out
              subst hvo
              have hqm := HOK1.out q (by simp)
              have hqn := HNE.out q (by simp)
              obtain ⟨Ao, co, Ar, cr, -, -, -, rfl, -, -⟩ := OfI.reads hO.out
              rw [List.concat_eq_append] at hO HSO
              obtain ⟨k, hk⟩ : ∃ k, ds.length = k := ⟨_, rfl⟩
              obtain ⟨nq, hnq⟩ : ∃ nq, q.length = nq := ⟨_, rfl⟩
              obtain ⟨nr, hnr⟩ : ∃ nr, rej.length = nr := ⟨_, rfl⟩
              have hlo : (ds ++ [q]).length = k + 1 := by rw [List.length_append, hk]; rfl
              have HLO := hid hlo
              have HK1 := hid (show k + 1 ≤ 900 by have h := HOL.out; rw [List.concat_eq_append, hlo] at h; exact h)
              rw [hk, hnr] at hO
              rw [hk, hnr]
              have HQM := hid hqm
              have HQN := hid hqn
              have HKK := hid hk
              have HNQ := hid hnq
              have HNR := hid hnr
              have hkl : (k : Int) < (k : Int) + 1 := by omega
              have hwn : wrap64 (k : Int) = (k : Int) := by have := HK1.out; unfold wrap64; omega
              clear hk hnq hnr hlo hqm hqn HOL
              go_wp2_with fail
              refine hft.mono ?_
              rintro e W5 ⟨rfl, hb5⟩
              have HB5 := hid (cthen B4.out hb5)
              have HB45 := hid hb5
              have X5 := hid (blk_below X4.out hb5)
              have D5 := hid (Kd.R_below D4.out hb5)
              have K5 := hid (Kd.R_below K4.out hb5)
              obtain ⟨ok5, bo5, cap5, vl5, hvo5, p0, p1, p2, p3, hRl5, -, -, -, -, -⟩ := OfI.join_ready hO.out HB5.out
              injection hvo5 with e1 e2 e3
              injection e1 with e1
              injection e1 with e1 e4 e5
              subst e1
              clear e2 e3 e4 e5
              rw [HKK.out] at p0 p1 p2 p3
              obtain ⟨A3, c3, rfl, l3, r3⟩ := Kd.R_reads hRl5
              rw [HNQ.out] at p3 l3 r3
              have HRM := hid (fun W (hW : Below W5.heap.size W5 W) => room_any M s d (tg g q) q x A3 A9 K9 nq c3 m1 c9 m2 e9 W (HGL.out.below (cthen hI2.out (cthen HB5.out hW))) HNQ.out (Kd.C_below r3 hW) l3 HM1.out HM2.out (HA9.out.1.below (cthen HB45.out hW)) HA9.out.2.1 (Kd.C_below HA9.out.2.2.1 (cthen HB45.out hW)) HA9.out.2.2.2 (okS_snoc q x HQM.out.1 HQM.out.2 HXO.out))
              obtain ⟨⟨z0, z1, z2, z3⟩, -⟩ := four X5.out
              have hS0 : Below W5.heap.size W5 W5.drew ∧ W5.drew.cell? ⟨bo, k * 4, none⟩ = some (.int .u16 s) ∧ W5.drew.cell? ⟨bo, k * 4 + 1, none⟩ = some (.int .u16 d) ∧ W5.drew.cell? ⟨bo, k * 4 + 2, none⟩ = some (.int .u32 (tg g q)) ∧ W5.drew.cell? ⟨bo, k * 4 + 3, none⟩ = some (.slice A3 nq c3) ∧ W5.drew.cell? ⟨wr.heap.size, 0, none⟩ = some (.int .u8 x.f0) ∧ W5.drew.cell? ⟨wr.heap.size, 1, none⟩ = some (.int .u8 x.f1) ∧ W5.drew.cell? ⟨wr.heap.size, 2, none⟩ = some (.slice A9 m1 c9) ∧ W5.drew.cell? ⟨wr.heap.size, 3, none⟩ = some (.slice K9 m2 e9) := ⟨below_drew (Below.refl _ _) 1, p0, p1, p2, p3, z0, z1, z2, z3⟩
              have R3 := hid r3
              have L3 := hid l3
              clear hft y0 y1 y2 y3 hb5 p0 p1 p2 p3 z0 z1 z2 z3 hRl5 r3 l3
              obtain ⟨rb, hrb⟩ : ∃ rb, roomC M q x = rb := ⟨_, rfl⟩
              simp only [hrb] at HRM
              have HRB := hid hrb
              clear hrb
              go_upto_region 19 with fail
              refine start_ (n := 12) (S := (fun W => Below W5.heap.size W5 W ∧ W.cell? ⟨bo, k * 4, none⟩ = some (.int .u16 s) ∧ W.cell? ⟨bo, k * 4 + 1, none⟩ = some (.int .u16 d) ∧ W.cell? ⟨bo, k * 4 + 2, none⟩ = some (.int .u32 (tg g q)) ∧ W.cell? ⟨bo, k * 4 + 3, none⟩ = some (.slice A3 nq c3) ∧ W.cell? ⟨wr.heap.size, 0, none⟩ = some (.int .u8 x.f0) ∧ W.cell? ⟨wr.heap.size, 1, none⟩ = some (.int .u8 x.f1) ∧ W.cell? ⟨wr.heap.size, 2, none⟩ = some (.slice A9 m1 c9) ∧ W.cell? ⟨wr.heap.size, 3, none⟩ = some (.slice K9 m2 e9))) (ds := [9]) (bA 12 0) (by kernel_rfl) rfl rfl hS0 (fun hHeld => ?_)
              generalize W5.drew = w44 at hS0 hHeld ⊢
              refine pU 0 (some 65) (bA 12 1) rfl rfl ?_
              refine pU 1 (some 66) (bA 12 3) rfl rfl ?_
              refine pU 2 (some 67) (bA 12 7) rfl rfl ?_
              refine pU 3 (some 68) (bA 12 15) rfl rfl ?_
              refine pU 4 (some 69) (bA 12 31) rfl rfl ?_
              refine pU 5 (some 70) (bA 12 63) rfl rfl ?_
              refine pU 6 (some 71) (bA 12 127) rfl rfl ?_
              refine tU 7 (some 72) (bA 12 255) rfl rfl hHeld (by rintro w' ⟨q0, q1, q2, q3, q4, q5, q6, q7, q8⟩; go_simp; with_reducible rfl) ?_
              refine tU 8 (some 73) (bA 12 511) rfl rfl hHeld (by rintro w' ⟨q0, q1, q2, q3, q4, q5, q6, q7, q8⟩; go_simp; with_reducible rfl) ?_
              refine last_ (i := 9) (N := some 74) (bA 12 1023) rfl rfl (by kernel_rfl) (by decide) (fun KK hK => ?_)
              refine goes_ Tryz.func29 (by kernel_rfl) rfl #[.int .i64 M, .agg #[.int .u16 s, .int .u16 d, .int .u32 (tg g q), .slice A3 nq c3], .agg #[.int .u8 x.f0, .int .u8 x.f1, .slice A9 m1 c9, .slice K9 m2 e9]] (by rfl) rfl rfl (by simp only [List.map_toArray, List.map_cons, List.map_nil]; rfl) ?_
              refine Calls.mono (HRM.out _ hHeld.1) ?_
              rintro e6 W6 ⟨rfl, hb6⟩
              refine ⟨_, rfl, ?_⟩
              have HB56 := hid (cthen hHeld.1 hb6)
              clear hb6
              refine hK.out _ _ ?_
              clear hK KK
              refine nU ?_
              refine pU 10 (some 75) (bA 12 2047) rfl rfl ?_
              refine pU 11 (some 64) (bA 12 4095) rfl rfl ?_
              refine done_ (by kernel_rfl) ?_
              have HB6 := hid (cthen HB5.out HB56.out)
              have X6 := hid (blk_below X5.out HB56.out)
              have D6 := hid (Kd.R_below D5.out HB56.out)
              have K6 := hid (Kd.R_below K5.out HB56.out)
              clear hS0 hHeld
              cases rb with
              | false =>
                have HSO2 := hid (show outsC M (l.take (i + 1)) = (ds ++ [q]) ++ [[x]] by rw [HSO.out, Pkg.stp_app _ _ _ _ _ HFE.out, if_neg (by rw [HRB.out]; decide)]; simp)
                have HOL := hid (show (ds ++ [q]).length ≤ 900 by rw [HLO.out]; have := HK1.out; omega)
                have hdr := blk_below HXW.out HB6.out
                obtain ⟨⟨t0, t1, t2⟩, -⟩ := three hdr
                have hX6 := X6.out
                obtain ⟨ty, hty⟩ : ∃ ty, x.f0 = ty := ⟨_, rfl⟩
                rw [hty] at hX6
                have HTY := hid hty
                obtain ⟨⟨z0, z1, z2, z3⟩, -⟩ := four hX6
                clear hdr hX6 hty
                by_cases h1 : ty = 1
                · subst h1
                  have q0 := pw_cell_below (below_alloc (below_alloc (Below.refl _ _) (.cells #[.int .u8 1, .int .u8 x.f1, .slice A9 m1 c9, .slice K9 m2 e9] 42)) (.cells #[.int .u16 s, .int .u16 d, .int .u32 g, .slice (some ⟨W6.heap.size, 0, none⟩) 1 1] 38)) z0
                  have hb7 : Below W6.heap.size W6 ((W6.alloc (.cells #[.int .u8 1, .int .u8 x.f1, .slice A9 m1 c9, .slice K9 m2 e9] 42)).alloc (.cells #[.int .u16 s, .int .u16 d, .int .u32 0, .slice (some ⟨W6.heap.size, 0, none⟩) 1 1] 38)) := below_alloc (below_alloc (Below.refl _ _) _) _
                  have hM6 := kC.M_mono (fun _ _ => trivial) (k42_mkM W6 wr.heap.size (fun _ => True) x D6.out K6.out)
                  rw [HTY.out] at hM6
                  have hR7 := Kd.R_below (lit_one kC (e := 42) hM6 HB6.out.size) (below_alloc (Below.refl _ _) (.cells #[.int .u16 s, .int .u16 d, .int .u32 0, .slice (some ⟨W6.heap.size, 0, none⟩) 1 1] 38))
                  have hW7 := cthen HB6.out hb7
                  obtain ⟨inner, hown, hop⟩ := OfI.open_ready hO.out hW7 HBS.out hR7
                  rw [HLO.out] at hown hop
                  have htg : tg g [x] = 0 := by show (if x.f0 = 1 then 0 else g) = 0; rw [if_pos HTY.out]
                  rw [htg] at hop
                  have HOWN := hid hown
                  have HOP := hid hop
                  have HW7 := hid hW7
                  have HBZ := hid (show w1.heap.size ≤ ((W6.alloc (.cells #[.int .u8 1, .int .u8 x.f1, .slice A9 m1 c9, .slice K9 m2 e9] 42)).alloc (.cells #[.int .u16 s, .int .u16 d, .int .u32 0, .slice (some ⟨W6.heap.size, 0, none⟩) 1 1] 38)).heap.size from Nat.le_trans HBS.out hW7.size)
                  clear hb7 hM6 hR7 hW7 hown hop htg
                  go_wp2_with (at_builtin; go_loud (refine print_append_cells (w0 := (W6.alloc (.cells #[.int .u8 1, .int .u8 x.f1, .slice A9 m1 c9, .slice K9 m2 e9] 42)).alloc (.cells #[.int .u16 s, .int .u16 d, .int .u32 0, .slice (some ⟨W6.heap.size, 0, none⟩) 1 1] 38)) (W := (W6.alloc (.cells #[.int .u8 1, .int .u8 x.f1, .slice A9 m1 c9, .slice K9 m2 e9] 42)).alloc (.cells #[.int .u16 s, .int .u16 d, .int .u32 0, .slice (some ⟨W6.heap.size, 0, none⟩) 1 1] 38)) w1.heap.size rfl _ _ 29 38 _ 4 32 rfl Tryz.underlying29 infoP rfl (by decide) (by decide) (.slice (some ⟨bo, 0, none⟩) (k + 1) cap) (k + 1) inner [.int .u16 s, .int .u16 d, .int .u32 0, .slice (some ⟨W6.heap.size, 0, none⟩) 1 1] rfl (by simp only [World.size_alloc]; rfl) rfl (by intro u hu; simp only [List.mem_cons, List.not_mem_nil, or_false] at hu; rcases hu with rfl | rfl | rfl | rfl <;> rfl) HOWN.out (Below.refl _ _) HBZ.out (by have := HOL.out; rw [HLO.out] at this; omega) ?_); intro v9 w9 hN9 hB9 hG9 hA9; have HN9 := hid hN9; have HB9 := hid hB9; have HG9 := hid hG9; clear hN9 hB9 hG9 hA9)
                  have hO9 := HOP.out v9 w9 HN9.out HG9.out
                  rw [← HSO2.out, ← HSR2.out] at hO9
                  exact ⟨⟨i + 1, by rw [HWI.out], hlt, hid hO9, hid ((cthen hI2.out HW7.out).trans HB9.out)⟩, by rw [HWI.out]; simp only [intOf, Int.toNat_natCast]; omega⟩
                · have q0 := pw_cell_below (below_alloc (below_alloc (Below.refl _ _) (.cells #[.int .u8 ty, .int .u8 x.f1, .slice A9 m1 c9, .slice K9 m2 e9] 42)) (.cells #[.int .u16 s, .int .u16 d, .int .u32 g, .slice (some ⟨W6.heap.size, 0, none⟩) 1 1] 38)) z0
                  have hb7 : Below W6.heap.size W6 ((W6.alloc (.cells #[.int .u8 ty, .int .u8 x.f1, .slice A9 m1 c9, .slice K9 m2 e9] 42)).alloc (.cells #[.int .u16 s, .int .u16 d, .int .u32 g, .slice (some ⟨W6.heap.size, 0, none⟩) 1 1] 38)) := below_alloc (below_alloc (Below.refl _ _) _) _
                  have hM6 := kC.M_mono (fun _ _ => trivial) (k42_mkM W6 wr.heap.size (fun _ => True) x D6.out K6.out)
                  rw [HTY.out] at hM6
                  have hR7 := Kd.R_below (lit_one kC (e := 42) hM6 HB6.out.size) (below_alloc (Below.refl _ _) (.cells #[.int .u16 s, .int .u16 d, .int .u32 g, .slice (some ⟨W6.heap.size, 0, none⟩) 1 1] 38))
                  have hW7 := cthen HB6.out hb7
                  obtain ⟨inner, hown, hop⟩ := OfI.open_ready hO.out hW7 HBS.out hR7
                  rw [HLO.out] at hown hop
                  have htg : tg g [x] = g := by show (if x.f0 = 1 then 0 else g) = g; rw [if_neg (by rw [HTY.out]; exact h1)]
                  rw [htg] at hop
                  have HOWN := hid hown
                  have HOP := hid hop
                  have HW7 := hid hW7
                  have HBZ := hid (show w1.heap.size ≤ ((W6.alloc (.cells #[.int .u8 ty, .int .u8 x.f1, .slice A9 m1 c9, .slice K9 m2 e9] 42)).alloc (.cells #[.int .u16 s, .int .u16 d, .int .u32 g, .slice (some ⟨W6.heap.size, 0, none⟩) 1 1] 38)).heap.size from Nat.le_trans HBS.out hW7.size)
                  clear hb7 hM6 hR7 hW7 hown hop htg
                  go_wp2_with (at_builtin; go_loud (refine print_append_cells (w0 := (W6.alloc (.cells #[.int .u8 ty, .int .u8 x.f1, .slice A9 m1 c9, .slice K9 m2 e9] 42)).alloc (.cells #[.int .u16 s, .int .u16 d, .int .u32 g, .slice (some ⟨W6.heap.size, 0, none⟩) 1 1] 38)) (W := (W6.alloc (.cells #[.int .u8 ty, .int .u8 x.f1, .slice A9 m1 c9, .slice K9 m2 e9] 42)).alloc (.cells #[.int .u16 s, .int .u16 d, .int .u32 g, .slice (some ⟨W6.heap.size, 0, none⟩) 1 1] 38)) w1.heap.size rfl _ _ 29 38 _ 4 32 rfl Tryz.underlying29 infoP rfl (by decide) (by decide) (.slice (some ⟨bo, 0, none⟩) (k + 1) cap) (k + 1) inner [.int .u16 s, .int .u16 d, .int .u32 g, .slice (some ⟨W6.heap.size, 0, none⟩) 1 1] rfl (by simp only [World.size_alloc]; rfl) rfl (by intro u hu; simp only [List.mem_cons, List.not_mem_nil, or_false] at hu; rcases hu with rfl | rfl | rfl | rfl <;> rfl) HOWN.out (Below.refl _ _) HBZ.out (by have := HOL.out; rw [HLO.out] at this; omega) ?_); intro v9 w9 hN9 hB9 hG9 hA9; have HN9 := hid hN9; have HB9 := hid hB9; have HG9 := hid hG9; clear hN9 hB9 hG9 hA9)
                  have hO9 := HOP.out v9 w9 HN9.out HG9.out
                  rw [← HSO2.out, ← HSR2.out] at hO9
                  exact ⟨⟨i + 1, by rw [HWI.out], hlt, hid hO9, hid ((cthen hI2.out HW7.out).trans HB9.out)⟩, by rw [HWI.out]; simp only [intOf, Int.toNat_natCast]; omega⟩
              | true =>
                have HSO2 := hid (show outsC M (l.take (i + 1)) = ds ++ [q ++ [x]] by rw [HSO.out, Pkg.stp_app _ _ _ _ _ HFE.out, if_pos HRB.out])
                obtain ⟨ok6, bo6, cap6, vl6, hvo6, p0, p1, p2, p3, hRl6, -, -, -, -, -⟩ := OfI.join_ready hO.out HB6.out
                injection hvo6 with e1 e2 e3
                injection e1 with e1
                injection e1 with e1 e4 e5
                subst e1
                clear e2 e3 e4 e5 p0 p1 p2
                rw [HKK.out] at p3
                obtain ⟨A6, c6, rfl, l6, -⟩ := Kd.R_reads hRl6
                rw [HNQ.out] at p3
                obtain ⟨⟨z0, z1, z2, z3⟩, -⟩ := four X6.out
                have hS2 : Below W6.heap.size W6 W6.drew ∧ W6.drew.cell? ⟨bo, k * 4 + 3, none⟩ = some (.slice A6 nq c6) ∧ W6.drew.cell? ⟨wr.heap.size, 0, none⟩ = some (.int .u8 x.f0) ∧ W6.drew.cell? ⟨wr.heap.size, 1, none⟩ = some (.int .u8 x.f1) ∧ W6.drew.cell? ⟨wr.heap.size, 2, none⟩ = some (.slice A9 m1 c9) ∧ W6.drew.cell? ⟨wr.heap.size, 3, none⟩ = some (.slice K9 m2 e9) := ⟨below_drew (Below.refl _ _) 1, p3, z0, z1, z2, z3⟩
                clear p3 hRl6 l6 z0 z1 z2 z3
                go_upto_region 20 with fail
                refine start_ (n := 13) (S := (fun W => Below W6.heap.size W6 W ∧ W.cell? ⟨bo, k * 4 + 3, none⟩ = some (.slice A6 nq c6) ∧ W.cell? ⟨wr.heap.size, 0, none⟩ = some (.int .u8 x.f0) ∧ W.cell? ⟨wr.heap.size, 1, none⟩ = some (.int .u8 x.f1) ∧ W.cell? ⟨wr.heap.size, 2, none⟩ = some (.slice A9 m1 c9) ∧ W.cell? ⟨wr.heap.size, 3, none⟩ = some (.slice K9 m2 e9))) (ds := [9, 12]) (bA 13 0) (by kernel_rfl) rfl rfl hS2 (fun hHeld => ?_)
                generalize W6.drew = w45 at hS2 hHeld ⊢
                refine pU 0 (some 76) (bA 13 1) rfl rfl ?_
                refine pU 1 (some 77) (bA 13 3) rfl rfl ?_
                refine pU 2 (some 78) (bA 13 7) rfl rfl ?_
                refine pU 3 (some 79) (bA 13 15) rfl rfl ?_
                refine pU 4 (some 80) (bA 13 31) rfl rfl ?_
                refine pU 5 (some 81) (bA 13 63) rfl rfl ?_
                refine tU 6 (some 82) (bA 13 127) rfl rfl hHeld (by rintro w' ⟨q0, q1, q2, q3, q4, q5⟩; go_simp; with_reducible rfl) ?_
                refine tU 7 (some 83) (bA 13 255) rfl rfl hHeld (by rintro w' ⟨q0, q1, q2, q3, q4, q5⟩; go_simp; with_reducible rfl) ?_
                refine one_ (i := 8) (N := some 84) (bA 13 511) rfl rfl (by kernel_rfl) (by decide) (fun KK hK => ?_)
                refine value_ (w1 := w45.alloc (.cells #[.int .u8 x.f0, .int .u8 x.f1, .slice A9 m1 c9, .slice K9 m2 e9] 42)) (v := .slice (some ⟨w45.heap.size, 0, none⟩) 1 1) (by rfl) rfl (by go_simp; done) ?_
                refine hK.out _ _ (rm_blw hHeld (below_alloc (Below.refl _ _) _)) (fun hHeld8 => ?_)
                clear hK KK
                refine nU ?_
                refine last_ (i := 9) (N := some 85) (bA 13 1023) rfl rfl (by kernel_rfl) (by decide) (fun KK hK => ?_)
                have HB45b := hid (cthen HB6.out hHeld.1)
                obtain ⟨ok7, bo7, cap7, vl7, hvo7, -, -, -, p7, hR7, hn7, hf7, hbb7, -, hj7⟩ := OfI.join_ready hO.out HB45b.out
                injection hvo7 with e1 e2 e3
                injection e1 with e1
                injection e1 with e1 e4 e5
                subst e1
                clear e2 e3 e4 e5
                rw [HKK.out] at p7
                obtain rfl : vl7 = .slice A6 nq c6 := Option.some.inj (p7.symm.trans hHeld.2.1)
                have hM9 := k42_mkM w45 w1.heap.size (fun k => wr.heap.size ≤ k) x (Kd.R_lower (Kd.R_mono (Kd.R_bound (Kd.R_below D6.out hHeld.1)) (fun k hk => hk.2.1)) HBS.out) (Kd.R_lower (Kd.R_mono (Kd.R_bound (Kd.R_below K6.out hHeld.1)) (fun k hk => hk.2.1)) HBS.out)
                refine Kd.R_append_step kC (w0 := w45) (W := w45) w1.heap.size (by rfl) _ _ 26 42 _ 56 (by rfl) Tryz.underlying26 infoC rfl (by decide) (by decide) (.slice A6 nq c6) q x [.int .u8 x.f0, .int .u8 x.f1, .slice A9 m1 c9, .slice K9 m2 e9] ok7 (fun k => wr.heap.size ≤ k) (by rfl) (by rfl) hM9 hn7 hf7 hR7 (Below.refl _ _) (Nat.le_trans HBS.out HB45b.out.size) (by have := HQM.out.1; omega) ?_
                rintro v9 w9 hR9 hB9 hG9 -
                obtain ⟨A10, c10, rfl, -, -⟩ := Kd.R_reads hR9
                obtain ⟨hc9, hf9, hO9⟩ := hj7 _ w9 _ hR9 hG9 (tg_snoc g q x HQN.out)
                have HO9 := hid hO9
                rw [HKK.out] at hc9 hf9
                have HB9 := hid hB9
                have HBO := hid hbb7
                clear hR7 hn7 hf7 hj7 hM9 hR9 hG9 hO9 hB9 p7 hbb7
                refine hK.out _ _ ?_
                clear hK KK
                refine nU ?_
                refine pU 10 (some 86) (bA 13 2047) rfl rfl ?_
                refine pU 11 (some 87) (bA 13 4095) rfl rfl ?_
                refine last_ (i := 12) (N := none) (bA 13 8191) rfl rfl (by kernel_rfl) (by decide) (fun KK hK => ?_)
                refine skip_ (w1 := w9.setCell ⟨bo, k * 4 + 3, none⟩ (.slice A10 (q ++ [x]).length c10)) (by rfl) rfl (by go_simp; done) ?_
                refine hK.out _ _ ?_
                clear hK KK
                refine done_ (by kernel_rfl) ?_
                clear hS2 hHeld hHeld8 hc9 hf9
                have hO9 := HO9.out
                rw [HKK.out, ← HSO2.out, ← HSR2.out, show (q ++ [x]).length = q.length + 1 by simp] at hO9
                have HO9b := hid hO9
                clear hO9
                go_wp2_with fail
                exact ⟨⟨i + 1, by rw [HWI.out], hlt, HO9b, hid (below_set ((cthen hI2.out HB45b.out).trans HB9.out) HBO.out _)⟩, by rw [HWI.out]; simp only [intOf, Int.toNat_natCast]; omega⟩
        · obtain rfl : n = i := by omega
          have htl : l.take n = l := by rw [← HN.out, List.take_length]
          rw [htl] at hO
          obtain ⟨Ao, co, Ar, cr, rfl, ho1, ho2, rfl, ho3, ho4⟩ := OfI.reads hO.out
          have HFIN := hid (And.intro ho1 (And.intro ho2 (And.intro ho3 ho4)))
          obtain ⟨no, hno⟩ : ∃ no, (outsC M l).length = no := ⟨_, rfl⟩
          obtain ⟨nr, hnr⟩ : ∃ nr, (rejC M l).length = nr := ⟨_, rfl⟩
          rw [hno, hnr] at HFIN
          rw [hno, hnr]
          have HNO := hid hno
          have HNR := hid hnr
          clear ho1 ho2 ho3 ho4 hno hnr htl hO
          go_wp2_with fail
          go_ret3
          exact ⟨fun er h => (by rw [HST.out] at h; cases h), fun _ => ⟨Ao, co, Ar, cr, by rw [HNO.out, HNR.out]; rfl, by rw [HNO.out]; exact HFIN.out.1, by rw [HNO.out]; exact HFIN.out.2.1, by rw [HNR.out]; exact HFIN.out.2.2.1, by rw [HNR.out]; exact HFIN.out.2.2.2⟩, HB1.out.trans (hI2.out.mono HB1.out.size)⟩
end Bn
end Go.Proofs.YtmfmomfhiieilaaGreatDoor
