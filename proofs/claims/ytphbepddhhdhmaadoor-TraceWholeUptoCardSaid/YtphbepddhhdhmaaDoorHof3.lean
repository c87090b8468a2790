/-
  slices.AppendSeq and slices.Collect at events; trace.Of, trace.On, trace.Outputs.
-/
import Derived.Test.YtphbepddhhdhmaaDoorHof2
set_option linter.unusedVariables false
set_option linter.unusedSimpArgs false
namespace Go.Proofs.YtphbepddhhdhmaaDoor.Hof
open Go.RowKit Go.Shelf Go.Proofs.YtphbepddhhdhmaaDoorW.PrintWords Go.Proofs.YtphbepddhhdhmaaDoorW.PrintLast Go.Proofs.YtphbepddhhdhmaaDoorW.PrintMore GA
attribute [local go_sem] Oper.semAt_some

/-- The cells of an event. -/
def evc (x : S36) : List Value := [.int .u64 x.f0, .int .i64 x.f1, .int .i64 x.f2.f0, .int .i64 x.f2.f1, .int .i64 x.f3, .int .i64 x.f4, .int .i64 x.f5, .int .i64 x.f6]
theorem reps36 (w : World) (base : Nat) (ok : Nat → Prop) : ∀ xs : List S36, Reps (k36.M w base ok) 8 xs (xs.flatMap evc) := by
  have h : ∀ l : List S36, Reps (k36.M w base ok) 8 l.reverse (l.reverse.flatMap evc) := by
    intro l
    induction l with
    | nil => exact Reps.none _ _
    | cons x l ih =>
      rw [List.reverse_cons, List.flatMap_append]
      exact ih.snoc (by simpa [evc] using k36_mkM w base ok x) (by simp [evc])
  intro xs
  simpa using h xs.reverse
theorem R36_of {w : World} {base : Nat} {v : Value} {xs : List S36} (h : w.ownsRow base 36 8 v xs.length (xs.flatMap evc)) : Kd.R k36 36 w base (fun _ => True) v xs :=
  ⟨fun _ _ => trivial, xs.flatMap evc, h, reps36 _ _ _ xs⟩
theorem box_new (W : World) (x : S36) : ∀ j u, (evc x)[j]? = some u → (W.alloc (boxE x)).cell? ((⟨W.heap.size, 0, none⟩ : Addr).add j) = some u := by
  intro j u h
  have h2 : ∀ j, (⟨W.heap.size, 0, none⟩ : Addr).add j = ⟨W.heap.size, j, none⟩ := fun j => by cases j <;> simp [Addr.add]
  rw [h2, blk_cell (blk_new W (boxE x)) j]
  simpa [evc] using h
theorem boxE_own (B : Nat) (x : S36) : Own (fun (_ : Unit) W => W.heap[B]? = some (boxE x)) := fun s X Y row hs hg hrow =>
  (hg.block B (Array.getElem?_eq_some_iff.1 hs).1 (fun e' => by obtain ⟨o, ho, hc⟩ := hrow B e'.symm; rw [hs] at ho; cases ho; cases hc)).trans hs

set_option maxRecDepth 100000 in
set_option maxHeartbeats 4000000 in
theorem appendSeq_in (n : Nat) (hn : 6 ≤ n) (gf : Nat) (lb : Array Value) (S Sp : List S36 → Prop) (N : Nat) (hN : N * 64 ≤ 140737488355328) (w : World)
    (eg : ∀ args w, (callFunc gf args).run Tryd.prog w = .ok (.enter gf args) w)
    (hseq : SeqStopsK Fence.wide (n - 1) Tryd.prog gf lb (fun x : S36 => #[evv x]) (Below w.heap.size) S Sp N w) :
    CallsIn Fence.wide n Tryd.prog 45 #[.slice none 0 0, .func (.func gf) #[] lb] w fun e W' => ∃ v ys, e = .returned v ∧ S ys ∧ Kd.R k36 36 W' w.heap.size (fun _ => True) v ys ∧ Below w.heap.size w W' := by
  have h1 : 1 ≤ n := by omega
  have hNm : N ≤ maxLen := by simp only [maxLen]; omega
  obtain ⟨i0, hi, hz0, hz1, hz2⟩ := info_parts info36
  refine callsIn_of_wp_marks Tryd.func45 rfl trivial ?_ rfl
  simp only [Tryd.ntmps45, List.size_toArray, List.length_cons, List.length_nil, Nat.reduceAdd, Nat.reduceSub, Array.replicate_succ, Array.replicate_zero, List.push_toArray, List.append_toArray, List.nil_append, List.cons_append]
  gi_wp2
  have bS := Boxed.new w 22 (.slice none 0 0)
  have hB0 : Below w.heap.size w (w.alloc (.cells #[.slice none 0 0] 22)) := (Below.refl _ w).alloc (Nat.le_refl _) _
  have hsz : (w.alloc (.cells #[.slice none 0 0] 22)).heap.size = w.heap.size + 1 := by simp
  refine wpIn_rangeFunc_ownH rfl h1 (gf := gf) (lb := lb) rfl trivial eg hseq belowK_t (belowK_b (by simp)) hB0 (fun _ => rfl)
    (fun pre W => (∃ v, Boxed W w.heap.size 22 v ∧ W.ownsRow w.heap.size 36 8 v pre.length (pre.flatMap evc) ∧ True) ∧ Below w.heap.size w W)
    (fun _ _ _ => False)
    (OwnFrom.and (Own.from (holdsRow_own w.heap.size w.heap.size 22 36 8 (fun pre : List S36 => pre.length) (fun pre => pre.flatMap evc) (fun pre v => True)) _) (ownFrom_below (Nat.le_refl _) (by simp)))
    (fun _ _ _ _ _ hs _ _ => hs)
    ⟨⟨_, bS, World.ownsRow_nil _ _ _ _, trivial⟩, hB0⟩
    (fun x a' W => ∃ Bx, w.heap.size < Bx ∧ W.heap[Bx]? = some (boxE x) ∧ a' = { tmps := #[.slice none 0 0, .func (.func gf) #[] lb, .pointer (some ⟨w.heap.size, 0, none⟩), undef, .slice none 0 0, .pointer (some ⟨Bx, 0, none⟩), .func (.func gf) #[] lb, evv x, undef, undef, undef, undef, undef], defers := [] })
    (fun x a' _ X Y row hs hg hr => by obtain ⟨Bx, h1, h2, h3⟩ := hs; exact ⟨Bx, h1, boxE_own Bx x () X Y row h2 hg (fun r e => (hr r e).2), h3⟩)
    ?assign ?body ?done ?stop
  case assign =>
    rintro l pre x W K ⟨⟨v, bS1, hrow, _⟩, hB1⟩ hK
    gi_wp2
    exact hK _ _ ((KeepsOthers.alloc _ _).from _) ((Below.refl _ W).alloc hB1.size _) ⟨⟨v, bS1.alloc _, hrow.alloc _, trivial⟩, hB1.alloc hB1.size _⟩ ⟨W.heap.size, bS1.lt, blk_new W _, rfl⟩
  case body =>
    rintro l pre x a' W hl ⟨r, hr⟩ ⟨⟨v, hv, hrow, _⟩, hB⟩ ⟨Bx, hBx, bX, rfl⟩ hlt
    have hc := hv.cell
    have x0 := (blk_cell bX 0).trans rfl
    have x1 := (blk_cell bX 1).trans rfl
    have x2 := (blk_cell bX 2).trans rfl
    have x3 := (blk_cell bX 3).trans rfl
    have x4 := (blk_cell bX 4).trans rfl
    have x5 := (blk_cell bX 5).trans rfl
    have x6 := (blk_cell bX 6).trans rfl
    have x7 := (blk_cell bX 7).trans rfl
    gi_wp2_with (gi_at_builtin; refine wpListIn_append_own _ rfl _ _ 22 rfl w.heap.size 36 i0 (evv z36) 8 64 Tryd.underlying22 hi hz0 hz1 hz2 rfl (by decide) _ _ _ rfl (hrow.alloc _) ⟨W.heap.size, 0, none⟩ 1 1 (evc x) rfl rfl (box_new _ _) (by simp [evc, Value.oneCell']) (by omega) (by omega) (by have := hB.size; simp; omega) ?_; intro v' w1 hown' hgrow _; obtain ⟨g', cap', rfl⟩ := ownsRow_succ hown'; obtain ⟨hv1, hv2, hr2, hk2, hb2⟩ := hv.appended (by decide) hrow hB.size (Nat.le_refl _) hown' hgrow; have hc1 := hv1.cell; have hf1 := hv1.frozen)
    exact ⟨hk2.from _, hb2, ⟨⟨_, hv2, by simpa using hr2, trivial⟩, hB.trans hb2⟩⟩
  case done =>
    rintro D ys W hD hS ⟨⟨v, hv, hrow, _⟩, hB⟩ hK
    have hc := hv.cell
    gi_wp2
    refine ⟨by simp, .inl ⟨_, _, rfl, run_takeDeferred hK, ?_⟩⟩
    exact ⟨_, results_tmp rfl _ _ _, v, ys, rfl, hS, R36_of (ownsRow_putObj hrow _ hK rfl), hB.trans (belowK_b (w := w) (Nat.le_refl _) W D _ _ (by simp at hD; omega) hK rfl rfl)⟩
  case stop =>
    rintro D c pre W _ _ h _
    exact h.elim
end Go.Proofs.YtphbepddhhdhmaaDoor.Hof
