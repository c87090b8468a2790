/-
  slices.Collect at events; trace.Of, trace.On.
-/
import Derived.Test.YtphbepddhhdhmaaDoorHof3
set_option linter.unusedVariables false
set_option linter.unusedSimpArgs false
namespace Go.Proofs.YtphbepddhhdhmaaDoor.Hof
open Go.RowKit Go.Shelf Go.Proofs.YtphbepddhhdhmaaDoorW.PrintWords Go.Proofs.YtphbepddhhdhmaaDoorW.PrintLast Go.Proofs.YtphbepddhhdhmaaDoorW.PrintMore GA
attribute [local go_sem] Oper.semAt_some

set_option maxRecDepth 100000 in
set_option maxHeartbeats 2000000 in
theorem collect_in (n : Nat) (hn : 7 ≤ n) (gf : Nat) (lb : Array Value) (S Sp : List S36 → Prop) (N : Nat) (hN : N * 64 ≤ 140737488355328) (w : World)
    (eg : ∀ args w, (callFunc gf args).run Tryd.prog w = .ok (.enter gf args) w)
    (hseq : SeqStopsK Fence.wide (n - 1 - 1) Tryd.prog gf lb (fun x : S36 => #[evv x]) (Below w.heap.size) S Sp N w) :
    CallsIn Fence.wide n Tryd.prog 35 #[.func (.func gf) #[] lb] w fun e W' => ∃ v ys, e = .returned v ∧ S ys ∧ Kd.R k36 36 W' w.heap.size (fun _ => True) v ys ∧ Below w.heap.size w W' := by
  have h1 : 1 ≤ n := by omega
  have h45 : Fence.wide.fn 45 := trivial
  refine callsIn_of_wp Tryd.func35 rfl trivial ?_ rfl
  simp only [Tryd.ntmps35, List.size_toArray, List.length_cons, List.length_nil, Nat.reduceAdd, Nat.reduceSub, Array.replicate_succ, Array.replicate_zero, List.push_toArray, List.append_toArray, List.nil_append, List.cons_append]
  gi_wp2_with (gi_at_call 45; refine (appendSeq_in (n - 1) (by omega) gf lb S Sp N hN w eg hseq).mono ?_; rintro e w' ⟨v, ys, rfl, hS, hR, hb⟩; obtain ⟨A9, c9, rfl, hl9⟩ := hR.2.slice_)
  go_ret
  exact ⟨_, ys, rfl, hS, hR, hb⟩

theorem isOf (Bg : Nat) (g0 g1 : Int) (w : World) (h0 : w.cell? ⟨Bg, 0, none⟩ = some (.int .i64 g0)) (h1 : w.cell? ⟨Bg, 1, none⟩ = some (.int .i64 g1)) :
    IsFn 37 #[.pointer (some ⟨Bg, 0, none⟩)] (fun x => x.f2.f0 == g0 && (x.f2.f1 == g1)) w := fun x W hW =>
  of1 Bg g0 g1 x W ((hW.cell (World.block_lt_of_cell? w _ h0)).trans h0) ((hW.cell (World.block_lt_of_cell? w _ h1)).trans h1)
theorem isOn (Bg : Nat) (g0 : Int) (w : World) (h0 : w.cell? ⟨Bg, 0, none⟩ = some (.int .i64 g0)) :
    IsFn 38 #[.pointer (some ⟨Bg, 0, none⟩)] (fun x => x.f1 == g0) w := fun x W hW =>
  on1 Bg g0 x W ((hW.cell (World.block_lt_of_cell? w _ h0)).trans h0)
theorem isOut (w : World) : IsFn 39 #[] (fun x => x.f3 == 12) w := fun x W hW => outputs1 x W

set_option maxRecDepth 100000 in
set_option maxHeartbeats 4000000 in
theorem of_calls (A0 : Option Addr) (c0 : Nat) (l0 : List S36) (g0 g1 : Int) (w : World) (hr0 : Kd.C k36 w A0 l0.length l0) (hN : l0.length * 64 ≤ 140737488355328) :
    Calls Tryd.prog 18 #[.slice A0 l0.length c0, .agg #[.int .i64 g0, .int .i64 g1]] w fun e w' => ∃ v0, e = .returned v0 ∧ Kd.R k36 36 w' w.heap.size (fun _ => True) v0 (l0.filter (fun x => x.f2.f0 == g0 && (x.f2.f1 == g1))) ∧ Below w.heap.size w w' := by
  refine (callsIn_wide (n := 16)).1 ?_
  have h36 : Fence.wide.fn 36 := trivial
  have h35 : Fence.wide.fn 35 := trivial
  refine callsIn_of_wp Tryd.func18 rfl trivial ?_ rfl
  simp only [Tryd.ntmps18, List.size_toArray, List.length_cons, List.length_nil, Nat.reduceAdd, Nat.reduceSub, Array.replicate_succ, Array.replicate_zero, List.push_toArray, List.append_toArray, List.nil_append, List.cons_append]
  gi_wp2_with (gi_at_call 36; refine (those_in Fence.wide _ trivial rfl A0 l0.length c0 37 #[.pointer (some ⟨w.heap.size, 0, none⟩)] _).mono ?_; rintro e w' ⟨rfl, hw⟩)
  have bG := blk_new w (.cells #[.int .i64 g0, .int .i64 g1] 33)
  have hb1 : Below w.heap.size w (w.alloc (.cells #[.int .i64 g0, .int .i64 g1] 33)) := (Below.refl _ w).alloc (Nat.le_refl _) _
  generalize hw1 : w.alloc (.cells #[.int .i64 g0, .int .i64 g1] 33) = w1 at bG hb1 ⊢
  have hs1 : w1.heap.size = w.heap.size + 1 := by rw [← hw1]; simp
  clear hw1
  have bL := blk_new w1 (.cells #[.slice A0 l0.length c0] 22)
  have hb2 : Below w1.heap.size w1 (w1.alloc (.cells #[.slice A0 l0.length c0] 22)) := (Below.refl _ w1).alloc (Nat.le_refl _) _
  generalize hw2 : w1.alloc (.cells #[.slice A0 l0.length c0] 22) = w2 at bL hb2 ⊢
  have hs2 : w2.heap.size = w.heap.size + 2 := by rw [← hw2]; simp; omega
  clear hw2
  have bI := blk_new w2 (.cells #[.func (.func 37) #[] #[.pointer (some ⟨w.heap.size, 0, none⟩)]] 53)
  have hb3 : Below w2.heap.size w2 (w2.alloc (.cells #[.func (.func 37) #[] #[.pointer (some ⟨w.heap.size, 0, none⟩)]] 53)) := (Below.refl _ w2).alloc (Nat.le_refl _) _
  generalize hw3 : w2.alloc (.cells #[.func (.func 37) #[] #[.pointer (some ⟨w.heap.size, 0, none⟩)]] 53) = w3 at bI hb3 ⊢
  have hs3 : w3.heap.size = w.heap.size + 3 := by rw [← hw3]; simp; omega
  clear hw3
  have hB : Below w.heap.size w w3 := (hb1.trans (hb2.mono (by omega))).trans (hb3.mono (by omega))
  have bG3 := blk_below (blk_below bG hb2) hb3
  have bL3 := blk_below bL hb3
  rw [hs1] at bL3
  rw [hs2] at bI
  have hseq := those_stops 13 (by omega) (w.heap.size + 1) (w.heap.size + 2) 37 #[.pointer (some ⟨w.heap.size, 0, none⟩)] (fun x => x.f2.f0 == g0 && (x.f2.f1 == g1)) A0 c0 l0 w3 ((blk_cell bL3 0).trans rfl) ((blk_cell bI 0).trans rfl) (Kd.C_below hr0 hB) (isOf w.heap.size g0 g1 w3 ((blk_cell bG3 0).trans rfl) ((blk_cell bG3 1).trans rfl)) (enters_of Tryd.func37 (by kernel_rfl) rfl)
  refine (collect_in 15 (by omega) 46 _ _ _ l0.length hN w3 (enters_of Tryd.func46 (by kernel_rfl) rfl) hseq).mono ?_
  rintro e w' ⟨v, ys, rfl, rfl, hR, hb⟩
  obtain ⟨A9, c9, rfl, hl9⟩ := hR.2.slice_
  gi_wp2
  go_ret
  exact ⟨_, rfl, Kd.R_lower hR (by omega), hB.trans (hb.mono (by omega))⟩
set_option maxRecDepth 100000 in
set_option maxHeartbeats 4000000 in
theorem on_calls (A0 : Option Addr) (c0 : Nat) (l0 : List S36) (g0 : Int) (w : World) (hr0 : Kd.C k36 w A0 l0.length l0) (hN : l0.length * 64 ≤ 140737488355328) :
    Calls Tryd.prog 19 #[.slice A0 l0.length c0, .int .i64 g0] w fun e w' => ∃ v0, e = .returned v0 ∧ Kd.R k36 36 w' w.heap.size (fun _ => True) v0 (l0.filter (fun x => x.f1 == g0)) ∧ Below w.heap.size w w' := by
  refine (callsIn_wide (n := 16)).1 ?_
  have h36 : Fence.wide.fn 36 := trivial
  have h35 : Fence.wide.fn 35 := trivial
  refine callsIn_of_wp Tryd.func19 rfl trivial ?_ rfl
  simp only [Tryd.ntmps19, List.size_toArray, List.length_cons, List.length_nil, Nat.reduceAdd, Nat.reduceSub, Array.replicate_succ, Array.replicate_zero, List.push_toArray, List.append_toArray, List.nil_append, List.cons_append]
  gi_wp2_with (gi_at_call 36; refine (those_in Fence.wide _ trivial rfl A0 l0.length c0 38 #[.pointer (some ⟨w.heap.size, 0, none⟩)] _).mono ?_; rintro e w' ⟨rfl, hw⟩)
  have bG := blk_new w (.cells #[.int .i64 g0] 3)
  have hb1 : Below w.heap.size w (w.alloc (.cells #[.int .i64 g0] 3)) := (Below.refl _ w).alloc (Nat.le_refl _) _
  generalize hw1 : w.alloc (.cells #[.int .i64 g0] 3) = w1 at bG hb1 ⊢
  have hs1 : w1.heap.size = w.heap.size + 1 := by rw [← hw1]; simp
  clear hw1
  have bL := blk_new w1 (.cells #[.slice A0 l0.length c0] 22)
  have hb2 : Below w1.heap.size w1 (w1.alloc (.cells #[.slice A0 l0.length c0] 22)) := (Below.refl _ w1).alloc (Nat.le_refl _) _
  generalize hw2 : w1.alloc (.cells #[.slice A0 l0.length c0] 22) = w2 at bL hb2 ⊢
  have hs2 : w2.heap.size = w.heap.size + 2 := by rw [← hw2]; simp; omega
  clear hw2
  have bI := blk_new w2 (.cells #[.func (.func 38) #[] #[.pointer (some ⟨w.heap.size, 0, none⟩)]] 53)
  have hb3 : Below w2.heap.size w2 (w2.alloc (.cells #[.func (.func 38) #[] #[.pointer (some ⟨w.heap.size, 0, none⟩)]] 53)) := (Below.refl _ w2).alloc (Nat.le_refl _) _
  generalize hw3 : w2.alloc (.cells #[.func (.func 38) #[] #[.pointer (some ⟨w.heap.size, 0, none⟩)]] 53) = w3 at bI hb3 ⊢
  have hs3 : w3.heap.size = w.heap.size + 3 := by rw [← hw3]; simp; omega
  clear hw3
  have hB : Below w.heap.size w w3 := (hb1.trans (hb2.mono (by omega))).trans (hb3.mono (by omega))
  have bG3 := blk_below (blk_below bG hb2) hb3
  have bL3 := blk_below bL hb3
  rw [hs1] at bL3
  rw [hs2] at bI
  have hseq := those_stops 13 (by omega) (w.heap.size + 1) (w.heap.size + 2) 38 #[.pointer (some ⟨w.heap.size, 0, none⟩)] (fun x => x.f1 == g0) A0 c0 l0 w3 ((blk_cell bL3 0).trans rfl) ((blk_cell bI 0).trans rfl) (Kd.C_below hr0 hB) (isOn w.heap.size g0 w3 ((blk_cell bG3 0).trans rfl)) (enters_of Tryd.func38 (by kernel_rfl) rfl)
  refine (collect_in 15 (by omega) 46 _ _ _ l0.length hN w3 (enters_of Tryd.func46 (by kernel_rfl) rfl) hseq).mono ?_
  rintro e w' ⟨v, ys, rfl, rfl, hR, hb⟩
  obtain ⟨A9, c9, rfl, hl9⟩ := hR.2.slice_
  gi_wp2
  go_ret
  exact ⟨_, rfl, Kd.R_lower hR (by omega), hB.trans (hb.mono (by omega))⟩
end Go.Proofs.YtphbepddhhdhmaaDoor.Hof
