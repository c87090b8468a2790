/-
  The iterator behind trace.Of, trace.On, trace.Outputs: the closures' tests, the walk of 'those'.
-/
import Derived.RangeFuncNested
import Derived.RangeFuncBound
import Derived.RangeFuncCalls
import Derived.RangeFuncLeaves
import Derived.RangeFuncBox
import Derived.Shelf.Abstract
import Derived.Shelf.AbstractIn
import Derived.Shelf.RegionOpen
import Derived.WalkKit
import Derived.OwnWalkIn
import Derived.TacticsInMore
import Derived.LoopNIn
import Derived.LoopIn
import Derived.Maps.AppendAt
import Derived.Test.YtphbepddhhdhmaaDoorGA9033
set_option linter.unusedVariables false
set_option linter.unusedSimpArgs false
namespace Go.Proofs.YtphbepddhhdhmaaDoor.Hof
open Go.RowKit Go.Shelf Go.Proofs.YtphbepddhhdhmaaDoorW.PrintWords Go.Proofs.YtphbepddhhdhmaaDoorW.PrintLast Go.Proofs.YtphbepddhhdhmaaDoorW.PrintMore GA

/-- The value of an event. -/
abbrev evv (x : S36) : Value := .agg #[.int .u64 x.f0, .int .i64 x.f1, .int .i64 x.f2.f0, .int .i64 x.f2.f1, .int .i64 x.f3, .int .i64 x.f4, .int .i64 x.f5, .int .i64 x.f6]
/-- A closure with captures cb tests an event by p, in every world that has come of w0 by growth; it lays one block. -/
def IsFn (gi : Nat) (cb : Array Value) (p : S36 → Bool) (w0 : World) : Prop :=
  ∀ x W, Below w0.heap.size w0 W → Calls Tryd.prog gi (#[evv x] ++ cb) W fun e w' => e = .returned (.bool (p x)) ∧ ∃ o, w' = W.alloc o
theorem IsFn.below {gi : Nat} {cb : Array Value} {p : S36 → Bool} {w0 w1 : World} (h : IsFn gi cb p w0) (hb : Below w0.heap.size w0 w1) : IsFn gi cb p w1 := fun x W hW => h x W (hb.trans (hW.mono hb.size))

set_option maxHeartbeats 2000000 in
set_option maxRecDepth 100000 in
/-- 'e.G == g': the captured goroutine lies in a box. -/
theorem of1 (Bg : Nat) (g0 g1 : Int) (x : S36) (w : World) (h0 : w.cell? ⟨Bg, 0, none⟩ = some (.int .i64 g0)) (h1 : w.cell? ⟨Bg, 1, none⟩ = some (.int .i64 g1)) :
    Calls Tryd.prog 37 #[evv x, .pointer (some ⟨Bg, 0, none⟩)] w fun e w' => e = .returned (.bool (x.f2.f0 == g0 && (x.f2.f1 == g1))) ∧ ∃ o, w' = w.alloc o := by
  have e33 := eqA33
  have a0 : ∀ o, (w.alloc o).cell? ⟨Bg, 0, none⟩ = some (.int .i64 g0) := fun o => (Below.cell ((Below.refl w.heap.size w).alloc (Nat.le_refl _) o) (World.block_lt_of_cell? w _ h0)).trans h0
  have a1 : ∀ o, (w.alloc o).cell? ⟨Bg, 1, none⟩ = some (.int .i64 g1) := fun o => (Below.cell ((Below.refl w.heap.size w).alloc (Nat.le_refl _) o) (World.block_lt_of_cell? w _ h1)).trans h1
  go_enter Tryd.func37, Tryd.ntmps37
  go_wp2
  go_ret
  exact ⟨rfl, _, rfl⟩
set_option maxHeartbeats 2000000 in
set_option maxRecDepth 100000 in
/-- 'e.Proc == p'. -/
theorem on1 (Bg : Nat) (g0 : Int) (x : S36) (w : World) (h0 : w.cell? ⟨Bg, 0, none⟩ = some (.int .i64 g0)) :
    Calls Tryd.prog 38 #[evv x, .pointer (some ⟨Bg, 0, none⟩)] w fun e w' => e = .returned (.bool (x.f1 == g0)) ∧ ∃ o, w' = w.alloc o := by
  have a0 : ∀ o, (w.alloc o).cell? ⟨Bg, 0, none⟩ = some (.int .i64 g0) := fun o => (Below.cell ((Below.refl w.heap.size w).alloc (Nat.le_refl _) o) (World.block_lt_of_cell? w _ h0)).trans h0
  go_enter Tryd.func38, Tryd.ntmps38
  go_wp2
  go_ret
  exact ⟨rfl, _, rfl⟩
set_option maxHeartbeats 2000000 in
set_option maxRecDepth 100000 in
/-- 'e.Kind == EvOutput'. -/
theorem outputs1 (x : S36) (w : World) :
    Calls Tryd.prog 39 #[evv x] w fun e w' => e = .returned (.bool (x.f3 == 12)) ∧ ∃ o, w' = w.alloc o := by
  go_enter Tryd.func39, Tryd.ntmps39
  go_wp2
  go_ret
  exact ⟨rfl, _, rfl⟩

attribute [local go_sem] Oper.semAt_some
set_option maxRecDepth 100000 in
set_option maxHeartbeats 2000000 in
/-- those(l, is): both are boxed; the function value captures the boxes. -/
theorem those_in (F : Fence) (n : Nat) (h5 : F.fn 36) (hro : F.round = none) (a : Option Addr) (len cap gi : Nat) (cb : Array Value) (w : World) :
    CallsIn F n Tryd.prog 36 #[.slice a len cap, .func (.func gi) #[] cb] w fun e w' =>
      e = .returned (.func (.func 46) #[] #[.pointer (some ⟨w.heap.size, 0, none⟩), .pointer (some ⟨w.heap.size + 1, 0, none⟩)]) ∧ w' = (w.alloc (.cells #[.slice a len cap] 22)).alloc (.cells #[.func (.func gi) #[] cb] 53) := by
  refine callsIn_of_wp Tryd.func36 rfl h5 ?_ hro
  simp only [Tryd.ntmps36, List.size_toArray, List.length_cons, List.length_nil, Nat.reduceAdd, Nat.reduceSub, Array.replicate_succ, Array.replicate_zero, List.push_toArray, List.append_toArray, List.nil_append, List.cons_append]
  gi_wp2
  go_ret
  exact ⟨rfl, rfl⟩
end Go.Proofs.YtphbepddhhdhmaaDoor.Hof
