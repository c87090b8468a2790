-- laid by a program of this session (wip/gp.sh)
import Derived.Test.YtphbepddhhdhmaaDoorGA0
import Derived.Test.YtphbepddhhdhmaaDoorHof4
namespace Go.Proofs.YtphbepddhhdhmaaDoor.GA
open Go.RowKit Go.Proofs.YtphbepddhhdhmaaDoorW.PrintWords Go.Proofs.YtphbepddhhdhmaaDoorW.PrintLast Go.Proofs.YtphbepddhhdhmaaDoorW.PrintMore
attribute [local go_sem] max2_int min2_int max_two min_two max_three min_three max_four min_four   -- for this text's walks alone
set_option linter.unusedVariables false
set_option linter.unusedSimpArgs false

/-! ### trace_Of: function 18 (its contract: by hand) -/
-- NEEDS Derived.Test.YtphbepddhhdhmaaDoorHof4
-- its type: def trace_Of.f (l0 : List (S36)) (a1_0 : Int) (a1_1 : Int) : Option ((List (S36)))
def trace_Of.f (l0 : List (S36)) (a1_0 : Int) (a1_1 : Int) : Option (List (S36)) := if l0.length < 2199023255552 then some (l0.filter (fun x => x.f2.f0 == a1_0 && (x.f2.f1 == a1_1))) else none
set_option maxHeartbeats 8000000 in
set_option maxRecDepth 100000 in
theorem trace_Of.calls (A0 : Option Addr) (c0 : Nat) (l0 : List (S36)) (a1_0 : Int) (a1_1 : Int) (r : List (S36)) (w : World) (hr0 : Kd.C k36 w A0 l0.length l0) (hc0 : l0.length ≤ c0) (h : trace_Of.f l0 a1_0 a1_1 = some r) :
    Calls Tryd.prog 18 #[.slice A0 l0.length c0, .agg #[.int .i64 a1_0, .int .i64 a1_1]] w fun e w' => ∃ v0_ : Value, e = .returned (v0_) ∧ Kd.R k36 36 w' w.heap.size (fun _ => True) v0_ r ∧ Below w.heap.size w w' := by
  unfold trace_Of.f at h
  split at h
  · obtain rfl := Option.some.inj h
    exact Hof.of_calls A0 c0 l0 a1_0 a1_1 w hr0 (by omega)
  · cases h

end Go.Proofs.YtphbepddhhdhmaaDoor.GA
