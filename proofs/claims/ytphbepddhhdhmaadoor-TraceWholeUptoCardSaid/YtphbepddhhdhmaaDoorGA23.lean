-- laid by a program of this session (wip/gp.sh)
import Derived.Test.YtphbepddhhdhmaaDoorGA0
import Derived.Test.YtphbepddhhdhmaaDoorHof5
namespace Go.Proofs.YtphbepddhhdhmaaDoor.GA
open Go.RowKit Go.Proofs.YtphbepddhhdhmaaDoorW.PrintWords Go.Proofs.YtphbepddhhdhmaaDoorW.PrintLast Go.Proofs.YtphbepddhhdhmaaDoorW.PrintMore
attribute [local go_sem] max2_int min2_int max_two min_two max_three min_three max_four min_four   -- for this text's walks alone
set_option linter.unusedVariables false
set_option linter.unusedSimpArgs false

/-! ### trace_Outputs: function 23 (its contract: by hand) -/
-- NEEDS Derived.Test.YtphbepddhhdhmaaDoorHof5
-- its type: def trace_Outputs.f (l0 : List (S36)) : Option (List Int)
def trace_Outputs.f (l0 : List (S36)) : Option (List Int) := if l0.length < 2199023255552 then some (Hof.outs l0) else none
set_option maxHeartbeats 8000000 in
set_option maxRecDepth 100000 in
theorem trace_Outputs.calls (A0 : Option Addr) (c0 : Nat) (l0 : List (S36)) (r : List Int) (w : World) (hr0 : Kd.C k36 w A0 l0.length l0) (hc0 : l0.length ≤ c0) (h : trace_Outputs.f l0 = some r) :
    Calls Tryd.prog 23 #[.slice A0 l0.length c0] w fun e w' => ∃ v0_ : Value, e = .returned (v0_) ∧ Kd.R (Kd.int .i64) 2 w' w.heap.size (fun _ => True) v0_ r ∧ Below w.heap.size w w' := by
  unfold trace_Outputs.f at h
  split at h
  · obtain rfl := Option.some.inj h
    exact Hof.outputs_calls A0 c0 l0 w hr0 (by omega)
  · cases h

end Go.Proofs.YtphbepddhhdhmaaDoor.GA
