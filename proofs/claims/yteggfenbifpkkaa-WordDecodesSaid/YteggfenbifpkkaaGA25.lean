-- laid by a program of this session (wip/gp.sh)
import Derived.Test.YteggfenbifpkkaaGA0
import Derived.Test.YteggfenbifpkkaaHdec
namespace Go.Proofs.Yteggfenbifpkkaa.GA
open Go.RowKit Go.Proofs.YteggfenbifpkkaaW.PrintWords Go.Proofs.YteggfenbifpkkaaW.PrintLast Go.Proofs.YteggfenbifpkkaaW.PrintMore
attribute [local go_sem] max2_int min2_int max_two min_two max_three min_three max_four min_four   -- for this text's walks alone
set_option linter.unusedVariables false
set_option linter.unusedSimpArgs false

/-! ### rotaref06_Decode: function 25 (its contract: by hand) -/
-- NEEDS Derived.Test.YteggfenbifpkkaaHdec
-- its type: def rotaref06_Decode.f (a0 : Int) : Option (Int × Int × Int × Int × Int × Int)
def rotaref06_Decode.f (a0 : Int) : Option (Int × Int × Int × Int × Int × Int) := Hdec.decF a0
set_option maxHeartbeats 8000000 in
set_option maxRecDepth 100000 in
theorem rotaref06_Decode.calls (a0 : Int) (r1 : Int) (r2 : Int) (r3 : Int) (r4 : Int) (r5 : Int) (r6 : Int) (w : World) (h : rotaref06_Decode.f a0 = some (r1, r2, r3, r4, r5, r6)) :
    Calls Try.prog 25 #[.int .u32 a0] w fun e w' => e = .returned (.tuple #[.agg #[.int .i64 r1, .int .i64 r2, .int .i64 r3, .int .i64 r4, .int .i64 r5], .int .i64 r6]) ∧ Below w.heap.size w w' := by
  exact Hdec.decode_calls a0 _ _ _ _ _ _ w h

end Go.Proofs.Yteggfenbifpkkaa.GA
