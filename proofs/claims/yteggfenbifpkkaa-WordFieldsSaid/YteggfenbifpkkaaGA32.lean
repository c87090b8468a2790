-- laid by a program of this session (wip/gp.sh)
import Derived.Test.YteggfenbifpkkaaGA0
import Derived.Test.YteggfenbifpkkaaHfits
namespace Go.Proofs.Yteggfenbifpkkaa.GA
open Go.RowKit Go.Proofs.YteggfenbifpkkaaW.PrintWords Go.Proofs.YteggfenbifpkkaaW.PrintLast Go.Proofs.YteggfenbifpkkaaW.PrintMore
attribute [local go_sem] max2_int min2_int max_two min_two max_three min_three max_four min_four   -- for this text's walks alone
set_option linter.unusedVariables false
set_option linter.unusedSimpArgs false

/-! ### word_fits: function 32 (its contract: by hand) -/
-- NEEDS Derived.Test.YteggfenbifpkkaaHfits
-- its type: def word_fits.f (a0_0 : Int) (a0_1 : Int) (a0_2 : Int) (a0_3 : Int) (a0_4 : Int) (a1 : Int) : Option (Bool)
def word_fits.f (a0_0 : Int) (a0_1 : Int) (a0_2 : Int) (a0_3 : Int) (a0_4 : Int) (a1 : Int) : Option (Bool) := some (Hfits.fitsB a0_1 a0_2 a0_3 a0_4 a1)
set_option maxHeartbeats 8000000 in
set_option maxRecDepth 100000 in
theorem word_fits.calls (a0_0 : Int) (a0_1 : Int) (a0_2 : Int) (a0_3 : Int) (a0_4 : Int) (a1 : Int) (r : Bool) (w : World) (h : word_fits.f a0_0 a0_1 a0_2 a0_3 a0_4 a1 = some r) :
    Calls Try.prog 32 #[.agg #[.int .i64 a0_0, .int .i64 a0_1, .int .i64 a0_2, .int .i64 a0_3, .int .i64 a0_4], .int .i64 a1] w fun e w' => e = .returned (.bool r) ∧ Below w.heap.size w w' := by
  obtain rfl := Option.some.inj h
  by_cases h0 : a1 = 0
  · subst h0; exact Hfits.fits0 a0_0 a0_1 a0_2 a0_3 a0_4 w
  by_cases h1 : a1 = 1
  · subst h1; exact (Hfits.fits1 a0_0 a0_1 a0_2 a0_3 a0_4 w)
  by_cases h2 : a1 = 2
  · subst h2; exact (Hfits.fits2 a0_0 a0_1 a0_2 a0_3 a0_4 w)
  by_cases h3 : a1 = 3
  · subst h3; exact (Hfits.fits3 a0_0 a0_1 a0_2 a0_3 a0_4 w)
  by_cases h4 : a1 = 4
  · subst h4; exact (Hfits.fits4 a0_0 a0_1 a0_2 a0_3 a0_4 w)
  by_cases h6 : a1 = 6
  · subst h6; exact (Hfits.fits6 a0_0 a0_1 a0_2 a0_3 a0_4 w)
  have e : Hfits.fitsB a0_1 a0_2 a0_3 a0_4 a1 = (a0_2 == 0 && (a0_3 == 0 && (Hfits.reg a0_1 && (decide (0 ≤ a0_4) && decide (a0_4 < 65536))))) := by
    unfold Hfits.fitsB
    rw [if_neg h0, if_neg (by omega), if_neg h4, if_neg h6]
  rw [e]
  exact Hfits.fitsE a0_0 a0_1 a0_2 a0_3 a0_4 a1 ⟨h0, h1, h2, h3, h4, h6⟩ w

end Go.Proofs.Yteggfenbifpkkaa.GA
