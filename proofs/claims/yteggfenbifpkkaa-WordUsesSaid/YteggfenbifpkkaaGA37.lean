-- laid by a program of this session (wip/gp.sh)
import Derived.Test.YteggfenbifpkkaaGA0
import Derived.Test.YteggfenbifpkkaaHmask
namespace Go.Proofs.Yteggfenbifpkkaa.GA
open Go.RowKit Go.Proofs.YteggfenbifpkkaaW.PrintWords Go.Proofs.YteggfenbifpkkaaW.PrintLast Go.Proofs.YteggfenbifpkkaaW.PrintMore
attribute [local go_sem] max2_int min2_int max_two min_two max_three min_three max_four min_four   -- for this text's walks alone
set_option linter.unusedVariables false
set_option linter.unusedSimpArgs false

/-! ### word_mask: function 37 (its contract: by hand) -/
-- NEEDS Derived.Test.YteggfenbifpkkaaHmask
-- its type: def word_mask.f (a0_0 : Int) (a0_1 : Int) (a0_2 : Int) (a0_3 : Int) (a0_4 : Int) (a1 : ByteArray) : Option (Int)
def word_mask.f (a0_0 : Int) (a0_1 : Int) (a0_2 : Int) (a0_3 : Int) (a0_4 : Int) (a1 : ByteArray) : Option (Int) :=
  if a1 = ⟨#[97, 108, 108]⟩ then some 65535
  else if 0 ≤ a0_1 ∧ 0 ≤ a0_2 ∧ 0 ≤ a0_3 ∧ ∀ x ∈ a1.data.toList, x.toNat < 128 then some (Hmask.mfold a0_1 a0_2 a0_3 a1.data.toList)
  else none
set_option maxHeartbeats 8000000 in
set_option maxRecDepth 100000 in
theorem word_mask.calls (a0_0 : Int) (a0_1 : Int) (a0_2 : Int) (a0_3 : Int) (a0_4 : Int) (a1 : ByteArray) (r : Int) (w : World) (h : word_mask.f a0_0 a0_1 a0_2 a0_3 a0_4 a1 = some r) :
    Calls Try.prog 37 #[.agg #[.int .i64 a0_0, .int .i64 a0_1, .int .i64 a0_2, .int .i64 a0_3, .int .i64 a0_4], .string a1] w fun e w' => e = .returned (.int .u16 r) ∧ Below w.heap.size w w' := by
  unfold word_mask.f at h
  split at h
  · rename_i he
    subst he
    obtain rfl := Option.some.inj h
    exact Hmask.mask_all _ _ _ _ _ w
  · rename_i he
    split at h
    · rename_i hr
      obtain rfl := Option.some.inj h
      obtain ⟨h1, h2, h3, h4⟩ := hr
      refine Hmask.mask_some _ _ _ _ _ a1 ?_ h1 h2 h3 (fun i hi => h4 _ ?_) w
      · refine beq_eq_false_iff_ne.2 (fun e => he ?_)
        rw [ByteArray.toList_eq] at e
        refine ByteArray.ext (Array.toList_inj.1 ?_)
        rw [e]
      · exact Array.mem_toList_iff.2 (Array.getElem_mem (xs := a1.data) hi)
    · cases h

end Go.Proofs.Yteggfenbifpkkaa.GA
