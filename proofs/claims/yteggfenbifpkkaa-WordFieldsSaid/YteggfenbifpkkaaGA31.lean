-- laid by a program of this session (wip/gp.sh)
import Derived.Test.YteggfenbifpkkaaGA0
import Derived.Test.YteggfenbifpkkaaHfind
namespace Go.Proofs.Yteggfenbifpkkaa.GA
open Go.RowKit Go.Proofs.YteggfenbifpkkaaW.PrintWords Go.Proofs.YteggfenbifpkkaaW.PrintLast Go.Proofs.YteggfenbifpkkaaW.PrintMore
attribute [local go_sem] max2_int min2_int max_two min_two max_three min_three max_four min_four   -- for this text's walks alone
set_option linter.unusedVariables false
set_option linter.unusedSimpArgs false

/-! ### word_find: function 31 (its contract: by hand) -/
-- NEEDS Derived.Test.YteggfenbifpkkaaHfind
-- its type: def word_find.f (a0 : Int) : Option (ByteArray × Int × Int × ByteArray × ByteArray × Int)
def word_find.f (a0 : Int) : Option (ByteArray × Int × Int × ByteArray × ByteArray × Int) :=
  if 1 ≤ a0 ∧ a0 ≤ 58 then some ((Hfind.rowAt (a0 - 1).toNat).1, (Hfind.rowAt (a0 - 1).toNat).2.1, (Hfind.rowAt (a0 - 1).toNat).2.2.1, (Hfind.rowAt (a0 - 1).toNat).2.2.2.1, (Hfind.rowAt (a0 - 1).toNat).2.2.2.2, 0)
  else some (⟨#[]⟩, 0, 0, ⟨#[]⟩, ⟨#[]⟩, 60)
set_option maxHeartbeats 8000000 in
set_option maxRecDepth 100000 in
theorem word_find.calls (a0 : Int) (r1 : ByteArray) (r2 : Int) (r3 : Int) (r4 : ByteArray) (r5 : ByteArray) (r6 : Int) (w : World) (h : word_find.f a0 = some (r1, r2, r3, r4, r5, r6)) :
    Calls Try.prog 31 #[.int .i64 a0] w fun e w' => e = .returned (.tuple #[.agg #[.string r1, .int .i64 r2, .int .i64 r3, .string r4, .string r5], .int .i64 r6]) ∧ Below w.heap.size w w' := by
  unfold word_find.f at h
  split at h
  · rename_i hr
    obtain ⟨k, hk⟩ : ∃ k : Nat, a0 - 1 = (k : Int) := ⟨(a0 - 1).toNat, by omega⟩
    obtain rfl : a0 = (k : Int) + 1 := by omega
    rw [hk, Int.toNat_natCast] at h
    simp only [Option.some.injEq, Prod.mk.injEq] at h
    obtain ⟨rfl, rfl, rfl, rfl, rfl, rfl⟩ := h
    exact Hfind.find_in k (by omega) w
  · rename_i hr
    simp only [Option.some.injEq, Prod.mk.injEq] at h
    obtain ⟨rfl, rfl, rfl, rfl, rfl, rfl⟩ := h
    exact Hfind.find_out a0 (by omega) w

end Go.Proofs.Yteggfenbifpkkaa.GA
