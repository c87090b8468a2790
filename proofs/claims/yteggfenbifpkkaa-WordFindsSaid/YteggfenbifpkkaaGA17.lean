-- laid by a program of this session (wip/gp.sh)
import Derived.Test.YteggfenbifpkkaaGA0
import Derived.Test.YteggfenbifpkkaaHFind2
namespace Go.Proofs.Yteggfenbifpkkaa.GA
open Go.RowKit Go.Proofs.YteggfenbifpkkaaW.PrintWords Go.Proofs.YteggfenbifpkkaaW.PrintLast Go.Proofs.YteggfenbifpkkaaW.PrintMore
attribute [local go_sem] max2_int min2_int max_two min_two max_three min_three max_four min_four   -- for this text's walks alone
set_option linter.unusedVariables false
set_option linter.unusedSimpArgs false

/-! ### word_Find: function 17 (its contract: by hand) -/
-- NEEDS Derived.Test.YteggfenbifpkkaaHFind2
-- its type: def word_Find.f (a0 : ByteArray) : Option (Int × Int)
def word_Find.f (a0 : ByteArray) : Option (Int × Int) :=
  match (List.range 58).find? (fun k => (Hfind.rowAt k).1.toList == a0.toList) with
  | some n => some ((n : Int) + 1, 0)
  | none => some (0, 60)
set_option maxHeartbeats 8000000 in
set_option maxRecDepth 100000 in
theorem word_Find.calls (a0 : ByteArray) (r1 : Int) (r2 : Int) (w : World) (h : word_Find.f a0 = some (r1, r2)) :
    Calls Try.prog 17 #[.string a0] w fun e w' => e = .returned (.tuple #[.int .i64 r1, .int .i64 r2]) ∧ Below w.heap.size w w' := by
  unfold word_Find.f at h
  split at h
  · rename_i n hf
    simp only [Option.some.injEq, Prod.mk.injEq] at h
    obtain ⟨rfl, rfl⟩ := h
    obtain ⟨hy, hn, hlow⟩ := List.find?_range_eq_some.1 hf
    exact Hfind.Find_yes a0 n (List.mem_range.1 hn) (fun k hk => by simpa using hlow k hk) hy w
  · rename_i hf
    simp only [Option.some.injEq, Prod.mk.injEq] at h
    obtain ⟨rfl, rfl⟩ := h
    refine Hfind.Find_no a0 (fun k hk => ?_) w
    have := List.find?_eq_none.1 hf k (List.mem_range.2 hk)
    simpa using this

end Go.Proofs.Yteggfenbifpkkaa.GA
