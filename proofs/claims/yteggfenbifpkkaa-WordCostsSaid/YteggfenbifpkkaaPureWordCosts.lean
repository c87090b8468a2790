/-
  An operation has a cost from 1 to MaxCost, and its name finds it; others have none.
-/
import Derived.Test.YteggfenbifpkkaaQ1
import Derived.Test.YteggfenbifpkkaaGA7
namespace Go.Proofs.Yteggfenbifpkkaa.Pure
open Go.RowKit Go.Proofs.Yteggfenbifpkkaa.GA Go.Proofs.YteggfenbifpkkaaW.PrintWords Go.Proofs.YteggfenbifpkkaaW.PrintLast

theorem find_own (i : Nat) (hi : i < 58) : word_Find.f (Hfind.rowAt i).1 = some ((i : Int) + 1, 0) := by
  unfold word_Find.f
  have h : (List.range 58).find? (fun k => (Hfind.rowAt k).1.toList == (Hfind.rowAt i).1.toList) = some i := by
    rw [List.find?_range_eq_some]
    refine ⟨by simp, List.mem_range.2 hi, fun j hj => ?_⟩
    have h1 := Q.names_eq (i := j) (j := i) (by omega) hi
    simp only [Q.nameOf] at h1
    rw [ByteArray.toList_eq, ByteArray.toList_eq, h1]
    simp; omega
  rw [h]
theorem WordCosts : rotalaw06_WordCosts.Pure := by
  intro a _
  refine ⟨2, ?_⟩
  unfold rotalaw06_WordCosts.f word_Name.f word_Cost.f
  rcases Q.in_or a with ⟨i, hi, rfl⟩ | ha
  · rw [Q.find_at i hi]
    simp only [Option.bind_some]
    obtain ⟨c1, c2, _, _⟩ := Q.cost_at hi
    rw [if_neg (by omega), decide_eq_false (show ¬ ((i : Int) + 1 ≥ 59) by omega)]
    simp only [rotalaw06_WordCosts.j0]
    rw [find_own i hi]
    simp [c1, c2]
  · rw [Q.find_else a ha]
    simp only [Option.bind_some]
    by_cases h : a < 1
    · rw [if_pos h]
      simp [rotalaw06_WordCosts.j0, Q.awake]; rfl
    · rw [if_neg h, decide_eq_true (show a ≥ 59 by omega)]
      simp [rotalaw06_WordCosts.j0, Q.awake]; rfl
end Go.Proofs.Yteggfenbifpkkaa.Pure
