/-
  Name, shape and cost of any number.
-/
import Derived.Test.YteggfenbifpkkaaQ1
import Derived.Test.YteggfenbifpkkaaGA6
namespace Go.Proofs.Yteggfenbifpkkaa.Pure
open Go.RowKit Go.Proofs.Yteggfenbifpkkaa.GA Go.Proofs.YteggfenbifpkkaaW.PrintWords Go.Proofs.YteggfenbifpkkaaW.PrintLast

theorem WordTells : rotalaw06_WordTells.Pure := by
  intro a _
  unfold rotalaw06_WordTells.f word_Name.f word_Shape.f word_Cost.f rotaref06_Name.f rotaref06_Shape.f rotaref06_Cost.f
  rcases Q.in_or a with ⟨i, hi, rfl⟩ | ha
  · rw [Q.find_at i hi, Q.table_in i hi]
    simp [Q.awake]
  · rw [Q.find_else a ha, Q.table_else a ha]
    simp [Q.awake]
end Go.Proofs.Yteggfenbifpkkaa.Pure
