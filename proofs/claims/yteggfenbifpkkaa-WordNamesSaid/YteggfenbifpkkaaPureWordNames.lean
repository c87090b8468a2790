/-
  Two operations have two names.
-/
import Derived.Test.YteggfenbifpkkaaQ1
import Derived.Test.YteggfenbifpkkaaGA4
namespace Go.Proofs.Yteggfenbifpkkaa.Pure
open Go.RowKit Go.Proofs.Yteggfenbifpkkaa.GA Go.Proofs.YteggfenbifpkkaaW.PrintWords Go.Proofs.YteggfenbifpkkaaW.PrintLast

theorem WordNames : rotalaw06_WordNames.Pure := by
  intro a b _ _
  unfold rotalaw06_WordNames.f word_Name.f
  rcases Q.in_or a with ⟨i, hi, rfl⟩ | ha
  · rw [Q.find_at i hi]
    rcases Q.in_or b with ⟨j, hj, rfl⟩ | hb
    · rw [Q.find_at j hj]
      have h1 := Q.names_eq hi hj
      have h2 := Q.name_long hi
      simp only [Q.nameOf] at h1 h2
      simp only [Option.bind_some, if_true, ByteArray.toList_eq]
      have h3 : (((i : Int) + 1) == ((j : Int) + 1)) = (i == j) := by
        rw [Bool.eq_iff_iff, beq_iff_eq, beq_iff_eq]; omega
      rw [h1, h3]
      simp only [beq_self_eq_true, if_true]
      have h4 : ((Hfind.rowAt i).1.size : Int) > 0 := by
        have : (Hfind.rowAt i).1.size = (Hfind.rowAt i).1.data.toList.length := by simp
        omega
      rw [decide_eq_true h4]
    · rw [Q.find_else b hb]
      simp [Q.awake]
  · rw [Q.find_else a ha]
    rcases Q.in_or b with ⟨j, hj, rfl⟩ | hb
    · rw [Q.find_at j hj]; simp [Q.awake]
    · rw [Q.find_else b hb]; simp [Q.awake]
end Go.Proofs.Yteggfenbifpkkaa.Pure
