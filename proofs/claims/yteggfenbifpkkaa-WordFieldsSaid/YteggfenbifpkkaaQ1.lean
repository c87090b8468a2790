/-
  Plain facts on the table of operations: the program's rows and the reference's rows, number by number.
-/
import Derived.Test.YteggfenbifpkkaaGA31
import Derived.Test.YteggfenbifpkkaaGA35
import Derived.Test.YteggfenbifpkkaaGA15
namespace Go.Proofs.Yteggfenbifpkkaa.Q
open Go.RowKit Go.Proofs.Yteggfenbifpkkaa.GA Go.Proofs.Yteggfenbifpkkaa.Hfind

theorem awake : rotalaw06_awake.f = some true := by kernel_rfl

/-- The reference writes "*" where the program writes "all". -/
def star (s : ByteArray) : ByteArray := if s.data.toList = [97, 108, 108] then ⟨#[42]⟩ else s
theorem table_rows : (List.range 58).map (fun k : Nat => rotaref06_table.f ((k : Int) + 1)) =
    (List.range 58).map (fun k : Nat => some ((Hfind.rowAt k).1, (Hfind.rowAt k).2.1, (Hfind.rowAt k).2.2.1, star (Hfind.rowAt k).2.2.2.1, star (Hfind.rowAt k).2.2.2.2, true)) := by kernel_rfl
theorem table_in (k : Nat) (hk : k < 58) : rotaref06_table.f ((k : Int) + 1) = some ((Hfind.rowAt k).1, (Hfind.rowAt k).2.1, (Hfind.rowAt k).2.2.1, star (Hfind.rowAt k).2.2.2.1, star (Hfind.rowAt k).2.2.2.2, true) :=
  of_range 58 (fun k : Nat => rotaref06_table.f ((k : Int) + 1)) _ table_rows k hk
theorem find_at (k : Nat) (hk : k < 58) : word_find.f ((k : Int) + 1) = some ((Hfind.rowAt k).1, (Hfind.rowAt k).2.1, (Hfind.rowAt k).2.2.1, (Hfind.rowAt k).2.2.2.1, (Hfind.rowAt k).2.2.2.2, 0) := by
  unfold word_find.f
  rw [if_pos (by omega), show ((k : Int) + 1 - 1).toNat = k from by omega]
theorem find_else (n : Int) (h : ¬ (1 ≤ n ∧ n ≤ 58)) : word_find.f n = some (⟨#[]⟩, 0, 0, ⟨#[]⟩, ⟨#[]⟩, 60) := by
  unfold word_find.f
  rw [if_neg h]
set_option maxRecDepth 10000 in
theorem table_else (n : Int) (h : ¬ (1 ≤ n ∧ n ≤ 58)) : rotaref06_table.f n = some (⟨#[]⟩, 0, 0, ⟨#[]⟩, ⟨#[]⟩, false) := by
  have h1 : rotaref06_later.f n = some (⟨#[]⟩, 0, 0, ⟨#[]⟩, ⟨#[]⟩, false) := by
    unfold rotaref06_later.f
    iterate 29 rw [if_neg (by omega)]
  unfold rotaref06_table.f
  iterate 29 rw [if_neg (by omega)]
  rw [h1]
  rfl
theorem in_or (n : Int) : (∃ k : Nat, k < 58 ∧ n = (k : Int) + 1) ∨ ¬ (1 ≤ n ∧ n ≤ 58) := by
  by_cases h : 1 ≤ n ∧ n ≤ 58
  · exact .inl ⟨(n - 1).toNat, by omega, by omega⟩
  · exact .inr h
/-- The names are all different, and none is empty. -/
def nameOf (k : Nat) : List UInt8 := (Hfind.rowAt k).1.data.toList
theorem names_all : ((List.range 58).all fun i => (List.range 58).all fun j => (nameOf i == nameOf j) == (i == j)) = true := by kernel_rfl
theorem names_eq {i j : Nat} (hi : i < 58) (hj : j < 58) : (nameOf i == nameOf j) = (i == j) := by
  have := List.all_eq_true.1 (List.all_eq_true.1 names_all i (List.mem_range.2 hi)) j (List.mem_range.2 hj)
  simpa using this
theorem names_long : ((List.range 58).all fun i => decide (0 < (nameOf i).length)) = true := by kernel_rfl
theorem name_long {i : Nat} (hi : i < 58) : 0 < (nameOf i).length := by
  simpa using List.all_eq_true.1 names_long i (List.mem_range.2 hi)
theorem costs_all : ((List.range 58).all fun i => decide (1 ≤ (Hfind.rowAt i).2.2.1 ∧ (Hfind.rowAt i).2.2.1 ≤ 8 ∧ 0 ≤ (Hfind.rowAt i).2.1 ∧ (Hfind.rowAt i).2.1 ≤ 6)) = true := by kernel_rfl
theorem cost_at {i : Nat} (hi : i < 58) : 1 ≤ (Hfind.rowAt i).2.2.1 ∧ (Hfind.rowAt i).2.2.1 ≤ 8 ∧ 0 ≤ (Hfind.rowAt i).2.1 ∧ (Hfind.rowAt i).2.1 ≤ 6 := by
  simpa using List.all_eq_true.1 costs_all i (List.mem_range.2 hi)
end Go.Proofs.Yteggfenbifpkkaa.Q
