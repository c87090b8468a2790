/-
  The operation of any text.
-/
import Derived.Test.YteggfenbifpkkaaQ1
import Derived.Test.YteggfenbifpkkaaGA5
namespace Go.Proofs.Yteggfenbifpkkaa.Pure
open Go.RowKit Go.Proofs.Yteggfenbifpkkaa.GA Go.Proofs.YteggfenbifpkkaaW.PrintWords Go.Proofs.YteggfenbifpkkaaW.PrintLast

theorem wrap_small {i : Int} (h0 : 0 ≤ i) (h : i < 1000) : wrap64 (i + 1) = i + 1 := by
  unfold wrap64; omega
theorem ref_find (s : ByteArray) (d : Nat) : ∀ (k n : Nat), n ≤ 58 → 58 - n = d → d < k → (∀ j < n, ((Hfind.rowAt j).1.toList == s.toList) = false) →
    rotaref06_Find.l0 k s ((n : Int) + 1) = (match (List.range 58).find? (fun k => (Hfind.rowAt k).1.toList == s.toList) with | some n => some ((n : Int) + 1, 0) | none => some (0, 60)) := by
  induction d with
  | zero =>
    intro k n hn hd hk hlow
    obtain ⟨k, rfl⟩ : ∃ m, k = m + 1 := ⟨k - 1, by omega⟩
    obtain rfl : n = 58 := by omega
    have h : (List.range 58).find? (fun k => (Hfind.rowAt k).1.toList == s.toList) = none := by
      rw [List.find?_eq_none]
      intro x hx
      rw [hlow x (List.mem_range.1 hx)]; simp
    rw [h]
    simp only [rotaref06_Find.l0]
    rw [if_neg (by omega)]
  | succ d ih =>
    intro k n hn hd hk hlow
    obtain ⟨k, rfl⟩ : ∃ m, k = m + 1 := ⟨k - 1, by omega⟩
    simp only [rotaref06_Find.l0]
    rw [if_pos (by omega), Q.table_in n (by omega)]
    simp only [Option.bind_some]
    by_cases e : (Hfind.rowAt n).1.toList = s.toList
    · rw [if_pos e]
      have h : (List.range 58).find? (fun k => (Hfind.rowAt k).1.toList == s.toList) = some n := by
        rw [List.find?_range_eq_some]
        exact ⟨by simp [e], List.mem_range.2 (by omega), fun j hj => by rw [hlow j hj]; rfl⟩
      rw [h]
    · rw [if_neg e, wrap_small (by omega) (by omega)]
      have := ih k (n + 1) (by omega) (by omega) (by omega) (fun j hj => by
        by_cases e2 : j = n
        · subst e2; simpa using e
        · exact hlow j (by omega))
      rw [Int.natCast_add] at this
      exact this
theorem WordFinds : rotalaw06_WordFinds.Pure := by
  intro s _
  refine ⟨60, ?_⟩
  have h1 : rotaref06_Find.f 60 s = word_Find.f s := by
    unfold rotaref06_Find.f word_Find.f
    have := ref_find s 58 60 0 (by omega) (by omega) (by omega) (fun j hj => by omega)
    exact this
  obtain ⟨x, hx⟩ : ∃ x, word_Find.f s = some x := by
    unfold word_Find.f
    split <;> exact ⟨_, rfl⟩
  unfold rotalaw06_WordFinds.f
  rw [h1, hx]
  simp [Q.awake]
end Go.Proofs.Yteggfenbifpkkaa.Pure
