/-
  Plain facts on instructions: what Encode wrote is brought back; the registers that are looked at and changed.
-/
import Derived.Test.YteggfenbifpkkaaQ3
import Derived.Test.YteggfenbifpkkaaGA3
set_option linter.unusedVariables false
set_option linter.unusedSimpArgs false
namespace Go.Proofs.Yteggfenbifpkkaa.Q
open Go.RowKit Go.Proofs.Yteggfenbifpkkaa.GA Go.Proofs.Yteggfenbifpkkaa.Hfits Go.Proofs.YteggfenbifpkkaaW.PrintWords Go.Proofs.YteggfenbifpkkaaW.PrintMore

theorem encode_some (o a b c m : Int) : ∃ v, word_Encode.f o a b c m = some v := by
  rcases in_or o with ⟨j, hj, rfl⟩ | ho
  · by_cases h : fitsB a b c m (Hfind.rowAt j).2.1 = true
    · exact ⟨_, encode_yes j hj a b c m h⟩
    · exact ⟨_, encode_no j hj a b c m (by simpa using h)⟩
  · exact ⟨_, encode_else o ho a b c m⟩
theorem encodes (l : List S28) (hl : l.length ≤ 9223372036854775807) (d : Nat) : ∀ (k : Nat) (i : Int), 0 ≤ i → i ≤ l.length → (l.length : Int) - i = d → d < k → rotalaw06_WordEncodes.l0 k l i = some true := by
  induction d with
  | zero =>
    intro k i h0 h1 hd hk
    obtain ⟨k, rfl⟩ : ∃ m, k = m + 1 := ⟨k - 1, by omega⟩
    rw [rotalaw06_WordEncodes.l0, if_neg (by omega), awake]; rfl
  | succ d ih =>
    intro k i h0 h1 hd hk
    obtain ⟨k, rfl⟩ : ∃ m, k = m + 1 := ⟨k - 1, by omega⟩
    have hlt : i < (l.length : Int) := by omega
    rw [rotalaw06_WordEncodes.l0, if_pos hlt, if_pos h0]
    generalize rd_T28 l i = x
    rw [ref_encode]
    obtain ⟨u, hu⟩ := encode_some x.f0 x.f1 x.f2 x.f3 x.f4
    rw [hu]
    simp only [Option.bind_some]
    rw [wrap_in h0 hlt hl]
    have := ih k (i + 1) (by omega) (by omega) (by omega) (by omega)
    simp [this]
theorem WordEncodes (l : List S28) (hl : l.length ≤ maxLen) : rotalaw06_WordEncodes.f (l.length + 1) l = some true := by
  unfold maxLen at hl
  exact encodes l (by omega) l.length (l.length + 1) 0 (by omega) (by omega) (by omega) (by omega)
end Go.Proofs.Yteggfenbifpkkaa.Q
