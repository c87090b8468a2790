/-
  TraceParts in plain Lean.
-/
import Derived.Test.YtphbepddhhdhmaaDoorQTrace
import Derived.Test.YtphbepddhhdhmaaDoorGA6
set_option linter.unusedVariables false
set_option linter.unusedSimpArgs false
namespace Go.Proofs.YtphbepddhhdhmaaDoor.Q
open Go.RowKit Go.Proofs.YtphbepddhhdhmaaDoorW.PrintWords Go.Proofs.YtphbepddhhdhmaaDoorW.PrintLast Go.Proofs.YtphbepddhhdhmaaDoorW.PrintMore Go.Proofs.YtphbepddhhdhmaaDoor.GA
theorem same_ints (ys : List Int) (hl : ys.length < 2199023255552) : ∀ (d k i : Nat), i + d = ys.length → d < k → rotalaw25_TraceParts.l0 k ys ys (i : Int) = some true := by
  intro d
  induction d with
  | zero =>
    intro k i h1 h2
    obtain ⟨k, rfl⟩ : ∃ j, k = j + 1 := ⟨k - 1, by omega⟩
    rw [rotalaw25_TraceParts.l0, if_neg (by omega)]
  | succ d ih =>
    intro k i h1 h2
    obtain ⟨k, rfl⟩ : ∃ j, k = j + 1 := ⟨k - 1, by omega⟩
    have h := ih k (i + 1) (by omega) (by omega)
    have e : wrap64 ((i : Int) + 1) = ((i + 1 : Nat) : Int) := by
      rw [Int.natCast_add]
      exact IntWalk.wrap64_in _ (by omega)
    have hA : (i : Int) < (ys.length : Int) := by omega
    have hB : 0 ≤ (i : Int) := by omega
    simp only [rotalaw25_TraceParts.l0, if_pos hA, if_pos hB, e, h, if_true]
theorem parts (xs : List S36) (hl : xs.length < 2199023255552) (g0 g1 p : Int) : ∃ k, rotalaw25_TraceParts.f k xs g0 g1 p = some true := by
  refine ⟨xs.length + 2, ?_⟩
  have hk : xs.length < xs.length + 2 := by omega
  have hk1 : xs.length < xs.length + 1 := by omega
  have f1 : (xs.filter fun x => x.f2.f0 == g0 && (x.f2.f1 == g1)).length ≤ xs.length := List.length_filter_le _ _
  have f2 : (xs.filter fun x => x.f1 == p).length ≤ xs.length := List.length_filter_le _ _
  have f3 : (Hof.outs xs).length ≤ xs.length := by unfold Hof.outs; rw [List.length_map]; exact List.length_filter_le _ _
  have hs := same_ints (Hof.outs xs) (by omega) (Hof.outs xs).length (xs.length + 1) 0 (by omega) (by omega)
  unfold rotalaw25_TraceParts.f
  simp only [lives, Option.bind_some, if_true, twinF xs hl hk, tOfF xs hl, ofF xs hl hk, sameF (xs.filter fun x => x.f2.f0 == g0 && (x.f2.f1 == g1)) (by omega) (show _ < xs.length + 2 by omega), tOnF xs hl, onF xs hl hk, sameF (xs.filter fun x => x.f1 == p) (by omega) (show _ < xs.length + 2 by omega), Bool.not_true]
  show rotalaw25_TraceParts.j0 (xs.length + 1 + 1) xs false = some true
  simp only [rotalaw25_TraceParts.j0, Bool.false_eq_true, if_false, twinF xs hl hk1, Option.bind_some, tOutsF xs hl, outsF xs hl hk1, if_true]
  exact hs
end Go.Proofs.YtphbepddhhdhmaaDoor.Q
