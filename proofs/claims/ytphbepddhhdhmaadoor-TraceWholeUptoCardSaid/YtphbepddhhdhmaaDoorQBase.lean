/-
  The copy of events is the slice itself; the program lives.
-/
import Derived.Test.YtphbepddhhdhmaaDoorGA15
import Derived.Test.YtphbepddhhdhmaaDoorGA17
import Derived.IntWalk
set_option linter.unusedVariables false
set_option linter.unusedSimpArgs false
namespace Go.Proofs.YtphbepddhhdhmaaDoor.Q
open Go.RowKit Go.Proofs.YtphbepddhhdhmaaDoorW.PrintWords Go.Proofs.YtphbepddhhdhmaaDoorW.PrintLast Go.Proofs.YtphbepddhhdhmaaDoorW.PrintMore Go.Proofs.YtphbepddhhdhmaaDoor.GA

theorem eta36 (x : S36) : (⟨x.f0, x.f1, (⟨x.f2.f0, x.f2.f1⟩ : S33), x.f3, x.f4, x.f5, x.f6⟩ : S36) = x := rfl
theorem rd36 (xs : List S36) (i : Nat) (h : i < xs.length) : rd_T36 xs (i : Int) = xs[i] := by
  unfold rd_T36
  rw [List.getD_eq_getElem?_getD, Int.toNat_natCast, List.getElem?_eq_getElem h]
  rfl
theorem twin_is (xs : List S36) (hl : xs.length < 2199023255552) : ∀ (d k i : Nat), i + d = xs.length → d < k → rotalaw25_twin.l0 k xs (xs.take i) (i : Int) = some xs := by
  intro d
  induction d with
  | zero =>
    intro k i h1 h2
    obtain ⟨k, rfl⟩ : ∃ j, k = j + 1 := ⟨k - 1, by omega⟩
    rw [rotalaw25_twin.l0, if_neg (by omega), List.take_of_length_le (by omega)]
  | succ d ih =>
    intro k i h1 h2
    obtain ⟨k, rfl⟩ : ∃ j, k = j + 1 := ⟨k - 1, by omega⟩
    have w1 : wrap64 ((i : Int) + 1) = ((i + 1 : Nat) : Int) := by
      rw [Int.natCast_add]
      exact IntWalk.wrap64_in _ (by omega)
    rw [rotalaw25_twin.l0, if_pos (by omega), if_pos (by omega), if_pos (by rw [List.length_take]; omega), eta36, rd36 xs i (by omega), w1]
    have e : xs.take i ++ [xs[i]] = xs.take (i + 1) := by rw [List.take_add_one, List.getElem?_eq_getElem (show i < xs.length by omega)]; rfl
    rw [e]
    exact ih k (i + 1) (by omega) (by omega)
theorem lives : rotalaw25_lives.f = some true := by kernel_rfl
end Go.Proofs.YtphbepddhhdhmaaDoor.Q
