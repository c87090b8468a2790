/-
  trace.Of, On, Outputs and the frozen ones tell the same, in plain Lean.
-/
import Derived.Test.YtphbepddhhdhmaaDoorQBase
import Derived.Test.YtphbepddhhdhmaaDoorGA18
import Derived.Test.YtphbepddhhdhmaaDoorGA19
import Derived.Test.YtphbepddhhdhmaaDoorGA20
import Derived.Test.YtphbepddhhdhmaaDoorGA21
import Derived.Test.YtphbepddhhdhmaaDoorGA22
import Derived.Test.YtphbepddhhdhmaaDoorGA23
import Derived.Test.YtphbepddhhdhmaaDoorGA24
set_option linter.unusedVariables false
set_option linter.unusedSimpArgs false
namespace Go.Proofs.YtphbepddhhdhmaaDoor.Q
open Go.RowKit Go.Proofs.YtphbepddhhdhmaaDoorW.PrintWords Go.Proofs.YtphbepddhhdhmaaDoorW.PrintLast Go.Proofs.YtphbepddhhdhmaaDoorW.PrintMore Go.Proofs.YtphbepddhhdhmaaDoor.GA

theorem w1 {xs : List S36} (hl : xs.length < 2199023255552) {i : Nat} (hi : i < xs.length) : wrap64 ((i : Int) + 1) = ((i + 1 : Nat) : Int) := by
  rw [Int.natCast_add]
  exact IntWalk.wrap64_in _ (by omega)
theorem take_filter {P : S36 → Bool} {xs : List S36} {i : Nat} (hi : i < xs.length) : (xs.take (i + 1)).filter P = if P xs[i] = true then (xs.take i).filter P ++ [xs[i]] else (xs.take i).filter P := by
  rw [List.take_add_one, List.getElem?_eq_getElem hi, List.filter_append]
  by_cases h : P xs[i] = true
  · rw [if_pos h]; simp [h]
  · rw [if_neg h]; simp [h]
theorem filter_le {P : S36 → Bool} (xs : List S36) (i : Nat) : ((xs.take i).filter P).length ≤ xs.length := by
  have := List.length_filter_le P (xs.take i)
  rw [List.length_take] at this
  omega
theorem of_is (xs : List S36) (hl : xs.length < 2199023255552) (g0 g1 : Int) : ∀ (d k i : Nat), i + d = xs.length → d < k →
    rotaref25_Of.l0 k xs ((xs.take i).filter fun x => x.f2.f0 == g0 && (x.f2.f1 == g1)) (i : Int) g0 g1 = some (xs.filter fun x => x.f2.f0 == g0 && (x.f2.f1 == g1)) := by
  intro d
  induction d with
  | zero =>
    intro k i h1 h2
    obtain ⟨k, rfl⟩ : ∃ j, k = j + 1 := ⟨k - 1, by omega⟩
    rw [rotaref25_Of.l0, if_neg (by omega), List.take_of_length_le (by omega)]
  | succ d ih =>
    intro k i h1 h2
    obtain ⟨k, rfl⟩ : ∃ j, k = j + 1 := ⟨k - 1, by omega⟩
    have hi : i < xs.length := by omega
    have h := ih k (i + 1) (by omega) (by omega)
    rw [take_filter hi] at h
    have hle := filter_le (P := fun x => x.f2.f0 == g0 && (x.f2.f1 == g1)) xs i
    have hlt : ((xs.take i).filter fun x => x.f2.f0 == g0 && (x.f2.f1 == g1)).length < 2199023255552 := by omega
    rw [rotaref25_Of.l0, if_pos (by omega), if_pos (by omega), rd36 xs i hi, w1 hl hi]
    by_cases hp : (xs[i].f2.f0 == g0 && (xs[i].f2.f1 == g1)) = true
    · rw [if_pos hp] at h ⊢
      rw [if_pos hlt]
      exact h
    · rw [if_neg hp] at h ⊢
      exact h
theorem on_is (xs : List S36) (hl : xs.length < 2199023255552) (g0 : Int) : ∀ (d k i : Nat), i + d = xs.length → d < k →
    rotaref25_On.l0 k xs g0 ((xs.take i).filter fun x => x.f1 == g0) (i : Int) = some (xs.filter fun x => x.f1 == g0) := by
  intro d
  induction d with
  | zero =>
    intro k i h1 h2
    obtain ⟨k, rfl⟩ : ∃ j, k = j + 1 := ⟨k - 1, by omega⟩
    rw [rotaref25_On.l0, if_neg (by omega), List.take_of_length_le (by omega)]
  | succ d ih =>
    intro k i h1 h2
    obtain ⟨k, rfl⟩ : ∃ j, k = j + 1 := ⟨k - 1, by omega⟩
    have hi : i < xs.length := by omega
    have h := ih k (i + 1) (by omega) (by omega)
    rw [take_filter hi] at h
    have hle := filter_le (P := fun x => x.f1 == g0) xs i
    have hlt : ((xs.take i).filter fun x => x.f1 == g0).length < 2199023255552 := by omega
    rw [rotaref25_On.l0, if_pos (by omega), if_pos (by omega), rd36 xs i hi, w1 hl hi]
    by_cases hp : xs[i].f1 = g0
    · rw [if_pos (by simpa using hp)] at h
      rw [if_pos hp, if_pos hlt]
      exact h
    · rw [if_neg (by simpa using hp)] at h
      rw [if_neg hp]
      exact h
theorem outputs_is (xs : List S36) (hl : xs.length < 2199023255552) : ∀ (d k i : Nat), i + d = xs.length → d < k →
    rotaref25_Outputs.l0 k xs (((xs.take i).filter fun x => x.f3 == 12).map (·.f4)) (i : Int) = some (Hof.outs xs) := by
  intro d
  induction d with
  | zero =>
    intro k i h1 h2
    obtain ⟨k, rfl⟩ : ∃ j, k = j + 1 := ⟨k - 1, by omega⟩
    rw [rotaref25_Outputs.l0, if_neg (by omega), List.take_of_length_le (by omega)]
    rfl
  | succ d ih =>
    intro k i h1 h2
    obtain ⟨k, rfl⟩ : ∃ j, k = j + 1 := ⟨k - 1, by omega⟩
    have hi : i < xs.length := by omega
    have h := ih k (i + 1) (by omega) (by omega)
    rw [take_filter hi] at h
    have hle := filter_le (P := fun x => x.f3 == 12) xs i
    have hlt : (((xs.take i).filter fun x => x.f3 == 12).map (·.f4)).length < 17592186044416 := by rw [List.length_map]; omega
    rw [rotaref25_Outputs.l0, if_pos (by omega), if_pos (by omega), rd36 xs i hi, w1 hl hi]
    by_cases hp : xs[i].f3 = 12
    · rw [if_pos (by simpa using hp), List.map_append] at h
      rw [if_pos hp, if_pos hlt]
      exact h
    · rw [if_neg (by simpa using hp)] at h
      rw [if_neg hp]
      exact h
theorem same_is (xs : List S36) (hl : xs.length < 2199023255552) : ∀ (d k i : Nat), i + d = xs.length → d < k → rotaref25_Same.l0 k xs xs (i : Int) = some true := by
  intro d
  induction d with
  | zero =>
    intro k i h1 h2
    obtain ⟨k, rfl⟩ : ∃ j, k = j + 1 := ⟨k - 1, by omega⟩
    rw [rotaref25_Same.l0, if_neg (by omega)]
  | succ d ih =>
    intro k i h1 h2
    obtain ⟨k, rfl⟩ : ∃ j, k = j + 1 := ⟨k - 1, by omega⟩
    have hi : i < xs.length := by omega
    have h := ih k (i + 1) (by omega) (by omega)
    have hA : (i : Int) < (xs.length : Int) := by omega
    have hB : 0 ≤ (i : Int) := by omega
    simp only [rotaref25_Same.l0, if_pos hA, if_pos hB, w1 hl hi, beq_self_eq_true, Bool.not_true, Bool.or_false, Bool.or_self, h]
    rfl
variable (xs : List S36) (hl : xs.length < 2199023255552) {k : Nat} (hk : xs.length < k)
include hl hk
theorem twinF : rotalaw25_twin.f k xs = some xs := twin_is xs hl xs.length k 0 (by omega) hk
theorem ofF (g0 g1 : Int) : rotaref25_Of.f k xs g0 g1 = some (xs.filter fun x => x.f2.f0 == g0 && (x.f2.f1 == g1)) := of_is xs hl g0 g1 xs.length k 0 (by omega) hk
theorem onF (g0 : Int) : rotaref25_On.f k xs g0 = some (xs.filter fun x => x.f1 == g0) := on_is xs hl g0 xs.length k 0 (by omega) hk
theorem outsF : rotaref25_Outputs.f k xs = some (Hof.outs xs) := outputs_is xs hl xs.length k 0 (by omega) hk
theorem sameF : rotaref25_Same.f k xs xs = some true := by
  unfold rotaref25_Same.f
  rw [if_pos rfl]
  exact same_is xs hl xs.length k 0 (by omega) hk
omit hk
theorem tOfF (g0 g1 : Int) : trace_Of.f xs g0 g1 = some (xs.filter fun x => x.f2.f0 == g0 && (x.f2.f1 == g1)) := by unfold trace_Of.f; rw [if_pos hl]
theorem tOnF (g0 : Int) : trace_On.f xs g0 = some (xs.filter fun x => x.f1 == g0) := by unfold trace_On.f; rw [if_pos hl]
theorem tOutsF : trace_Outputs.f xs = some (Hof.outs xs) := by unfold trace_Outputs.f; rw [if_pos hl]
end Go.Proofs.YtphbepddhhdhmaaDoor.Q
