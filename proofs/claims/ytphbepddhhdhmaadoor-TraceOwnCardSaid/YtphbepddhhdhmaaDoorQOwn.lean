/-
  TraceOwn in plain Lean.
-/
import Derived.Test.YtphbepddhhdhmaaDoorQTrace
import Derived.Test.YtphbepddhhdhmaaDoorGA5
set_option linter.unusedVariables false
set_option linter.unusedSimpArgs false
namespace Go.Proofs.YtphbepddhhdhmaaDoor.Q
open Go.RowKit Go.Proofs.YtphbepddhhdhmaaDoorW.PrintWords Go.Proofs.YtphbepddhhdhmaaDoorW.PrintLast Go.Proofs.YtphbepddhhdhmaaDoorW.PrintMore Go.Proofs.YtphbepddhhdhmaaDoor.GA
variable (xs : List S36) (g0 g1 p : Int)
/-- Behind the two loops that spoil the answers: the next round, whatever stands in them. -/
theorem own_l2 (r : Int) (k0 : Nat) (h0 : ∀ k, k0 ≤ k → rotalaw25_TraceOwn.l0 k xs p xs (wrap64 (r + 1)) g0 g1 = some true) :
    ∀ (d : Nat) (us vs : List S36) (i : Nat), us.length < 2199023255548 → vs.length < 2199023255548 → i + d = vs.length → ∀ k, k0 + d + 1 ≤ k → rotalaw25_TraceOwn.l2 k xs p xs r us vs (i : Int) g0 g1 = some true := by
  intro d
  induction d with
  | zero =>
    intro us vs i ha hb hi k hk
    obtain ⟨k, rfl⟩ : ∃ j, k = j + 1 := ⟨k - 1, by omega⟩
    rw [rotalaw25_TraceOwn.l2, if_neg (by omega)]
    simp only [Option.bind_some, List.length_cons, List.length_nil, List.length_append]
    rw [if_pos (by omega), if_pos (by omega), if_neg ?_]
    · exact h0 k (by omega)
    · rw [IntWalk.wrap64_in _ (by omega)]
      omega
  | succ d ih =>
    intro us vs i ha hb hi k hk
    obtain ⟨k, rfl⟩ : ∃ j, k = j + 1 := ⟨k - 1, by omega⟩
    have e : wrap64 ((i : Int) + 1) = ((i + 1 : Nat) : Int) := by
      rw [Int.natCast_add]
      exact IntWalk.wrap64_in _ (by omega)
    rw [rotalaw25_TraceOwn.l2, if_pos (by omega), if_pos (by omega), e]
    exact ih us _ (i + 1) ha (by rw [List.length_set]; exact hb) (by rw [List.length_set]; omega) k (by omega)
theorem own_l1 (r : Int) (k0 : Nat) (h0 : ∀ k, k0 ≤ k → rotalaw25_TraceOwn.l0 k xs p xs (wrap64 (r + 1)) g0 g1 = some true) :
    ∀ (d : Nat) (us vs : List S36) (i : Nat), us.length < 2199023255548 → vs.length < 2199023255548 → i + d = us.length → ∀ k, k0 + vs.length + 1 + d + 1 ≤ k → rotalaw25_TraceOwn.l1 k xs p xs r us vs (i : Int) g0 g1 = some true := by
  intro d
  induction d with
  | zero =>
    intro us vs i ha hb hi k hk
    obtain ⟨k, rfl⟩ : ∃ j, k = j + 1 := ⟨k - 1, by omega⟩
    rw [rotalaw25_TraceOwn.l1, if_neg (by omega)]
    exact own_l2 xs g0 g1 p r k0 h0 vs.length us vs 0 ha hb (by omega) k (by omega)
  | succ d ih =>
    intro us vs i ha hb hi k hk
    obtain ⟨k, rfl⟩ : ∃ j, k = j + 1 := ⟨k - 1, by omega⟩
    have e : wrap64 ((i : Int) + 1) = ((i + 1 : Nat) : Int) := by
      rw [Int.natCast_add]
      exact IntWalk.wrap64_in _ (by omega)
    rw [rotalaw25_TraceOwn.l1, if_pos (by omega), if_pos (by omega), e]
    exact ih _ vs (i + 1) (by rw [List.length_set]; exact ha) hb (by rw [List.length_set]; omega) k (by omega)
theorem own_round (hl : xs.length < 2199023255548) (r : Int) (hr : r < 2) (k0 : Nat) (h0 : ∀ k, k0 ≤ k → rotalaw25_TraceOwn.l0 k xs p xs (wrap64 (r + 1)) g0 g1 = some true) :
    ∀ k, k0 + 2 * xs.length + 10 ≤ k → rotalaw25_TraceOwn.l0 k xs p xs r g0 g1 = some true := by
  intro k hk
  obtain ⟨k, rfl⟩ : ∃ j, k = j + 2 := ⟨k - 2, by omega⟩
  have hl' : xs.length < 2199023255552 := by omega
  have hk1 : xs.length < k + 1 := by omega
  have f1 : (xs.filter fun x => x.f2.f0 == g0 && (x.f2.f1 == g1)).length ≤ xs.length := List.length_filter_le _ _
  have f2 : (xs.filter fun x => x.f1 == p).length ≤ xs.length := List.length_filter_le _ _
  have hn := own_l1 xs g0 g1 p r k0 h0 _ (xs.filter fun x => x.f2.f0 == g0 && (x.f2.f1 == g1)) (xs.filter fun x => x.f1 == p) 0 (by omega) (by omega) (Nat.zero_add _) k (by omega)
  rw [show k + 2 = (k + 1) + 1 from rfl, rotalaw25_TraceOwn.l0, if_pos hr]
  simp only [lives, Option.bind_some, if_true, tOfF xs hl', ofF xs hl' hk1, sameF (xs.filter fun x => x.f2.f0 == g0 && (x.f2.f1 == g1)) (by omega) (show _ < k + 1 by omega), tOnF xs hl', onF xs hl' hk1, sameF (xs.filter fun x => x.f1 == p) (by omega) (show _ < k + 1 by omega), sameF xs hl' hk1, Bool.not_true]
  rw [rotalaw25_TraceOwn.j1, if_neg (by simp)]
  exact hn
theorem own_law (hl : xs.length < 2199023255548) : ∃ k, rotalaw25_TraceOwn.f k xs g0 g1 p = some true := by
  have hl' : xs.length < 2199023255552 := by omega
  have s2 : ∀ k, xs.length + 2 ≤ k → rotalaw25_TraceOwn.l0 k xs p xs 2 g0 g1 = some true := by
    intro k hk
    obtain ⟨k, rfl⟩ : ∃ j, k = j + 1 := ⟨k - 1, by omega⟩
    rw [rotalaw25_TraceOwn.l0, if_neg (by omega), sameF xs hl' (show _ < k by omega)]
    rfl
  have s1 := own_round xs g0 g1 p hl 1 (by omega) (xs.length + 2) (fun k hk => by rw [show wrap64 (1 + 1) = 2 from by unfold wrap64; omega]; exact s2 k hk)
  have s0 := own_round xs g0 g1 p hl 0 (by omega) (xs.length + 2 + 2 * xs.length + 10) (fun k hk => by rw [show wrap64 (0 + 1) = 1 from by unfold wrap64; omega]; exact s1 k hk)
  obtain ⟨k, hk⟩ : ∃ k, k = xs.length + 2 + 2 * xs.length + 10 + 2 * xs.length + 10 := ⟨_, rfl⟩
  have s3 := s0 k (by omega)
  have t := twinF xs hl' (show xs.length < k by omega)
  clear hk
  refine ⟨k, ?_⟩
  unfold rotalaw25_TraceOwn.f
  rw [t, Option.bind_some]
  exact s3
end Go.Proofs.YtphbepddhhdhmaaDoor.Q
