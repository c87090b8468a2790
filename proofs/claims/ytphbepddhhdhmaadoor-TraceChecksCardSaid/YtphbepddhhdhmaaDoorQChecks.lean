/-
  TraceChecks in plain Lean: the two checkers answer alike, the copy is the slice itself.
-/
import Derived.Test.YtphbepddhhdhmaaDoorGA3
import Derived.IntWalk
set_option linter.unusedVariables false
set_option linter.unusedSimpArgs false
namespace Go.Proofs.YtphbepddhhdhmaaDoor.Q
open Go.RowKit Go.Proofs.YtphbepddhhdhmaaDoorW.PrintWords Go.Proofs.YtphbepddhhdhmaaDoorW.PrintLast Go.Proofs.YtphbepddhhdhmaaDoorW.PrintMore Go.Proofs.YtphbepddhhdhmaaDoor.GA

theorem names36 : ∃ l, rotaref25_names.f = some l ∧ l = Laid.names := ⟨_, rfl, rfl⟩
theorem may_eq (a b c d e f g h : Int) : trace_may.f a b c d e f g h = rotaref25_may.f a b c d e f g h := by
  obtain ⟨l, e1, e2⟩ := names36
  have e3 : (l.length : Int) = 36 := by rw [e2]; rfl
  unfold trace_may.f rotaref25_may.f
  simp only [e1, Option.bind_some, e3]
theorem may_some (a b c d e f g h : Int) : ∃ t, trace_may.f a b c d e f g h = some t := by
  unfold trace_may.f
  repeat' split
  all_goals exact ⟨_, rfl⟩
theorem check_some (xs : List S36) (hl : xs.length < 2 ^ 62) : ∀ (d k : Nat) (i : Nat), xs.length ≤ i + d → d < k →
    ∃ r, trace_Check.l0 k xs xs (xs.length : Int) (i : Int) = some r ∧ rotaref25_Check.l0 k xs (i : Int) = some r := by
  intro d
  induction d with
  | zero =>
    intro k i h1 h2
    obtain ⟨k, rfl⟩ : ∃ j, k = j + 1 := ⟨k - 1, by omega⟩
    refine ⟨(0, 0), ?_, ?_⟩
    · rw [trace_Check.l0, if_neg (by omega)]
    · rw [rotaref25_Check.l0, if_neg (by omega)]
  | succ d ih =>
    intro k i h1 h2
    obtain ⟨k, rfl⟩ : ∃ j, k = j + 1 := ⟨k - 1, by omega⟩
    by_cases hi : i < xs.length
    case neg =>
      refine ⟨(0, 0), ?_, ?_⟩
      · rw [trace_Check.l0, if_neg (by omega)]
      · rw [rotaref25_Check.l0, if_neg (by omega)]
    have w1 : wrap64 ((i : Int) + 1) = ((i + 1 : Nat) : Int) := by
      rw [Int.natCast_add]
      exact IntWalk.wrap64_in _ (by omega)
    have hA : (i : Int) < (xs.length : Int) := by omega
    have hB : 0 ≤ (i : Int) := by omega
    simp only [trace_Check.l0, rotaref25_Check.l0, if_pos hA, if_pos hB]
    obtain ⟨r, q1, q2⟩ := ih k (i + 1) (by omega) (by omega)
    simp only [← may_eq, w1, q1, q2]
    obtain ⟨t, ht⟩ := may_some ((rd_T36 xs i).f0) ((rd_T36 xs i).f1) ((rd_T36 xs i).f2.f0) ((rd_T36 xs i).f2.f1) ((rd_T36 xs i).f3) ((rd_T36 xs i).f4) ((rd_T36 xs i).f5) ((rd_T36 xs i).f6)
    simp only [ht, Option.bind_some]
    by_cases h3 : t = true
    case neg => simp only [if_neg h3]; exact ⟨_, rfl, rfl⟩
    simp only [if_pos h3]
    by_cases h4 : (i : Int) > 0
    case neg => simp only [if_neg h4]; exact ⟨_, rfl, rfl⟩
    have w2 : wrap64 ((i : Int) - 1) = (i : Int) - 1 := IntWalk.wrap64_in _ (by omega)
    simp only [if_pos h4, w2]
    have hC : 0 ≤ (i : Int) - 1 := by omega
    have hD : (i : Int) - 1 < (xs.length : Int) := by omega
    simp only [if_pos hC, if_pos hD]
    by_cases h5 : (rd_T36 xs (i : Int)).f0 < (rd_T36 xs ((i : Int) - 1)).f0
    · simp only [if_pos h5]; exact ⟨_, rfl, rfl⟩
    · simp only [if_neg h5]; exact ⟨_, rfl, rfl⟩
theorem eta36 (x : S36) : (⟨x.f0, x.f1, (⟨x.f2.f0, x.f2.f1⟩ : S33), x.f3, x.f4, x.f5, x.f6⟩ : S36) = x := rfl
theorem rd36 (xs : List S36) (i : Nat) (h : i < xs.length) : rd_T36 xs (i : Int) = xs[i] := by
  unfold rd_T36
  rw [List.getD_eq_getElem?_getD, Int.toNat_natCast, List.getElem?_eq_getElem h]
  rfl
theorem twin_is (xs : List S36) (hl : xs.length < 2199023255552) : ∀ (d k i : Nat), i + d = xs.length → d < k → rotalaw25_twin.l0 k xs (xs.take i) (i : Int) = some xs := by
  intro d
  induction d with
  | zero =>
    intro k i h1 h2
    obtain ⟨k, rfl⟩ : ∃ j, k = j + 1 := ⟨k - 1, by omega⟩
    rw [rotalaw25_twin.l0, if_neg (by omega), List.take_of_length_le (by omega)]
  | succ d ih =>
    intro k i h1 h2
    obtain ⟨k, rfl⟩ : ∃ j, k = j + 1 := ⟨k - 1, by omega⟩
    have w1 : wrap64 ((i : Int) + 1) = ((i + 1 : Nat) : Int) := by
      rw [Int.natCast_add]
      exact IntWalk.wrap64_in _ (by omega)
    rw [rotalaw25_twin.l0, if_pos (by omega), if_pos (by omega), if_pos (by rw [List.length_take]; omega), eta36, rd36 xs i (by omega), w1]
    have e : xs.take i ++ [xs[i]] = xs.take (i + 1) := by rw [List.take_add_one, List.getElem?_eq_getElem (show i < xs.length by omega)]; rfl
    rw [e]
    exact ih k (i + 1) (by omega) (by omega)
theorem lives : rotalaw25_lives.f = some true := by kernel_rfl
theorem name_eq (a : Int) (h0 : -(2 ^ 63) ≤ a) (h1 : a < 2 ^ 63) : ∃ s c, trace_Name.f a = some (s, c) ∧ rotaref25_Name.f a = some (s, c) := by
  obtain ⟨l, e1, e2⟩ := names36
  have e3 : (l.length : Int) = 36 := by rw [e2]; rfl
  unfold trace_Name.f rotaref25_Name.f
  simp only [e1, Option.bind_some, e3]
  by_cases h : 1 ≤ a ∧ a ≤ 36
  · have w1 : wrap64 (a - 1) = a - 1 := IntWalk.wrap64_in _ (by omega)
    rw [if_pos h, if_neg (by omega), if_neg (by omega), w1, if_pos (by omega), if_pos (by omega)]
    refine ⟨_, _, rfl, ?_⟩
    congr 2
    unfold rdOf Laid.nameAt
    rw [e2, List.getD_eq_getElem?_getD, List.getD_eq_getElem?_getD]
    have h2 : (a - 1).toNat < Laid.names.length := by
      have : Laid.names.length = 36 := rfl
      omega
    rw [List.getElem?_eq_getElem h2]
    rfl
  · rw [if_neg h]
    by_cases h2 : a < 1
    · rw [if_pos h2]; exact ⟨_, _, rfl, rfl⟩
    · rw [if_neg h2, if_pos (by omega)]; exact ⟨_, _, rfl, rfl⟩
theorem checks (a : Int) (h0 : -(2 ^ 63) ≤ a) (h1 : a < 2 ^ 63) (xs : List S36) (hl : xs.length < 2199023255552) : ∃ k, rotalaw25_TraceChecks.f k a xs = some true := by
  refine ⟨xs.length + 1, ?_⟩
  obtain ⟨s, c, n1, n2⟩ := name_eq a h0 h1
  obtain ⟨⟨u, v⟩, c1, c2⟩ := check_some xs (by omega) xs.length (xs.length + 1) 0 (by omega) (by omega)
  have t := twin_is xs hl xs.length (xs.length + 1) 0 (by omega) (by omega)
  unfold rotalaw25_TraceChecks.f trace_Check.f rotaref25_Check.f rotalaw25_twin.f
  simp only [List.take_zero, Int.natCast_zero] at t c1 c2
  have t' : rotalaw25_twin.l0 (xs.length + 1) xs [] 0 = some xs := t
  have c1' : trace_Check.l0 (xs.length + 1) xs xs (xs.length : Int) 0 = some (u, v) := c1
  have c2' : rotaref25_Check.l0 (xs.length + 1) xs 0 = some (u, v) := c2
  simp only [n1, n2, t', c1', c2', lives, Option.bind_some, if_true, beq_self_eq_true]
end Go.Proofs.YtphbepddhhdhmaaDoor.Q
