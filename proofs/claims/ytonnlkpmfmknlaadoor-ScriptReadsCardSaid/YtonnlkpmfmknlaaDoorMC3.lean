import Derived.Test.YtonnlkpmfmknlaaDoorMC1
import Derived.Test.YtonnlkpmfmknlaaDoorMC2
section
/-
  Views of choices, twins and copies in plain Lean: both views are the same list.
-/
set_option linter.unusedVariables false
set_option linter.unusedSimpArgs false
namespace Go.Proofs.YtonnlkpmfmknlaaDoor.Q
open Go.RowKit Go.Proofs.YtonnlkpmfmknlaaDoorW.PrintWords Go.Proofs.YtonnlkpmfmknlaaDoorW.PrintLast Go.Proofs.YtonnlkpmfmknlaaDoorW.PrintMore Go.Proofs.YtonnlkpmfmknlaaDoor.GA
theorem rd_at (l : List Int) (i : Nat) (h : i < l.length) : rd l (i : Int) = l[i] := by
  unfold rd; rw [Int.toNat_natCast, List.getD_eq_getElem?_getD, List.getElem?_eq_getElem h]; rfl
theorem wrap_succ (i n : Nat) (h : i < n) (hn : n ≤ 9223372036854775807) : wrap64 ((i : Int) + 1) = ((i + 1 : Nat) : Int) := by
  rw [Int.natCast_add]; exact IntWalk.wrap64_in _ (by omega)
theorem has_l (l : List Int) (a : Int) (hn : l.length ≤ 9223372036854775807) : ∀ (d i : Nat), i + d = l.length → ∀ k, d + 1 ≤ k → rotaref19_has.l0 k l a (i : Int) = some (decide (a ∈ l.drop i))
  | 0, i, hi, k, hk => by
    obtain ⟨k, rfl⟩ : ∃ j, k = j + 1 := ⟨k - 1, by omega⟩
    rw [rotaref19_has.l0, if_neg (by omega), List.drop_of_length_le (by omega)]; simp
  | d + 1, i, hi, k, hk => by
    obtain ⟨k, rfl⟩ : ∃ j, k = j + 1 := ⟨k - 1, by omega⟩
    have hil : i < l.length := by omega
    have key : a ∈ l.drop i ↔ (a = l[i] ∨ a ∈ l.drop (i + 1)) := by rw [List.drop_eq_getElem_cons hil, List.mem_cons]
    rw [rotaref19_has.l0, if_pos (by omega), if_pos (by omega), rd_at l i hil]
    by_cases h : l[i] = a
    · rw [if_pos h]; exact congrArg some (decide_eq_true (key.2 (.inl h.symm))).symm
    · rw [if_neg h, wrap_succ i _ hil hn, has_l l a hn d (i + 1) (by omega) k (by omega)]
      exact congrArg some (decide_eq_decide.2 ⟨fun z => key.2 (.inr z), fun z => (key.1 z).resolve_left (fun e => h e.symm)⟩)
theorem hasF (l : List Int) (a : Int) (hn : l.length ≤ 9223372036854775807) (k : Nat) (hk : l.length + 1 ≤ k) : rotaref19_has.f k l a = some (decide (a ∈ l)) :=
  has_l l a hn l.length 0 (by omega) k hk
theorem index_l (l : List Int) (a : Int) (hn : l.length ≤ 9223372036854775807) : ∀ (d i : Nat), i + d = l.length → ∀ k, d + 1 ≤ k → ∃ r, slices_Index_int_int.l0 k l a (l.length : Int) (i : Int) = some r ∧ decide (r ≥ 0) = decide (a ∈ l.drop i)
  | 0, i, hi, k, hk => by
    obtain ⟨k, rfl⟩ : ∃ j, k = j + 1 := ⟨k - 1, by omega⟩
    exact ⟨-1, by rw [slices_Index_int_int.l0, if_neg (by omega)], by rw [List.drop_of_length_le (by omega)]; simp⟩
  | d + 1, i, hi, k, hk => by
    obtain ⟨k, rfl⟩ : ∃ j, k = j + 1 := ⟨k - 1, by omega⟩
    have hil : i < l.length := by omega
    have key : a ∈ l.drop i ↔ (a = l[i] ∨ a ∈ l.drop (i + 1)) := by rw [List.drop_eq_getElem_cons hil, List.mem_cons]
    rw [slices_Index_int_int.l0, if_pos (by omega), if_pos (by omega), if_pos (by omega), rd_at l i hil]
    by_cases h : a = l[i]
    · rw [if_pos h]; exact ⟨(i : Int), rfl, by rw [decide_eq_true (key.2 (.inl h))]; exact decide_eq_true (by omega)⟩
    · rw [if_neg h, wrap_succ i _ hil hn]
      obtain ⟨r, h1, h2⟩ := index_l l a hn d (i + 1) (by omega) k (by omega)
      exact ⟨r, h1, h2.trans (decide_eq_decide.2 ⟨fun z => key.2 (.inr z), fun z => (key.1 z).resolve_left h⟩)⟩
theorem containsF (l : List Int) (a : Int) (hn : l.length ≤ 9223372036854775807) (k : Nat) (hk : l.length + 1 ≤ k) : slices_Contains_int_int.f k l a = some (decide (a ∈ l)) := by
  obtain ⟨r, h1, h2⟩ := index_l l a hn l.length 0 (by omega) k hk
  unfold slices_Contains_int_int.f slices_Index_int_int.f
  rw [show ((0 : Nat) : Int) = 0 from rfl] at h1
  rw [h1]
  exact congrArg some h2
/-- The view of choices by the domains named. -/
def viewTo (xs : List S32) (of : List Int) (i : Nat) : List S32 := (List.range i).map fun (j : Nat) => if (j : Int) ∈ of then rd_T32 xs (j : Int) else ⟨[], []⟩
theorem viewTo_len (xs : List S32) (of : List Int) (i : Nat) : (viewTo xs of i).length = i := by unfold viewTo; simp
theorem viewTo_succ (xs : List S32) (of : List Int) (i : Nat) : viewTo xs of (i + 1) = viewTo xs of i ++ [if (i : Int) ∈ of then rd_T32 xs (i : Int) else ⟨[], []⟩] := by
  unfold viewTo; rw [List.range_succ, List.map_append]; rfl
def Small (xs : List S32) : Prop := ∀ i, (rd_T32 xs i).f0.length < 35184372088832 ∧ (rd_T32 xs i).f1.length < 17592186044416
theorem rview (xs : List S32) (of : List Int) (hx : xs.length < 2932031007402) (hs : Small xs) (ho : of.length ≤ 9223372036854775807) (B : Nat) (hB : ∀ i, (rd_T32 xs i).f0.length + (rd_T32 xs i).f1.length + 2 ≤ B) (hB2 : of.length + 1 ≤ B) :
    ∀ (d i : Nat), i + d = xs.length → ∀ k, d + B + 1 ≤ k → rotaref19_View.l0 k xs of (viewTo xs of i) (i : Int) = some (viewTo xs of xs.length)
  | 0, i, hi, k, hk => by
    obtain ⟨k, rfl⟩ : ∃ j, k = j + 1 := ⟨k - 1, by omega⟩
    rw [rotaref19_View.l0, if_neg (by omega)]
    obtain rfl : i = xs.length := by omega
    rfl
  | d + 1, i, hi, k, hk => by
    obtain ⟨k, rfl⟩ : ∃ j, k = j + 1 := ⟨k - 1, by omega⟩
    have hil : i < xs.length := by omega
    have hb := hB (i : Int)
    have IH := rview xs of hx hs ho B hB hB2 d (i + 1) (by omega) k (by omega)
    rw [viewTo_succ] at IH
    rw [rotaref19_View.l0, if_pos (by omega), hasF of _ ho k (by omega)]
    simp only [Option.bind_some, decide_eq_true_eq]
    by_cases h : (i : Int) ∈ of
    · rw [if_pos h] at IH ⊢
      rw [if_pos (by omega), copyF _ _ (hs _).1 (hs _).2 k (by omega)]
      simp only [Option.bind_some]
      rw [if_pos (by rw [viewTo_len]; omega), wrap_succ i _ hil (by omega)]
      exact IH
    · rw [if_neg h] at IH ⊢
      rw [if_pos (by rw [viewTo_len]; omega), wrap_succ i _ hil (by omega)]
      exact IH
theorem pview (xs : List S32) (of : List Int) (hx : xs.length < 2932031007402) (hs : Small xs) (ho : of.length ≤ 9223372036854775807) :
    ∀ (d i : Nat), i + d = xs.length → ∀ k, d + of.length + 2 ≤ k → script_View.l0 k of (viewTo xs of i) xs (xs.length : Int) (i : Int) = some (viewTo xs of xs.length)
  | 0, i, hi, k, hk => by
    obtain ⟨k, rfl⟩ : ∃ j, k = j + 1 := ⟨k - 1, by omega⟩
    rw [script_View.l0, if_neg (by omega)]
    obtain rfl : i = xs.length := by omega
    rfl
  | d + 1, i, hi, k, hk => by
    obtain ⟨k, rfl⟩ : ∃ j, k = j + 1 := ⟨k - 1, by omega⟩
    have hil : i < xs.length := by omega
    have IH := pview xs of hx hs ho d (i + 1) (by omega) k (by omega)
    rw [viewTo_succ] at IH
    rw [script_View.l0, if_pos (by omega), if_pos (by omega), if_pos (by omega), containsF of _ ho k (by omega)]
    simp only [Option.bind_some, decide_eq_true_eq]
    by_cases h : (i : Int) ∈ of
    · rw [if_pos h] at IH ⊢
      unfold slices_Clone_uint32_uint32.f slices_Clone_int64_int64.f
      rw [if_pos (hs _).1, if_pos (hs _).2]
      simp only [Option.bind_some]
      rw [if_pos (by rw [viewTo_len]; omega), wrap_succ i _ hil (by omega)]
      exact IH
    · rw [if_neg h] at IH ⊢
      rw [if_pos (by rw [viewTo_len]; omega), wrap_succ i _ hil (by omega)]
      exact IH
end Go.Proofs.YtonnlkpmfmknlaaDoor.Q
end
