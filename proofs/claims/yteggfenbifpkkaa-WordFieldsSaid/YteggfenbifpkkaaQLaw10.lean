/-
  The statement WordFields: the walk joined with the plain facts.
-/
import Derived.Test.YteggfenbifpkkaaQFields
set_option linter.unusedVariables false
set_option linter.unusedSimpArgs false
namespace Go.Proofs.Yteggfenbifpkkaa.Q
open Go.RowKit Go.Proofs.Yteggfenbifpkkaa.GA Go.Proofs.Yteggfenbifpkkaa.Hfits Go.Proofs.YteggfenbifpkkaaW.PrintWords

theorem ne4 {a a' b b' c c' d d' : Int} (h : ¬ (a = a' ∧ b = b' ∧ c = c' ∧ d = d')) : (!(a == a') || (!(b == b') || (!(c == c') || (!(d == d'))))) = true := by
  by_cases h1 : a = a'
  · by_cases h2 : b = b'
    · by_cases h3 : c = c'
      · by_cases h4 : d = d'
        · exact absurd ⟨h1, h2, h3, h4⟩ h
        · simp [h4]
      · simp [h3]
    · simp [h2]
  · simp [h1]
theorem fields_calls (w0 b : Int) (hw0 : 0 ≤ w0) (hw1 : w0 < 4294967296) (hb0 : 0 ≤ b) (hb1 : b ≤ 255) (w : World) :
    Calls Try.prog 10 #[.int .u32 w0, .int .u8 b] w fun e w' => e = .returned (.bool true) ∧ Below w.heap.size w w' := by
  rcases in_or (w0 / 16777216) with ⟨k, hk, ho⟩ | hn
  · have hd := word_decode k hk w0 hw0 hw1 ho
    by_cases hf : fitsB (dA w0) (dB w0) (dC w0 (Hfind.rowAt k).2.1) (dM w0 (Hfind.rowAt k).2.1) (Hfind.rowAt k).2.1 = true
    · rw [if_pos hf] at hd
      obtain ⟨_, _, s0, s1⟩ := cost_at hk
      have hs : word_Shape.f ((k : Int) + 1) = some ((Hfind.rowAt k).2.1, 0) := by
        unfold word_Shape.f
        rw [find_at k hk]; rfl
      obtain ⟨n, hn⟩ : ∃ n : Nat, (n : Int) = b % 24 := ⟨(b % 24).toNat, by omega⟩
      have hn24 : n < 24 := by omega
      have hnt : (b % 24).toNat = n := by omega
      obtain ⟨v, hv⟩ : ∃ v, v = if w0 / ((2 ^ n : Nat) : Int) % 2 = 0 then w0 + ((2 ^ n : Nat) : Int) else w0 - ((2 ^ n : Nat) : Int) := ⟨_, rfl⟩
      have hx : Go.bits .xor .u32 w0 (2 ^ (b % 24).toNat % 4294967296) = v := by rw [hnt, turned w0 hw0 hw1 n hn24, hv]
      obtain ⟨v0, v1, vo, vm, vn⟩ := flip_fits w0 _ hw0 hw1 s0 s1 n hn24 v hv hf
      have hd2 := word_decode k hk v v0 v1 (vo.trans ho)
      have hh := has_at (Hfind.rowAt k).2.1
      generalize (Hfind.rowAt k).2.1 = s at *
      have yes : mine n s = true → word_Decode.f (Go.bits .xor .u32 w0 (2 ^ (b % 24).toNat % 4294967296)) = some ((k : Int) + 1, dA v, dB v, dC v s, dM v s, 0) ∧ (!(dA v == dA w0) || (!(dB v == dB w0) || (!(dC v s == dC w0 s) || (!(dM v s == dM w0 s))))) = true := by
        intro hm
        rw [hx, hd2, if_pos (vm hm).1]
        exact ⟨rfl, ne4 (vm hm).2⟩
      have no : mine n s = false → word_Decode.f (Go.bits .xor .u32 w0 (2 ^ (b % 24).toNat % 4294967296)) = some (0, 0, 0, 0, 0, 61) := by
        intro hm
        rw [hx, hd2, if_neg (by rw [vn hm]; simp)]
      clear hd2 vm vn hx hv v0 v1 vo
      by_cases h20 : 20 ≤ b % 24
      · have d20 : decide (20 ≤ b % 24) = true := decide_eq_true h20
        by_cases hA : s = 1 ∨ s = 2 ∨ s = 3 ∨ s = 5 ∨ s = 6
        · obtain ⟨y1, y2⟩ := yes (by unfold mine; rw [hn, d20, decide_eq_true hA]; rfl)
          exact Hfields.law_A1 w0 b hb0 hb1 _ _ _ _ _ _ _ _ _ _ _ _ _ _ _ _ hd y1 hs hh d20 (decide_eq_true hA) y2 w
        · exact Hfields.law_A0 w0 b hb0 hb1 _ _ _ _ _ _ _ _ _ _ _ _ _ _ _ _ _ hd (no (by unfold mine; rw [hn, decide_eq_false hA]; simp; omega)) hs hh d20 (decide_eq_false hA) w
      · have d20 : decide (20 ≤ b % 24) = false := decide_eq_false h20
        by_cases h16 : 16 ≤ b % 24
        · have d16 : decide (16 ≤ b % 24) = true := decide_eq_true h16
          by_cases hB : s = 2 ∨ s = 3
          · obtain ⟨y1, y2⟩ := yes (by unfold mine; rw [hn, d16, decide_eq_true hB, decide_eq_true (show b % 24 < 20 by omega)]; simp)
            exact Hfields.law_B1 w0 b hb0 hb1 _ _ _ _ _ _ _ _ _ _ _ _ _ _ _ _ hd y1 hs hh d20 d16 (decide_eq_true hB) y2 w
          · exact Hfields.law_B0 w0 b hb0 hb1 _ _ _ _ _ _ _ _ _ _ _ _ _ _ _ _ _ hd (no (by unfold mine; rw [hn, decide_eq_false hB, d20]; simp; omega)) hs hh d20 d16 (decide_eq_false hB) w
        · have d16 : decide (16 ≤ b % 24) = false := decide_eq_false h16
          have l16 : decide (b % 24 < 16) = true := decide_eq_true (by omega)
          have hhi : (decide (0 < (if s = 4 ∨ s = 5 then (65535 : Int) else if s = 6 then 32767 else 0)) = true) ↔ (s = 4 ∨ s = 5 ∨ s = 6) := by
            constructor
            · intro h
              have := of_decide_eq_true h
              split at this
              · omega
              · split at this <;> omega
            · intro h
              apply decide_eq_true
              split
              · omega
              · split <;> omega
          by_cases h4 : b % 24 < 4
          · have d4 : decide (b % 24 < 4) = true := decide_eq_true h4
            by_cases hC : s = 3
            · obtain ⟨y1, y2⟩ := yes (by unfold mine; rw [hn, d4, decide_eq_true hC]; simp)
              exact Hfields.law_C1 w0 b hb0 hb1 _ _ _ _ _ _ _ _ _ _ _ _ _ _ _ _ hd y1 hs hh d20 d16 d4 (decide_eq_true hC) y2 w
            · by_cases hI : s = 4 ∨ s = 5 ∨ s = 6
              · obtain ⟨y1, y2⟩ := yes (by unfold mine; rw [hn, l16, decide_eq_true hI]; simp)
                exact Hfields.law_J1 w0 b hb0 hb1 _ _ _ _ _ _ _ _ _ _ _ _ _ _ _ _ hd y1 hs hh d20 d16 d4 (decide_eq_false hC) (hhi.2 hI) y2 w
              · exact Hfields.law_J0 w0 b hb0 hb1 _ _ _ _ _ _ _ _ _ _ _ _ _ _ _ _ _ hd (no (by unfold mine; rw [hn, d20, d16, decide_eq_false hC, decide_eq_false hI]; simp)) hs hh d20 d16 d4 (decide_eq_false hC) (by
                  rw [Bool.eq_false_iff]; exact fun h => hI (hhi.1 h)) w
          · have d4 : decide (b % 24 < 4) = false := decide_eq_false h4
            by_cases hI : s = 4 ∨ s = 5 ∨ s = 6
            · obtain ⟨y1, y2⟩ := yes (by unfold mine; rw [hn, l16, decide_eq_true hI]; simp)
              exact Hfields.law_I1 w0 b hb0 hb1 _ _ _ _ _ _ _ _ _ _ _ _ _ _ _ _ hd y1 hs hh d20 d16 d4 (hhi.2 hI) y2 w
            · exact Hfields.law_I0 w0 b hb0 hb1 _ _ _ _ _ _ _ _ _ _ _ _ _ _ _ _ _ hd (no (by unfold mine; rw [hn, d20, d16, d4, decide_eq_false hI]; simp)) hs hh d20 d16 d4 (by
                rw [Bool.eq_false_iff]; exact fun h => hI (hhi.1 h)) w
    · rw [if_neg hf] at hd
      exact Hfields.law_no w0 b hb0 hb1 61 _ _ _ _ _ hd (by decide) awake w
  · exact Hfields.law_no w0 b hb0 hb1 60 _ _ _ _ _ (decode_else w0 hw0 hw1 hn) (by decide) awake w
end Go.Proofs.Yteggfenbifpkkaa.Q
