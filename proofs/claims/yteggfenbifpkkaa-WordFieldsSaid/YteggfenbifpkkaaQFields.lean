/-
  Plain facts on a word with one bit turned.
-/
import Derived.Test.YteggfenbifpkkaaQ3
import Derived.Test.YteggfenbifpkkaaHfields
set_option linter.unusedVariables false
set_option linter.unusedSimpArgs false
namespace Go.Proofs.Yteggfenbifpkkaa.Q
open Go.RowKit Go.Proofs.Yteggfenbifpkkaa.GA Go.Proofs.Yteggfenbifpkkaa.Hfits Go.Proofs.YteggfenbifpkkaaW.PrintWords

theorem xor_nat (a b : Nat) (ha : a < 4294967296) (hb : b < 4294967296) : Go.bits .xor .u32 (a : Int) (b : Int) = ((a ^^^ b : Nat) : Int) := by
  have hx : a ^^^ b < 2 ^ 32 := Nat.xor_lt_two_pow (by omega) (by omega)
  show IntKind.u32.wrap ((BitVec.ofInt 32 (a : Int) ^^^ BitVec.ofInt 32 (b : Int)).toNat : Int) = _
  rw [BitVec.toNat_xor, toNat_ofInt32 a ha, toNat_ofInt32 b hb, wrap_u32 _ (by omega)]
theorem xor_pow (a n : Nat) : a ^^^ 2 ^ n = if a / 2 ^ n % 2 = 0 then a + 2 ^ n else a - 2 ^ n := by
  have key : ∀ (x : Nat), x / 2 ^ n % 2 = 0 → x ^^^ 2 ^ n = x + 2 ^ n := by
    intro x hx
    have hd : x = 2 ^ (n + 1) * (x / 2 ^ (n + 1)) + x % 2 ^ n := by
      have h1 := Nat.div_add_mod x (2 ^ n)
      have h2 : x / 2 ^ n = 2 * (x / 2 ^ n / 2) := by omega
      rw [Nat.div_div_eq_div_mul, ← Nat.pow_succ] at h2
      have h3 : 2 ^ (n + 1) * (x / 2 ^ (n + 1)) = 2 ^ n * (x / 2 ^ n) := by
        rw [h2, Nat.pow_succ, Nat.mul_assoc]
      omega
    have hlt : x % 2 ^ n < 2 ^ n := Nat.mod_lt _ (Nat.two_pow_pos n)
    have hlt2 : x % 2 ^ n < 2 ^ (n + 1) := by rw [Nat.pow_succ]; omega
    generalize x / 2 ^ (n + 1) = q at hd
    generalize x % 2 ^ n = r at hd hlt hlt2
    rw [hd]
    apply Nat.eq_of_testBit_eq
    intro i
    have e1 : 2 ^ (n + 1) * q + r = 2 ^ (n + 1) * q ||| r := Nat.two_pow_add_eq_or_of_lt hlt2 q
    have e2 : 2 ^ (n + 1) * q + r + 2 ^ n = 2 ^ (n + 1) * q ||| (2 ^ n * 1 ||| r) := by
      rw [← Nat.two_pow_add_eq_or_of_lt hlt 1, ← Nat.two_pow_add_eq_or_of_lt (by rw [Nat.pow_succ]; omega) q]
      omega
    rw [e2, e1]
    simp only [Nat.testBit_xor, Nat.testBit_or, Nat.testBit_two_pow, Nat.mul_one, Nat.testBit_two_pow_mul]
    by_cases hi : n = i
    · subst hi
      have hr : r.testBit n = false := Nat.testBit_lt_two_pow hlt
      simp [hr]
    · simp [hi]
  by_cases h : a / 2 ^ n % 2 = 0
  · rw [if_pos h, key a h]
  · rw [if_neg h]
    have hge : 2 ^ n ≤ a := by
      rcases Nat.lt_or_ge a (2 ^ n) with h1 | h1
      · rw [Nat.div_eq_of_lt h1] at h; simp at h
      · exact h1
    have h2 : (a - 2 ^ n) / 2 ^ n % 2 = 0 := by
      have : a / 2 ^ n = (a - 2 ^ n) / 2 ^ n + 1 := by
        rw [← Nat.add_div_right _ (Nat.two_pow_pos n), Nat.sub_add_cancel hge]
      omega
    have h3 := key (a - 2 ^ n) h2
    rw [Nat.sub_add_cancel hge] at h3
    rw [← h3, Nat.xor_assoc, Nat.xor_self, Nat.xor_zero]
    rw [h3]
theorem turned (w : Int) (h0 : 0 ≤ w) (h1 : w < 4294967296) (n : Nat) (hn : n < 24) :
    Go.bits .xor .u32 w (2 ^ n % 4294967296) = if w / ((2 ^ n : Nat) : Int) % 2 = 0 then w + ((2 ^ n : Nat) : Int) else w - ((2 ^ n : Nat) : Int) := by
  obtain ⟨a, rfl⟩ := Int.eq_ofNat_of_zero_le h0
  have hp : 2 ^ n ≤ 2 ^ 23 := Nat.pow_le_pow_right (by omega) (by omega)
  have e : (2 : Int) ^ n % 4294967296 = ((2 ^ n : Nat) : Int) := by
    have h1 : 2 ^ n < 4294967296 := by omega
    have h2 : (((2 : Int) ^ n)) = ((2 ^ n : Nat) : Int) := by simp
    rw [h2]
    generalize (2 ^ n : Nat) = p at h1 ⊢
    omega
  rw [e, xor_nat a _ (by omega) (by omega), xor_pow]
  have hc : ((a : Int) / ((2 ^ n : Nat) : Int) % 2 = 0) ↔ (a / 2 ^ n % 2 = 0) := by
    constructor
    · intro h; exact_mod_cast h
    · intro h; exact_mod_cast h
  by_cases h : a / 2 ^ n % 2 = 0
  · rw [if_pos h, if_pos (hc.2 h)]; omega
  · rw [if_neg h, if_neg (fun x => h (hc.1 x))]
    have hge : 2 ^ n ≤ a := by
      rcases Nat.lt_or_ge a (2 ^ n) with h1 | h1
      · rw [Nat.div_eq_of_lt h1] at h; simp at h
      · exact h1
    omega
/-- What the shape's fields tell of a bit's place. -/
def mine (n s : Int) : Bool := (decide (20 ≤ n) && decide (s = 1 ∨ s = 2 ∨ s = 3 ∨ s = 5 ∨ s = 6)) || ((decide (16 ≤ n) && decide (n < 20)) && decide (s = 2 ∨ s = 3)) || (decide (n < 4) && decide (s = 3)) || (decide (n < 16) && decide (s = 4 ∨ s = 5 ∨ s = 6))
set_option maxHeartbeats 8000000 in
/-- A word's parts, and those of the word with bit n turned. -/
theorem parts_of (w v : Int) (h0 : 0 ≤ w) (h1 : w < 4294967296) (n : Nat) (hn : n < 24) (hv : v = if w / ((2 ^ n : Nat) : Int) % 2 = 0 then w + ((2 ^ n : Nat) : Int) else w - ((2 ^ n : Nat) : Int)) :
    ∃ a b h c a' b' h' c' : Int, w = w / 16777216 * 16777216 + a * 1048576 + b * 65536 + h * 16 + c ∧ v = w / 16777216 * 16777216 + a' * 1048576 + b' * 65536 + h' * 16 + c' ∧
      0 ≤ a ∧ a < 16 ∧ 0 ≤ b ∧ b < 16 ∧ 0 ≤ h ∧ h < 4096 ∧ 0 ≤ c ∧ c < 16 ∧ 0 ≤ a' ∧ a' < 16 ∧ 0 ≤ b' ∧ b' < 16 ∧ 0 ≤ h' ∧ h' < 4096 ∧ 0 ≤ c' ∧ c' < 16 ∧
      (20 ≤ n → a' ≠ a) ∧ (n < 20 → a' = a) ∧ (16 ≤ n → n < 20 → b' ≠ b) ∧ (n < 16 ∨ 20 ≤ n → b' = b) ∧ (4 ≤ n → n < 16 → h' ≠ h) ∧ (n < 4 ∨ 16 ≤ n → h' = h) ∧ (n < 4 → c' ≠ c) ∧ (4 ≤ n → c' = c) := by
  refine ⟨w / 1048576 % 16, w / 65536 % 16, w / 16 % 4096, w % 16, v / 1048576 % 16, v / 65536 % 16, v / 16 % 4096, v % 16, ?_⟩
  have hc : n = 0 ∨ n = 1 ∨ n = 2 ∨ n = 3 ∨ n = 4 ∨ n = 5 ∨ n = 6 ∨ n = 7 ∨ n = 8 ∨ n = 9 ∨ n = 10 ∨ n = 11 ∨ n = 12 ∨ n = 13 ∨ n = 14 ∨ n = 15 ∨ n = 16 ∨ n = 17 ∨ n = 18 ∨ n = 19 ∨ n = 20 ∨ n = 21 ∨ n = 22 ∨ n = 23 := by omega
  clear hn
  rcases hc with rfl | rfl | rfl | rfl | rfl | rfl | rfl | rfl | rfl | rfl | rfl | rfl | rfl | rfl | rfl | rfl | rfl | rfl | rfl | rfl | rfl | rfl | rfl | rfl
  all_goals
    simp only [Nat.reducePow, Int.cast_ofNat_Int] at hv
    split at hv <;> omega
theorem flip_fits (w s : Int) (h0 : 0 ≤ w) (h1 : w < 4294967296) (s0 : 0 ≤ s) (s1 : s ≤ 6) (n : Nat) (hn : n < 24) (v : Int) (hv : v = if w / ((2 ^ n : Nat) : Int) % 2 = 0 then w + ((2 ^ n : Nat) : Int) else w - ((2 ^ n : Nat) : Int))
    (h : fitsB (dA w) (dB w) (dC w s) (dM w s) s = true) :
    0 ≤ v ∧ v < 4294967296 ∧ v / 16777216 = w / 16777216 ∧
      (mine n s = true → fitsB (dA v) (dB v) (dC v s) (dM v s) s = true ∧ ¬ (dA v = dA w ∧ dB v = dB w ∧ dC v s = dC w s ∧ dM v s = dM w s)) ∧
      (mine n s = false → fitsB (dA v) (dB v) (dC v s) (dM v s) s = false) := by
  have hs : s = 0 ∨ s = 1 ∨ s = 2 ∨ s = 3 ∨ s = 4 ∨ s = 5 ∨ s = 6 := by omega
  obtain ⟨a, b, g, c, a', b', g', c', ew, ev, r1, r2, r3, r4, r5, r6, r7, r8, q1, q2, q3, q4, q5, q6, q7, q8, k1, k2, k3, k4, k5, k6, k7, k8⟩ := parts_of w v h0 h1 n hn hv
  clear hv s0 s1
  have eA : dA w = a := by unfold dA; omega
  have eB : dB w = b := by unfold dB; omega
  have fA : dA v = a' := by unfold dA; omega
  have fB : dB v = b' := by unfold dB; omega
  have m1 : w % 65536 = g * 16 + c := by omega
  have m2 : w % 16 = c := by omega
  have m3 : v % 65536 = g' * 16 + c' := by omega
  have m4 : v % 16 = c' := by omega
  refine ⟨by omega, by omega, by omega, ?_⟩
  clear h0 h1 ew ev
  rw [eA, eB] at h ⊢
  rw [fA, fB]
  clear eA eB fA fB
  rcases hs with rfl | rfl | rfl | rfl | rfl | rfl | rfl
  all_goals
    simp only [dC, dM, m1, m2, m3, m4] at h ⊢
    clear m1 m2 m3 m4
    simp [fitsB, reg, mine] at h ⊢
    try (refine ⟨fun hm => ?_, fun hm => ?_⟩)
    all_goals (repeat' split)
    all_goals first | omega | (repeat' split at h) <;> omega
end Go.Proofs.Yteggfenbifpkkaa.Q
