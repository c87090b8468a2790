/-
  Plain facts on instructions as words: what Encode comes to on both sides; bits as sums and remainders.
-/
import Derived.Test.YteggfenbifpkkaaQ1
import Derived.Test.YteggfenbifpkkaaGA13
import Derived.Test.YteggfenbifpkkaaGA32
import Derived.Test.YteggfenbifpkkaaGA36
import Derived.Test.YteggfenbifpkkaaGA26
import Derived.Test.YteggfenbifpkkaaGA33
namespace Go.Proofs.Yteggfenbifpkkaa.Q
open Go.RowKit Go.Proofs.Yteggfenbifpkkaa.GA Go.Proofs.Yteggfenbifpkkaa.Hfits

theorem toNat_ofInt32 (a : Nat) (h : a < 4294967296) : (BitVec.ofInt 32 (a : Int)).toNat = a := by
  rw [BitVec.ofInt_natCast, BitVec.toNat_ofNat]; exact Nat.mod_eq_of_lt (by omega)
theorem wrap_u32 (a : Nat) (h : a < 4294967296) : IntKind.u32.wrap (a : Int) = a := by
  simp only [IntKind.wrap, IntKind.bits, IntKind.signed, Bool.false_and]
  simp; omega
theorem or_nat (a b : Nat) (ha : a < 4294967296) (hb : b < 4294967296) : Go.bits .or .u32 (a : Int) (b : Int) = ((a ||| b : Nat) : Int) := by
  have hx : a ||| b < 2 ^ 32 := Nat.or_lt_two_pow (by omega) (by omega)
  show IntKind.u32.wrap ((BitVec.ofInt 32 (a : Int) ||| BitVec.ofInt 32 (b : Int)).toNat : Int) = _
  rw [BitVec.toNat_or, toNat_ofInt32 a ha, toNat_ofInt32 b hb, wrap_u32 _ (by omega)]
theorem and_nat (a b : Nat) (ha : a < 4294967296) (hb : b < 4294967296) : Go.bits .and .u32 (a : Int) (b : Int) = ((a &&& b : Nat) : Int) := by
  have hx : a &&& b < 2 ^ 32 := Nat.and_lt_two_pow _ (by omega)
  show IntKind.u32.wrap ((BitVec.ofInt 32 (a : Int) &&& BitVec.ofInt 32 (b : Int)).toNat : Int) = _
  rw [BitVec.toNat_and, toNat_ofInt32 a ha, toNat_ofInt32 b hb, wrap_u32 _ (by omega)]
/-- What stands above place i, and what stands below it: 'or' is the sum. -/
theorem or_add (i : Nat) (x y : Int) (hx : 0 ≤ x) (hd : x % ((2 ^ i : Nat) : Int) = 0) (hy : 0 ≤ y) (hy2 : y < ((2 ^ i : Nat) : Int)) (hs : x + y < 4294967296) : Go.bits .or .u32 x y = x + y := by
  obtain ⟨a, rfl⟩ := Int.eq_ofNat_of_zero_le hx
  obtain ⟨b, rfl⟩ := Int.eq_ofNat_of_zero_le hy
  have h1 : a % 2 ^ i = 0 := by exact_mod_cast hd
  have h2 : b < 2 ^ i := by exact_mod_cast hy2
  have h3 : a = 2 ^ i * (a / 2 ^ i) := by have := Nat.div_add_mod a (2 ^ i); omega
  rw [or_nat a b (by omega) (by omega)]
  have := Nat.two_pow_add_eq_or_of_lt h2 (a / 2 ^ i)
  rw [← h3] at this
  omega
theorem and_mod (i : Nat) (x : Int) (hi : i ≤ 31) (hx : 0 ≤ x) (hs : x < 4294967296) : Go.bits .and .u32 x (((2 ^ i - 1 : Nat)) : Int) = x % ((2 ^ i : Nat) : Int) := by
  obtain ⟨a, rfl⟩ := Int.eq_ofNat_of_zero_le hx
  have hp : 2 ^ i ≤ 2 ^ 31 := Nat.pow_le_pow_right (by omega) hi
  rw [and_nat a (2 ^ i - 1) (by omega) (by omega), Nat.and_two_pow_sub_one_eq_mod]
  simp
theorem and_15 (x : Int) (hx : 0 ≤ x) (hs : x < 4294967296) : Go.bits .and .u32 x 15 = x % 16 := and_mod 4 x (by omega) hx hs
theorem and_65535 (x : Int) (hx : 0 ≤ x) (hs : x < 4294967296) : Go.bits .and .u32 x 65535 = x % 65536 := and_mod 16 x (by omega) hx hs
theorem and_65520 (x : Int) (hx : 0 ≤ x) (hs : x < 4294967296) : Go.bits .and .u32 x 65520 = x % 65536 - x % 16 := by
  obtain ⟨a, rfl⟩ := Int.eq_ofNat_of_zero_le hx
  have h0 : Go.bits .and .u32 (a : Int) ((65520 : Nat) : Int) = _ := and_nat a 65520 (by omega) (by omega)
  have h1 : a &&& 65520 = (a % 65536) - a % 16 := by
    have e : a &&& 65535 = a % 65536 := Nat.and_two_pow_sub_one_eq_mod a 16
    have e2 : a &&& 15 = a % 16 := Nat.and_two_pow_sub_one_eq_mod a 4
    have e3 : (a &&& 65520) + (a &&& 15) = a &&& 65535 := by
      have hb : (65535 : Nat) = 65520 ||| 15 := by decide
      rw [hb, Nat.and_or_distrib_left]
      have hdvd : a &&& 65520 = 2 ^ 4 * ((a &&& 65520) / 2 ^ 4) := by
        have : (a &&& 65520) % 2 ^ 4 = 0 := by
          rw [← Nat.and_two_pow_sub_one_eq_mod, Nat.and_assoc]
          simp
        omega
      have hlt : a &&& 15 < 2 ^ 4 := Nat.and_lt_two_pow _ (by omega)
      have := Nat.two_pow_add_eq_or_of_lt hlt ((a &&& 65520) / 2 ^ 4)
      rw [← hdvd] at this
      exact this
    omega
  rw [show ((65520 : Nat) : Int) = 65520 from rfl] at h0
  rw [h0, h1]
  omega
def enc (o a b c m : Int) : Int := o * 16777216 + a * 1048576 + b * 65536 + m % 65536 + c
theorem fits_bd {a b c m s : Int} (h : fitsB a b c m s = true) : 0 ≤ a ∧ a < 16 ∧ 0 ≤ b ∧ b < 16 ∧ 0 ≤ c ∧ c < 16 ∧ (c = 0 ∨ m = 0) ∧ -32768 ≤ m ∧ m < 65536 := by
  unfold fitsB reg at h
  split at h
  · simp at h; omega
  · split at h
    · simp at h; omega
    · split at h
      · simp at h; omega
      · split at h
        · simp at h; omega
        · simp at h; omega
theorem wrap_u16 (m : Int) : IntKind.u16.wrap m % 4294967296 = m % 65536 := by
  simp only [IntKind.wrap, IntKind.bits, IntKind.signed, Bool.false_and]
  simp; omega
theorem encode_yes (k : Nat) (hk : k < 58) (a b c m : Int) (h : fitsB a b c m (Hfind.rowAt k).2.1 = true) : word_Encode.f ((k : Int) + 1) a b c m = some (enc ((k : Int) + 1) a b c m, 0) := by
  obtain ⟨h1, h2, h3, h4, h5, h6, h7, h8, h9⟩ := fits_bd h
  unfold word_Encode.f word_fits.f
  rw [find_at k hk]
  simp only [Option.bind_some, if_true, h]
  rw [wrap_u16]
  rw [show ((k : Int) + 1) % 4294967296 * 16777216 % 4294967296 = ((k : Int) + 1) * 16777216 from by omega,
    show a % 4294967296 * 1048576 % 4294967296 = a * 1048576 from by omega, show b % 4294967296 * 65536 % 4294967296 = b * 65536 from by omega, show c % 4294967296 = c from by omega]
  rw [or_add 24 (((k : Int) + 1) * 16777216) (a * 1048576) (by omega) (by first | (simp; done) | (simp; omega)) (by omega) (by first | (simp; done) | (simp; omega)) (by omega)]
  rw [or_add 20 (((k : Int) + 1) * 16777216 + a * 1048576) (b * 65536) (by omega) (by first | (simp; done) | (simp; omega)) (by omega) (by first | (simp; done) | (simp; omega)) (by omega)]
  rw [or_add 16 (((k : Int) + 1) * 16777216 + a * 1048576 + b * 65536) (m % 65536) (by omega) (by simp; omega) (by omega) (by simp; omega) (by omega)]
  have : Go.bits .or .u32 (((k : Int) + 1) * 16777216 + a * 1048576 + b * 65536 + m % 65536) c = ((k : Int) + 1) * 16777216 + a * 1048576 + b * 65536 + m % 65536 + c := by
    rcases h7 with rfl | rfl
    · exact or_add 0 _ _ (by omega) (by first | (simp; done) | (simp; omega)) (by omega) (by simp) (by omega)
    · exact or_add 4 _ _ (by omega) (by simp; omega) (by omega) (by simp; omega) (by omega)
  rw [this]
  rfl
theorem encode_no (k : Nat) (hk : k < 58) (a b c m : Int) (h : fitsB a b c m (Hfind.rowAt k).2.1 = false) : word_Encode.f ((k : Int) + 1) a b c m = some (0, 61) := by
  unfold word_Encode.f word_fits.f
  rw [find_at k hk]
  simp [h]
theorem encode_else (n : Int) (h : ¬ (1 ≤ n ∧ n ≤ 58)) (a b c m : Int) : word_Encode.f n a b c m = some (0, 60) := by
  unfold word_Encode.f
  rw [find_else n h]
  simp
theorem ref_fits (n : Int) (h : Bool) : rotaref06_fits.f n h = some (n == 0 || (h && (decide (0 < n) && decide (n < 16)))) := by
  unfold rotaref06_fits.f
  by_cases h0 : n = 0
  · simp [h0]
  · rw [if_neg h0]
    cases h
    · simp [h0]
    · by_cases h1 : n > 0
      · simp [h0, h1]
      · simp [h0, h1]
theorem has_at (s : Int) : rotaref06_Has.f s = some (decide (s = 1 ∨ s = 2 ∨ s = 3 ∨ s = 5 ∨ s = 6), decide (s = 2 ∨ s = 3), decide (s = 3), if s = 6 then -32768 else 0, if s = 4 ∨ s = 5 then 65535 else if s = 6 then 32767 else 0) := by
  unfold rotaref06_Has.f
  by_cases h1 : s = 1; · subst h1; rfl
  by_cases h2 : s = 2; · subst h2; rfl
  by_cases h3 : s = 3; · subst h3; rfl
  by_cases h4 : s = 4; · subst h4; rfl
  by_cases h5 : s = 5; · subst h5; rfl
  by_cases h6 : s = 6; · subst h6; rfl
  simp [h1, h2, h3, h4, h5, h6]
theorem ref_check (k : Nat) (hk : k < 58) (a b c m : Int) : rotaref06_Check.f ((k : Int) + 1) a b c m = some (if fitsB a b c m (Hfind.rowAt k).2.1 = true then 0 else 61) := by
  unfold rotaref06_Check.f
  rw [table_in k hk]
  obtain ⟨_, _, s0, s1⟩ := cost_at hk
  generalize (Hfind.rowAt k).2.1 = s at *
  simp only [Option.bind_some, if_true, has_at, ref_fits]
  have hs : s = 0 ∨ s = 1 ∨ s = 2 ∨ s = 3 ∨ s = 4 ∨ s = 5 ∨ s = 6 := by omega
  rcases hs with rfl | rfl | rfl | rfl | rfl | rfl | rfl
  all_goals
    simp only [fitsB, reg]
    simp
    repeat' split
    all_goals first | rfl | omega
end Go.Proofs.Yteggfenbifpkkaa.Q
