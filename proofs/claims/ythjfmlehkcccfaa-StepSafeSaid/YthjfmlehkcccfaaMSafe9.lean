import Derived.Test.YthjfmlehkcccfaaMSafe4
import Derived.Test.YthjfmlehkcccfaaMSafe3
import Derived.Test.YthjfmlehkcccfaaMSafe7
import Derived.Test.YthjfmlehkcccfaaMSafe8
section
/-
  (the contract stands in the text that is imported)
-/
end

section
/-
  Plain facts on the table of operations, and on words as instructions: the program's and the reference's answers are the same.
-/
namespace Go.Proofs.Ythjfmlehkcccfaa.Q
open Go.RowKit Go.Proofs.Ythjfmlehkcccfaa.GA Go.Proofs.Ythjfmlehkcccfaa.Hfind Go.Proofs.Ythjfmlehkcccfaa.Hfits
/-- The reference writes "*" where the program writes "all". -/
def star (s : ByteArray) : ByteArray := if s.data.toList = [97, 108, 108] then ⟨#[42]⟩ else s
theorem table_rows : (List.range 58).map (fun k : Nat => rotaref06_table.f ((k : Int) + 1)) =
    (List.range 58).map (fun k : Nat => some ((Hfind.rowAt k).1, (Hfind.rowAt k).2.1, (Hfind.rowAt k).2.2.1, star (Hfind.rowAt k).2.2.2.1, star (Hfind.rowAt k).2.2.2.2, true)) := by kernel_rfl
theorem table_in (k : Nat) (hk : k < 58) : rotaref06_table.f ((k : Int) + 1) = some ((Hfind.rowAt k).1, (Hfind.rowAt k).2.1, (Hfind.rowAt k).2.2.1, star (Hfind.rowAt k).2.2.2.1, star (Hfind.rowAt k).2.2.2.2, true) :=
  of_range 58 (fun k : Nat => rotaref06_table.f ((k : Int) + 1)) _ table_rows k hk
theorem find_at (k : Nat) (hk : k < 58) : word_find.f ((k : Int) + 1) = some ((Hfind.rowAt k).1, (Hfind.rowAt k).2.1, (Hfind.rowAt k).2.2.1, (Hfind.rowAt k).2.2.2.1, (Hfind.rowAt k).2.2.2.2, 0) := by
  unfold word_find.f
  rw [if_pos (by omega), show ((k : Int) + 1 - 1).toNat = k from by omega]
theorem find_else (n : Int) (h : ¬ (1 ≤ n ∧ n ≤ 58)) : word_find.f n = some (⟨#[]⟩, 0, 0, ⟨#[]⟩, ⟨#[]⟩, 60) := by
  unfold word_find.f
  rw [if_neg h]
set_option maxRecDepth 10000 in
theorem table_else (n : Int) (h : ¬ (1 ≤ n ∧ n ≤ 58)) : rotaref06_table.f n = some (⟨#[]⟩, 0, 0, ⟨#[]⟩, ⟨#[]⟩, false) := by
  have h1 : rotaref06_later.f n = some (⟨#[]⟩, 0, 0, ⟨#[]⟩, ⟨#[]⟩, false) := by
    unfold rotaref06_later.f
    iterate 29 rw [if_neg (by omega)]
  unfold rotaref06_table.f
  iterate 29 rw [if_neg (by omega)]
  rw [h1]
  rfl
theorem in_or (n : Int) : (∃ k : Nat, k < 58 ∧ n = (k : Int) + 1) ∨ ¬ (1 ≤ n ∧ n ≤ 58) := by
  by_cases h : 1 ≤ n ∧ n ≤ 58
  · exact .inl ⟨(n - 1).toNat, by omega, by omega⟩
  · exact .inr h
/-- The names are all different, and none is empty. -/
def nameOf (k : Nat) : List UInt8 := (Hfind.rowAt k).1.data.toList
theorem names_all : ((List.range 58).all fun i => (List.range 58).all fun j => (nameOf i == nameOf j) == (i == j)) = true := by kernel_rfl
theorem names_eq {i j : Nat} (hi : i < 58) (hj : j < 58) : (nameOf i == nameOf j) = (i == j) := by
  have := List.all_eq_true.1 (List.all_eq_true.1 names_all i (List.mem_range.2 hi)) j (List.mem_range.2 hj)
  simpa using this
theorem names_long : ((List.range 58).all fun i => decide (0 < (nameOf i).length)) = true := by kernel_rfl
theorem name_long {i : Nat} (hi : i < 58) : 0 < (nameOf i).length := by
  simpa using List.all_eq_true.1 names_long i (List.mem_range.2 hi)
theorem costs_all : ((List.range 58).all fun i => decide (1 ≤ (Hfind.rowAt i).2.2.1 ∧ (Hfind.rowAt i).2.2.1 ≤ 8 ∧ 0 ≤ (Hfind.rowAt i).2.1 ∧ (Hfind.rowAt i).2.1 ≤ 6)) = true := by kernel_rfl
theorem cost_at {i : Nat} (hi : i < 58) : 1 ≤ (Hfind.rowAt i).2.2.1 ∧ (Hfind.rowAt i).2.2.1 ≤ 8 ∧ 0 ≤ (Hfind.rowAt i).2.1 ∧ (Hfind.rowAt i).2.1 ≤ 6 := by
  simpa using List.all_eq_true.1 costs_all i (List.mem_range.2 hi)
theorem toNat_ofInt32 (a : Nat) (h : a < 4294967296) : (BitVec.ofInt 32 (a : Int)).toNat = a := by
  rw [BitVec.ofInt_natCast, BitVec.toNat_ofNat]; exact Nat.mod_eq_of_lt (by omega)
theorem wrap_u32 (a : Nat) (h : a < 4294967296) : IntKind.u32.wrap (a : Int) = a := by
  simp only [IntKind.wrap, IntKind.bits, IntKind.signed, Bool.false_and]
  simp; omega
theorem or_nat (a b : Nat) (ha : a < 4294967296) (hb : b < 4294967296) : Go.bits .or .u32 (a : Int) (b : Int) = ((a ||| b : Nat) : Int) := by
  have hx : a ||| b < 2 ^ 32 := Nat.or_lt_two_pow (by omega) (by omega)
  show IntKind.u32.wrap ((BitVec.ofInt 32 (a : Int) ||| BitVec.ofInt 32 (b : Int)).toNat : Int) = _
  rw [BitVec.toNat_or, toNat_ofInt32 a ha, toNat_ofInt32 b hb, wrap_u32 _ (by omega)]
theorem and_nat (a b : Nat) (ha : a < 4294967296) (hb : b < 4294967296) : Go.bits .and .u32 (a : Int) (b : Int) = ((a &&& b : Nat) : Int) := by
  have hx : a &&& b < 2 ^ 32 := Nat.and_lt_two_pow _ (by omega)
  show IntKind.u32.wrap ((BitVec.ofInt 32 (a : Int) &&& BitVec.ofInt 32 (b : Int)).toNat : Int) = _
  rw [BitVec.toNat_and, toNat_ofInt32 a ha, toNat_ofInt32 b hb, wrap_u32 _ (by omega)]
/-- What stands above place i, and what stands below it: 'or' is the sum. -/
theorem or_add (i : Nat) (x y : Int) (hx : 0 ≤ x) (hd : x % ((2 ^ i : Nat) : Int) = 0) (hy : 0 ≤ y) (hy2 : y < ((2 ^ i : Nat) : Int)) (hs : x + y < 4294967296) : Go.bits .or .u32 x y = x + y := by
  obtain ⟨a, rfl⟩ := Int.eq_ofNat_of_zero_le hx
  obtain ⟨b, rfl⟩ := Int.eq_ofNat_of_zero_le hy
  have h1 : a % 2 ^ i = 0 := by exact_mod_cast hd
  have h2 : b < 2 ^ i := by exact_mod_cast hy2
  have h3 : a = 2 ^ i * (a / 2 ^ i) := by have := Nat.div_add_mod a (2 ^ i); omega
  rw [or_nat a b (by omega) (by omega)]
  have := Nat.two_pow_add_eq_or_of_lt h2 (a / 2 ^ i)
  rw [← h3] at this
  omega
theorem and_mod (i : Nat) (x : Int) (hi : i ≤ 31) (hx : 0 ≤ x) (hs : x < 4294967296) : Go.bits .and .u32 x (((2 ^ i - 1 : Nat)) : Int) = x % ((2 ^ i : Nat) : Int) := by
  obtain ⟨a, rfl⟩ := Int.eq_ofNat_of_zero_le hx
  have hp : 2 ^ i ≤ 2 ^ 31 := Nat.pow_le_pow_right (by omega) hi
  rw [and_nat a (2 ^ i - 1) (by omega) (by omega), Nat.and_two_pow_sub_one_eq_mod]
  simp
theorem and_15 (x : Int) (hx : 0 ≤ x) (hs : x < 4294967296) : Go.bits .and .u32 x 15 = x % 16 := and_mod 4 x (by omega) hx hs
theorem and_65535 (x : Int) (hx : 0 ≤ x) (hs : x < 4294967296) : Go.bits .and .u32 x 65535 = x % 65536 := and_mod 16 x (by omega) hx hs
theorem and_65520 (x : Int) (hx : 0 ≤ x) (hs : x < 4294967296) : Go.bits .and .u32 x 65520 = x % 65536 - x % 16 := by
  obtain ⟨a, rfl⟩ := Int.eq_ofNat_of_zero_le hx
  have h0 : Go.bits .and .u32 (a : Int) ((65520 : Nat) : Int) = _ := and_nat a 65520 (by omega) (by omega)
  have h1 : a &&& 65520 = (a % 65536) - a % 16 := by
    have e : a &&& 65535 = a % 65536 := Nat.and_two_pow_sub_one_eq_mod a 16
    have e2 : a &&& 15 = a % 16 := Nat.and_two_pow_sub_one_eq_mod a 4
    have e3 : (a &&& 65520) + (a &&& 15) = a &&& 65535 := by
      have hb : (65535 : Nat) = 65520 ||| 15 := by decide
      rw [hb, Nat.and_or_distrib_left]
      have hdvd : a &&& 65520 = 2 ^ 4 * ((a &&& 65520) / 2 ^ 4) := by
        have : (a &&& 65520) % 2 ^ 4 = 0 := by
          rw [← Nat.and_two_pow_sub_one_eq_mod, Nat.and_assoc]
          simp
        omega
      have hlt : a &&& 15 < 2 ^ 4 := Nat.and_lt_two_pow _ (by omega)
      have := Nat.two_pow_add_eq_or_of_lt hlt ((a &&& 65520) / 2 ^ 4)
      rw [← hdvd] at this
      exact this
    omega
  rw [show ((65520 : Nat) : Int) = 65520 from rfl] at h0
  rw [h0, h1]
  omega
def enc (o a b c m : Int) : Int := o * 16777216 + a * 1048576 + b * 65536 + m % 65536 + c
theorem fits_bd {a b c m s : Int} (h : fitsB a b c m s = true) : 0 ≤ a ∧ a < 16 ∧ 0 ≤ b ∧ b < 16 ∧ 0 ≤ c ∧ c < 16 ∧ (c = 0 ∨ m = 0) ∧ -32768 ≤ m ∧ m < 65536 := by
  unfold fitsB reg at h
  split at h
  · simp at h; omega
  · split at h
    · simp at h; omega
    · split at h
      · simp at h; omega
      · split at h
        · simp at h; omega
        · simp at h; omega
theorem wrap_u16 (m : Int) : IntKind.u16.wrap m % 4294967296 = m % 65536 := by
  simp only [IntKind.wrap, IntKind.bits, IntKind.signed, Bool.false_and]
  simp; omega
theorem ref_fits (n : Int) (h : Bool) : rotaref06_fits.f n h = some (n == 0 || (h && (decide (0 < n) && decide (n < 16)))) := by
  unfold rotaref06_fits.f
  by_cases h0 : n = 0
  · simp [h0]
  · rw [if_neg h0]
    cases h
    · simp [h0]
    · by_cases h1 : n > 0
      · simp [h0, h1]
      · simp [h0, h1]
theorem has_at (s : Int) : rotaref06_Has.f s = some (decide (s = 1 ∨ s = 2 ∨ s = 3 ∨ s = 5 ∨ s = 6), decide (s = 2 ∨ s = 3), decide (s = 3), if s = 6 then -32768 else 0, if s = 4 ∨ s = 5 then 65535 else if s = 6 then 32767 else 0) := by
  unfold rotaref06_Has.f
  by_cases h1 : s = 1; · subst h1; rfl
  by_cases h2 : s = 2; · subst h2; rfl
  by_cases h3 : s = 3; · subst h3; rfl
  by_cases h4 : s = 4; · subst h4; rfl
  by_cases h5 : s = 5; · subst h5; rfl
  by_cases h6 : s = 6; · subst h6; rfl
  simp [h1, h2, h3, h4, h5, h6]
theorem ref_check (k : Nat) (hk : k < 58) (a b c m : Int) : rotaref06_Check.f ((k : Int) + 1) a b c m = some (if fitsB a b c m (Hfind.rowAt k).2.1 = true then 0 else 61) := by
  unfold rotaref06_Check.f
  rw [table_in k hk]
  obtain ⟨_, _, s0, s1⟩ := cost_at hk
  generalize (Hfind.rowAt k).2.1 = s at *
  simp only [Option.bind_some, if_true, has_at, ref_fits]
  have hs : s = 0 ∨ s = 1 ∨ s = 2 ∨ s = 3 ∨ s = 4 ∨ s = 5 ∨ s = 6 := by omega
  rcases hs with rfl | rfl | rfl | rfl | rfl | rfl | rfl
  all_goals
    simp only [fitsB, reg]
    simp
    repeat' split
    all_goals first | rfl | omega
def dA (w : Int) : Int := w / 1048576 % 16
def dB (w : Int) : Int := w / 65536 % 16
def dC (w s : Int) : Int := if s = 3 then w % 16 else 0
def dM (w s : Int) : Int := if s = 6 then (if 32768 ≤ w % 65536 then w % 65536 - 65536 else w % 65536) else if s = 3 then w % 65536 - w % 16 else w % 65536
theorem wrap_i16 (w : Int) : IntKind.i16.wrap w = if 32768 ≤ w % 65536 then w % 65536 - 65536 else w % 65536 := by
  simp only [IntKind.wrap, IntKind.bits, IntKind.signed]
  simp
theorem word_decode (k : Nat) (hk : k < 58) (w : Int) (h0 : 0 ≤ w) (h1 : w < 4294967296) (ho : w / 16777216 = (k : Int) + 1) :
    word_Decode.f w = some (if fitsB (dA w) (dB w) (dC w (Hfind.rowAt k).2.1) (dM w (Hfind.rowAt k).2.1) (Hfind.rowAt k).2.1 = true then ((k : Int) + 1, dA w, dB w, dC w (Hfind.rowAt k).2.1, dM w (Hfind.rowAt k).2.1, 0) else (0, 0, 0, 0, 0, 61)) := by
  unfold word_Decode.f word_fits.f
  have hw : wrap64 (w / 16777216) = (k : Int) + 1 := by rw [ho]; unfold wrap64; omega
  rw [hw, find_at k hk]
  rw [and_15 (w / 1048576) (by omega) (by omega), and_15 (w / 65536) (by omega) (by omega), and_15 w h0 h1, and_65535 w h0 h1, and_65520 w h0 h1, wrap_i16]
  generalize (Hfind.rowAt k).2.1 = s
  have e1 : wrap64 (w / 1048576 % 16) = dA w := by unfold wrap64 dA; omega
  have e2 : wrap64 (w / 65536 % 16) = dB w := by unfold wrap64 dB; omega
  have e3 : wrap64 (w % 16) = w % 16 := by unfold wrap64; omega
  have e4 : wrap64 (w % 65536 - w % 16) = w % 65536 - w % 16 := by unfold wrap64; omega
  have e5 : wrap64 (w % 65536) = w % 65536 := by unfold wrap64; omega
  have e6 : wrap64 (if 32768 ≤ w % 65536 then w % 65536 - 65536 else w % 65536) = (if 32768 ≤ w % 65536 then w % 65536 - 65536 else w % 65536) := by split <;> (unfold wrap64; omega)
  simp only [Option.bind_some, if_true, e1, e2, e3, e4, e5, e6]
  by_cases s6 : s = 6
  · subst s6
    simp only [dC, dM]
    simp
    repeat' split
    all_goals rfl
  · by_cases s3 : s = 3
    · subst s3
      simp only [dC, dM]
      simp
      repeat' split
      all_goals rfl
    · rw [if_neg s6, if_neg s3]
      simp only [dC, dM, s6, s3, if_false]
      repeat' split
      all_goals rfl
theorem decode_else (w : Int) (h0 : 0 ≤ w) (h1 : w < 4294967296) (h : ¬ (1 ≤ w / 16777216 ∧ w / 16777216 ≤ 58)) : word_Decode.f w = some (0, 0, 0, 0, 0, 60) := by
  unfold word_Decode.f
  have hw : wrap64 (w / 16777216) = w / 16777216 := by unfold wrap64; omega
  rw [hw, find_else _ h]
  simp
theorem wrap_in {i : Int} {n : Nat} (h0 : 0 ≤ i) (h : i < (n : Int)) (hn : n ≤ 9223372036854775807) : wrap64 (i + 1) = i + 1 := by
  unfold wrap64; omega
end Go.Proofs.Ythjfmlehkcccfaa.Q
end
