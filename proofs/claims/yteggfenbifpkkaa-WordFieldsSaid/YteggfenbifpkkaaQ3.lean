/-
  Plain facts on words: the reference's Encode, and Decode on both sides.
-/
import Derived.Test.YteggfenbifpkkaaQ2
import Derived.Test.YteggfenbifpkkaaGA14
import Derived.Test.YteggfenbifpkkaaGA24
namespace Go.Proofs.Yteggfenbifpkkaa.Q
open Go.RowKit Go.Proofs.Yteggfenbifpkkaa.GA Go.Proofs.Yteggfenbifpkkaa.Hfits

theorem ref_encode (n a b c m : Int) : rotaref06_Encode.f n a b c m = word_Encode.f n a b c m := by
  unfold rotaref06_Encode.f
  rcases in_or n with ⟨k, hk, rfl⟩ | hn
  · rw [ref_check k hk]
    by_cases h : fitsB a b c m (Hfind.rowAt k).2.1 = true
    · rw [encode_yes k hk a b c m h, if_pos h]
      obtain ⟨h1, h2, h3, h4, h5, h6, h7, h8, h9⟩ := fits_bd h
      simp only [Option.bind_some, if_true, enc]
      split
      · rw [show wrap64 (m + 65536) = m + 65536 from by unfold wrap64; omega]
        refine congrArg some (Prod.ext ?_ rfl)
        simp only []
        omega
      · refine congrArg some (Prod.ext ?_ rfl)
        simp only []
        omega
    · rw [encode_no k hk a b c m (by simpa using h), if_neg h]
      simp
  · have : rotaref06_Check.f n a b c m = some 60 := by
      unfold rotaref06_Check.f
      rw [table_else n hn]
      simp
    rw [encode_else n hn, this]
    simp
def dA (w : Int) : Int := w / 1048576 % 16
def dB (w : Int) : Int := w / 65536 % 16
def dC (w s : Int) : Int := if s = 3 then w % 16 else 0
def dM (w s : Int) : Int := if s = 6 then (if 32768 ≤ w % 65536 then w % 65536 - 65536 else w % 65536) else if s = 3 then w % 65536 - w % 16 else w % 65536
theorem wrap_i16 (w : Int) : IntKind.i16.wrap w = if 32768 ≤ w % 65536 then w % 65536 - 65536 else w % 65536 := by
  simp only [IntKind.wrap, IntKind.bits, IntKind.signed]
  simp
theorem word_decode (k : Nat) (hk : k < 58) (w : Int) (h0 : 0 ≤ w) (h1 : w < 4294967296) (ho : w / 16777216 = (k : Int) + 1) :
    word_Decode.f w = some (if fitsB (dA w) (dB w) (dC w (Hfind.rowAt k).2.1) (dM w (Hfind.rowAt k).2.1) (Hfind.rowAt k).2.1 = true then ((k : Int) + 1, dA w, dB w, dC w (Hfind.rowAt k).2.1, dM w (Hfind.rowAt k).2.1, 0) else (0, 0, 0, 0, 0, 61)) := by
  unfold word_Decode.f word_fits.f
  have hw : wrap64 (w / 16777216) = (k : Int) + 1 := by rw [ho]; unfold wrap64; omega
  rw [hw, find_at k hk]
  rw [and_15 (w / 1048576) (by omega) (by omega), and_15 (w / 65536) (by omega) (by omega), and_15 w h0 h1, and_65535 w h0 h1, and_65520 w h0 h1, wrap_i16]
  generalize (Hfind.rowAt k).2.1 = s
  have e1 : wrap64 (w / 1048576 % 16) = dA w := by unfold wrap64 dA; omega
  have e2 : wrap64 (w / 65536 % 16) = dB w := by unfold wrap64 dB; omega
  have e3 : wrap64 (w % 16) = w % 16 := by unfold wrap64; omega
  have e4 : wrap64 (w % 65536 - w % 16) = w % 65536 - w % 16 := by unfold wrap64; omega
  have e5 : wrap64 (w % 65536) = w % 65536 := by unfold wrap64; omega
  have e6 : wrap64 (if 32768 ≤ w % 65536 then w % 65536 - 65536 else w % 65536) = (if 32768 ≤ w % 65536 then w % 65536 - 65536 else w % 65536) := by split <;> (unfold wrap64; omega)
  simp only [Option.bind_some, if_true, e1, e2, e3, e4, e5, e6]
  by_cases s6 : s = 6
  · subst s6
    simp only [dC, dM]
    simp
    repeat' split
    all_goals rfl
  · by_cases s3 : s = 3
    · subst s3
      simp only [dC, dM]
      simp
      repeat' split
      all_goals rfl
    · rw [if_neg s6, if_neg s3]
      simp only [dC, dM, s6, s3, if_false]
      repeat' split
      all_goals rfl
theorem decode_else (w : Int) (h0 : 0 ≤ w) (h1 : w < 4294967296) (h : ¬ (1 ≤ w / 16777216 ∧ w / 16777216 ≤ 58)) : word_Decode.f w = some (0, 0, 0, 0, 0, 60) := by
  unfold word_Decode.f
  have hw : wrap64 (w / 16777216) = w / 16777216 := by unfold wrap64; omega
  rw [hw, find_else _ h]
  simp
theorem wrap_in {i : Int} {n : Nat} (h0 : 0 ≤ i) (h : i < (n : Int)) (hn : n ≤ 9223372036854775807) : wrap64 (i + 1) = i + 1 := by
  unfold wrap64; omega
end Go.Proofs.Yteggfenbifpkkaa.Q
