/-
  Plain facts on instructions: what Encode wrote is brought back; the registers that are looked at and changed.
-/
import Derived.Test.YteggfenbifpkkaaQ3
import Derived.Test.YteggfenbifpkkaaGA12
import Derived.Test.YteggfenbifpkkaaGA27
set_option linter.unusedVariables false
set_option linter.unusedSimpArgs false
namespace Go.Proofs.Yteggfenbifpkkaa.Q
open Go.RowKit Go.Proofs.Yteggfenbifpkkaa.GA Go.Proofs.Yteggfenbifpkkaa.Hfits Go.Proofs.YteggfenbifpkkaaW.PrintWords Go.Proofs.YteggfenbifpkkaaW.PrintMore

theorem enc_dec (k : Nat) (hk : k < 58) (a b c m s : Int) (h : fitsB a b c m s = true) :
    (0 ≤ enc ((k : Int) + 1) a b c m ∧ enc ((k : Int) + 1) a b c m < 4294967296) ∧ enc ((k : Int) + 1) a b c m / 16777216 = (k : Int) + 1 ∧ dA (enc ((k : Int) + 1) a b c m) = a ∧ dB (enc ((k : Int) + 1) a b c m) = b ∧
      dC (enc ((k : Int) + 1) a b c m) s = c ∧ dM (enc ((k : Int) + 1) a b c m) s = m := by
  obtain ⟨h1, h2, h3, h4, h5, h6, h7, h8, h9⟩ := fits_bd h
  have hm : 0 ≤ m % 65536 + c ∧ m % 65536 + c < 65536 := by omega
  have hl : enc ((k : Int) + 1) a b c m % 65536 = m % 65536 + c := by unfold enc; omega
  have hl4 : enc ((k : Int) + 1) a b c m % 16 = (m % 65536 + c) % 16 := by unfold enc; omega
  refine ⟨by unfold enc; omega, by unfold enc; omega, by unfold dA enc; omega, by unfold dB enc; omega, ?_, ?_⟩
  · unfold dC
    rw [hl4]
    by_cases s3 : s = 3
    · subst s3
      simp [fitsB] at h
      rw [if_pos rfl]; omega
    · rw [if_neg s3]
      unfold fitsB at h
      by_cases s0 : s = 0
      · rw [if_pos s0] at h; simp at h; omega
      · rw [if_neg s0] at h
        by_cases s1 : s = 1 ∨ s = 2 ∨ s = 3
        · rw [if_pos s1] at h; simp at h; omega
        · rw [if_neg s1] at h
          by_cases s4 : s = 4
          · rw [if_pos s4] at h; simp at h; omega
          · rw [if_neg s4] at h
            by_cases s6 : s = 6
            · rw [if_pos s6] at h; simp at h; omega
            · rw [if_neg s6] at h; simp at h; omega
  · unfold dM
    rw [hl, hl4]
    by_cases s6 : s = 6
    · subst s6
      simp [fitsB, reg] at h
      rw [if_pos rfl]; split <;> omega
    · rw [if_neg s6]
      by_cases s3 : s = 3
      · subst s3
        simp [fitsB, reg] at h
        rw [if_pos rfl]; omega
      · rw [if_neg s3]
        unfold fitsB reg at h
        by_cases s0 : s = 0
        · rw [if_pos s0] at h; simp at h; omega
        · rw [if_neg s0] at h
          by_cases s1 : s = 1 ∨ s = 2 ∨ s = 3
          · rw [if_pos s1] at h; simp at h; omega
          · rw [if_neg s1] at h
            by_cases s4 : s = 4
            · rw [if_pos s4] at h; simp at h; omega
            · rw [if_neg s4, if_neg s6] at h; simp at h; omega
theorem WordBack (o a b c m : Int) : rotalaw06_WordBack.f o a b c m = some true := by
  unfold rotalaw06_WordBack.f
  rcases in_or o with ⟨k, hk, rfl⟩ | ho
  · by_cases h : fitsB a b c m (Hfind.rowAt k).2.1 = true
    · rw [encode_yes k hk a b c m h]
      obtain ⟨⟨e0, e1⟩, e2, e3, e4, e5, e6⟩ := enc_dec k hk a b c m _ h
      simp only [Option.bind_some, if_true]
      rw [word_decode k hk _ e0 e1 e2, e3, e4, e5, e6, if_pos h]
      simp [e2]
      unfold wrap64; omega
    · have h' : fitsB a b c m (Hfind.rowAt k).2.1 = false := by simpa using h
      rw [encode_no k hk a b c m h']
      unfold word_Reads.f
      rw [encode_no k hk a b c m h']
      simp [awake]
  · rw [encode_else o ho]
    unfold word_Reads.f
    rw [encode_else o ho]
    simp [awake]

end Go.Proofs.Yteggfenbifpkkaa.Q
