/-
  A word that is read is just what Encode writes.
-/
import Derived.Test.YteggfenbifpkkaaQ3
import Derived.Test.YteggfenbifpkkaaGA9
set_option linter.unusedVariables false
set_option linter.unusedSimpArgs false
namespace Go.Proofs.Yteggfenbifpkkaa.Pure
open Go.RowKit Go.Proofs.Yteggfenbifpkkaa.GA Go.Proofs.YteggfenbifpkkaaW.PrintWords Go.Proofs.YteggfenbifpkkaaW.PrintLast

theorem u32_bd {w : Int} (h : (Lit.int .u32 w).wf = true) : 0 ≤ w ∧ w < 4294967296 := by
  simp [Lit.wf, IntKind.min, IntKind.max, IntKind.signed, IntKind.bits] at h
  omega
theorem dec_enc (k : Nat) (w : Int) (s : Int) (h0 : 0 ≤ w) (h1 : w < 4294967296) (ho : w / 16777216 = (k : Int) + 1)
    (h : Hfits.fitsB (Q.dA w) (Q.dB w) (Q.dC w s) (Q.dM w s) s = true) : Q.enc ((k : Int) + 1) (Q.dA w) (Q.dB w) (Q.dC w s) (Q.dM w s) = w := by
  obtain ⟨_, _, _, _, _, _, h7, _, _⟩ := Q.fits_bd h
  unfold Q.enc
  by_cases s6 : s = 6
  · subst s6
    simp [Q.dA, Q.dB, Q.dC, Q.dM] at *
    split <;> omega
  · by_cases s3 : s = 3
    · subst s3
      simp only [Hfits.fitsB] at h
      simp [Q.dA, Q.dB, Q.dC, Q.dM] at *
      omega
    · simp [Q.dA, Q.dB, Q.dC, Q.dM, s6, s3] at *
      omega
theorem WordOne : rotalaw06_WordOne.Pure := by
  intro w hw
  obtain ⟨h0, h1⟩ := u32_bd hw
  unfold rotalaw06_WordOne.f
  rcases Q.in_or (w / 16777216) with ⟨k, hk, ho⟩ | hn
  · rw [Q.word_decode k hk w h0 h1 ho]
    by_cases h : Hfits.fitsB (Q.dA w) (Q.dB w) (Q.dC w (Hfind.rowAt k).2.1) (Q.dM w (Hfind.rowAt k).2.1) (Hfind.rowAt k).2.1 = true
    · rw [if_pos h]
      simp only [Option.bind_some, if_true]
      rw [Q.encode_yes k hk _ _ _ _ h, dec_enc k w _ h0 h1 ho h]
      simp
    · rw [if_neg h]
      simp [Q.awake]
  · rw [Q.decode_else w h0 h1 hn]
    simp [Q.awake]
end Go.Proofs.Yteggfenbifpkkaa.Pure
