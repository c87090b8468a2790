/-
  Decode of any words.
-/
import Derived.Test.YteggfenbifpkkaaPureWordOne
import Derived.Test.YteggfenbifpkkaaGA8
import Derived.Test.YteggfenbifpkkaaGA25
set_option linter.unusedVariables false
set_option linter.unusedSimpArgs false
namespace Go.Proofs.Yteggfenbifpkkaa.Pure
open Go.RowKit Go.Proofs.Yteggfenbifpkkaa.GA Go.Proofs.YteggfenbifpkkaaW.PrintWords Go.Proofs.YteggfenbifpkkaaW.PrintLast

theorem ref_decode (w : Int) (h0 : 0 ≤ w) (h1 : w < 4294967296) : rotaref06_Decode.f w = word_Decode.f w := by
  unfold rotaref06_Decode.f Hdec.decF
  rw [if_pos ⟨h0, h1⟩]
  rcases Q.in_or (w / 16777216) with ⟨j, hj, ho⟩ | hn
  · rw [Q.word_decode j hj w h0 h1 ho, ho, Q.table_in j hj]
    obtain ⟨_, _, s0, s1⟩ := Q.cost_at hj
    generalize (Hfind.rowAt j).2.1 = s at *
    have a0 : 0 ≤ Q.dA w ∧ Q.dA w < 16 := by unfold Q.dA; omega
    have b0 : 0 ≤ Q.dB w ∧ Q.dB w < 16 := by unfold Q.dB; omega
    have m0 : 0 ≤ w % 65536 ∧ w % 65536 < 65536 ∧ 0 ≤ w % 16 ∧ w % 16 < 16 ∧ (w % 65536) % 16 = w % 16 := by omega
    simp only [Option.bind_some, if_true, Q.has_at]
    rw [show w / 1048576 % 16 = Q.dA w from rfl, show w / 65536 % 16 = Q.dB w from rfl]
    have hs : s = 0 ∨ s = 1 ∨ s = 2 ∨ s = 3 ∨ s = 4 ∨ s = 5 ∨ s = 6 := by omega
    clear ho
    rcases hs with rfl | rfl | rfl | rfl | rfl | rfl | rfl
    all_goals
      simp only [Hdec.fields, Hdec.bad, Hdec.fitB, Q.dC, Q.dM, Hfits.fitsB, Hfits.reg]
      simp
      generalize Q.dA w = a at *
      generalize Q.dB w = b at *
      generalize w % 16 = c at *
      generalize w % 65536 = m at *
      repeat' split
      all_goals first | rfl | omega | (simp; omega)
  · rw [Q.decode_else w h0 h1 hn, Q.table_else _ hn]
    simp
theorem decodes (l : List Int) (hl : l.length ≤ 9223372036854775807) (hw : ∀ x ∈ l, (Lit.int .u32 x).wf = true) (d : Nat) : ∀ (k : Nat) (i : Int), 0 ≤ i → i ≤ l.length → (l.length : Int) - i = d → d < k →
    rotalaw06_WordDecodes.l0 k l i = some true := by
  induction d with
  | zero =>
    intro k i h0 h1 hd hk
    obtain ⟨k, rfl⟩ : ∃ m, k = m + 1 := ⟨k - 1, by omega⟩
    rw [rotalaw06_WordDecodes.l0, if_neg (by omega), Q.awake]; rfl
  | succ d ih =>
    intro k i h0 h1 hd hk
    obtain ⟨k, rfl⟩ : ∃ m, k = m + 1 := ⟨k - 1, by omega⟩
    have hlt : i < (l.length : Int) := by omega
    rw [rotalaw06_WordDecodes.l0]
    rw [if_pos hlt, if_pos h0]
    have hin : rd l i ∈ l := by
      unfold rd
      rw [List.getD_eq_getElem?_getD, List.getElem?_eq_getElem (by omega)]
      exact List.getElem_mem _
    obtain ⟨b0, b1⟩ := u32_bd (hw _ hin)
    rw [ref_decode _ b0 b1]
    obtain ⟨y, hy⟩ : ∃ y, word_Decode.f (rd l i) = some y := by
      rcases Q.in_or (rd l i / 16777216) with ⟨j, hj, ho⟩ | hn
      · exact ⟨_, Q.word_decode j hj _ b0 b1 ho⟩
      · exact ⟨_, Q.decode_else _ b0 b1 hn⟩
    rw [hy]
    simp only [Option.bind_some]
    rw [Q.wrap_in h0 hlt hl]
    have := ih k (i + 1) (by omega) (by omega) (by omega) (by omega)
    simp [this]
theorem WordDecodes : rotalaw06_WordDecodes.Pure := by
  intro l hl _ hw
  unfold maxLen at hl
  exact ⟨l.length + 1, decodes l (by omega) hw l.length (l.length + 1) 0 (by omega) (by omega) (by omega) (by omega)⟩
end Go.Proofs.Yteggfenbifpkkaa.Pure
