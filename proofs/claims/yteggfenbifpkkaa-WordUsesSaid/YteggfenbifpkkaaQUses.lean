/-
  Plain facts on instructions: what Encode wrote is brought back; the registers that are looked at and changed.
-/
import Derived.Test.YteggfenbifpkkaaQ3
import Derived.Test.YteggfenbifpkkaaGA11
import Derived.Test.YteggfenbifpkkaaGA27
import Derived.Test.YteggfenbifpkkaaGA28
import Derived.Test.YteggfenbifpkkaaGA29
import Derived.Test.YteggfenbifpkkaaGA30
import Derived.Test.YteggfenbifpkkaaGA37
import Derived.Test.YteggfenbifpkkaaGA38
import Derived.Test.YteggfenbifpkkaaHmask
set_option linter.unusedVariables false
set_option linter.unusedSimpArgs false
namespace Go.Proofs.Yteggfenbifpkkaa.Q
open Go.RowKit Go.Proofs.Yteggfenbifpkkaa.GA Go.Proofs.Yteggfenbifpkkaa.Hfits Go.Proofs.YteggfenbifpkkaaW.PrintWords Go.Proofs.YteggfenbifpkkaaW.PrintMore

/-! ### masks -/
theorem wrap_u64 {a : Int} (h0 : 0 ≤ a) (h : a < 16) : IntKind.u64.wrap a = a := by
  simp only [IntKind.wrap, IntKind.bits, IntKind.signed, Bool.false_and]
  simp; omega
def abc (x : UInt8) : Bool := x == 97 || x == 98 || x == 99
def lettersOk (s : ByteArray) : Bool := s.data.toList == [97, 108, 108] || s.data.toList.all abc
theorem letters_all : ((List.range 58).all fun i => lettersOk (Hfind.rowAt i).2.2.2.1 && lettersOk (Hfind.rowAt i).2.2.2.2 && decide ((Hfind.rowAt i).2.2.2.1.size ≤ 3) && decide ((Hfind.rowAt i).2.2.2.2.size ≤ 3)) = true := by kernel_rfl
theorem letters_at {i : Nat} (hi : i < 58) : lettersOk (Hfind.rowAt i).2.2.2.1 = true ∧ lettersOk (Hfind.rowAt i).2.2.2.2 = true ∧ (Hfind.rowAt i).2.2.2.1.size ≤ 3 ∧ (Hfind.rowAt i).2.2.2.2.size ≤ 3 := by
  have := List.all_eq_true.1 letters_all i (List.mem_range.2 hi)
  simp only [Bool.and_eq_true, decide_eq_true_eq] at this
  exact ⟨this.1.1.1, this.1.1.2, this.1.2, this.2⟩
theorem bt_get (s : ByteArray) (i : Nat) (h : i < s.size) : bt s (i : Int) = ((s.data.toList[i]'(by simpa using h)).toNat : Int) := by
  unfold bt
  simp [h]
  rfl
theorem drop_cons (s : ByteArray) (i : Nat) (h : i < s.size) : s.data.toList.drop i = (s.data.toList[i]'(by simpa using h)) :: s.data.toList.drop (i + 1) :=
  List.drop_eq_getElem_cons (by simpa using h)
theorem bits_abc (s : ByteArray) (o a b c m : Int) (ha : 0 ≤ a ∧ a < 16) (hb : 0 ≤ b ∧ b < 16) (hc : 0 ≤ c ∧ c < 16) (hs : s.data.toList.all abc = true) (hn : s.size ≤ 3) (d : Nat) :
    ∀ (k i : Nat) (acc : Int), i ≤ s.size → s.size - i = d → d < k → rotaref06_bits.l0 k s acc i o a b c m = some ((s.data.toList.drop i).foldl (Hmask.mstep a b c) acc) := by
  induction d with
  | zero =>
    intro k i acc h1 hd hk
    obtain ⟨k, rfl⟩ : ∃ m, k = m + 1 := ⟨k - 1, by omega⟩
    obtain rfl : i = s.size := by omega
    rw [rotaref06_bits.l0, if_neg (by omega), List.drop_of_length_le (by simp)]
    rfl
  | succ d ih =>
    intro k i acc h1 hd hk
    obtain ⟨k, rfl⟩ : ∃ m, k = m + 1 := ⟨k - 1, by omega⟩
    have hi : i < s.size := by omega
    rw [rotaref06_bits.l0, if_pos (by omega), if_pos (by omega), drop_cons s i hi, bt_get s i hi]
    have hx : abc (s.data.toList[i]'(by simpa using hi)) = true := List.all_eq_true.1 hs _ (List.getElem_mem _)
    generalize s.data.toList[i]'(by simpa using hi) = x at *
    have hw : wrap64 ((i : Int) + 1) = ((i + 1 : Nat) : Int) := by unfold wrap64; omega
    rw [hw, wrap_u64 ha.1 ha.2, wrap_u64 hb.1 hb.2, wrap_u64 hc.1 hc.2, List.foldl_cons]
    simp only [abc, Bool.or_eq_true, beq_iff_eq] at hx
    rcases hx with (rfl | rfl) | rfl
    · rw [if_neg (by decide), if_pos (by decide), if_pos ha.1]
      exact ih k (i + 1) _ (by omega) (by omega) (by omega)
    · rw [if_neg (by decide), if_neg (by decide), if_pos (by decide), if_pos hb.1]
      exact ih k (i + 1) _ (by omega) (by omega) (by omega)
    · rw [if_neg (by decide), if_neg (by decide), if_neg (by decide), if_pos (by decide), if_pos hc.1]
      exact ih k (i + 1) _ (by omega) (by omega) (by omega)
theorem bits_star (o a b c m : Int) (k : Nat) (hk : 2 ≤ k) : rotaref06_bits.f k ⟨#[42]⟩ o a b c m = some 65535 := by
  obtain ⟨k, rfl⟩ : ∃ m, k = m + 2 := ⟨k - 2, by omega⟩
  unfold rotaref06_bits.f
  rw [rotaref06_bits.l0, if_pos (by decide), if_pos (by decide), if_pos (by decide)]
  rw [show wrap64 (0 + 1) = 1 from by unfold wrap64; omega, rotaref06_bits.l0, if_neg (by decide)]
theorem masks (s : ByteArray) (o a b c m : Int) (ha : 0 ≤ a ∧ a < 16) (hb : 0 ≤ b ∧ b < 16) (hc : 0 ≤ c ∧ c < 16) (hs : lettersOk s = true) (hn : s.size ≤ 3) :
    ∃ v, word_mask.f o a b c m s = some v ∧ ∀ k, 5 ≤ k → rotaref06_bits.f k (star s) o a b c m = some v := by
  unfold word_mask.f star
  by_cases e : s.data.toList = [97, 108, 108]
  · obtain rfl : s = ⟨#[97, 108, 108]⟩ := ByteArray.ext (Array.toList_inj.1 e)
    refine ⟨65535, by rw [if_pos rfl], fun k hk => ?_⟩
    rw [if_pos (by rfl)]
    exact bits_star o a b c m k (by omega)
  · have hne : s ≠ ⟨#[97, 108, 108]⟩ := fun h => e (by rw [h])
    rw [if_neg e, if_neg hne]
    have hall : s.data.toList.all abc = true := by
      unfold lettersOk at hs
      rcases Bool.or_eq_true_iff.1 hs with h | h
      · exact absurd (beq_iff_eq.1 h) e
      · exact h
    have h8 : ∀ x ∈ s.data.toList, x.toNat < 128 := by
      intro x hx
      have := List.all_eq_true.1 hall x hx
      simp only [abc, Bool.or_eq_true, beq_iff_eq] at this
      rcases this with (rfl | rfl) | rfl <;> decide
    rw [if_pos ⟨ha.1, hb.1, hc.1, h8⟩]
    refine ⟨_, rfl, fun k hk => ?_⟩
    unfold rotaref06_bits.f Hmask.mfold
    have := bits_abc s o a b c m ha hb hc hall hn s.size k 0 0 (by omega) (by omega) (by omega)
    simpa using this
theorem reads_eq (o a b c m : Int) (k : Nat) (hk : 5 ≤ k) : ∃ v, word_Reads.f o a b c m = some v ∧ rotaref06_Reads.f k o a b c m = some v := by
  unfold word_Reads.f rotaref06_Reads.f
  rcases in_or o with ⟨j, hj, rfl⟩ | ho
  · rw [ref_check j hj]
    by_cases h : fitsB a b c m (Hfind.rowAt j).2.1 = true
    · rw [encode_yes j hj a b c m h, if_pos h, find_at j hj, table_in j hj]
      obtain ⟨h1, h2, h3, h4, h5, h6, _, _, _⟩ := fits_bd h
      obtain ⟨l1, _, l3, _⟩ := letters_at hj
      obtain ⟨v, hv1, hv2⟩ := masks (Hfind.rowAt j).2.2.2.1 ((j : Int) + 1) a b c m ⟨h1, h2⟩ ⟨h3, h4⟩ ⟨h5, h6⟩ l1 l3
      simp only [Option.bind_some, if_true]
      rw [hv1, hv2 k hk]
      exact ⟨_, rfl, rfl⟩
    · rw [encode_no j hj a b c m (by simpa using h), if_neg h]
      simp
  · have : rotaref06_Check.f o a b c m = some 60 := by
      unfold rotaref06_Check.f
      rw [table_else o ho]
      simp
    rw [encode_else o ho, this]
    simp
theorem writes_eq (o a b c m : Int) (k : Nat) (hk : 5 ≤ k) : ∃ v, word_Writes.f o a b c m = some v ∧ rotaref06_Writes.f k o a b c m = some v := by
  unfold word_Writes.f rotaref06_Writes.f
  rcases in_or o with ⟨j, hj, rfl⟩ | ho
  · rw [ref_check j hj]
    by_cases h : fitsB a b c m (Hfind.rowAt j).2.1 = true
    · rw [encode_yes j hj a b c m h, if_pos h, find_at j hj, table_in j hj]
      obtain ⟨h1, h2, h3, h4, h5, h6, _, _, _⟩ := fits_bd h
      obtain ⟨_, l2, _, l4⟩ := letters_at hj
      obtain ⟨v, hv1, hv2⟩ := masks (Hfind.rowAt j).2.2.2.2 ((j : Int) + 1) a b c m ⟨h1, h2⟩ ⟨h3, h4⟩ ⟨h5, h6⟩ l2 l4
      simp only [Option.bind_some, if_true]
      rw [hv1, hv2 k hk]
      exact ⟨_, rfl, rfl⟩
    · rw [encode_no j hj a b c m (by simpa using h), if_neg h]
      simp
  · have : rotaref06_Check.f o a b c m = some 60 := by
      unfold rotaref06_Check.f
      rw [table_else o ho]
      simp
    rw [encode_else o ho, this]
    simp
theorem uses (l : List S28) (hl : l.length ≤ 9223372036854775807) (d : Nat) : ∀ (k : Nat) (i : Int), 0 ≤ i → i ≤ l.length → (l.length : Int) - i = d → d + 5 < k → rotalaw06_WordUses.l0 k l i = some true := by
  induction d with
  | zero =>
    intro k i h0 h1 hd hk
    obtain ⟨k, rfl⟩ : ∃ m, k = m + 1 := ⟨k - 1, by omega⟩
    rw [rotalaw06_WordUses.l0, if_neg (by omega), awake]; rfl
  | succ d ih =>
    intro k i h0 h1 hd hk
    obtain ⟨k, rfl⟩ : ∃ m, k = m + 1 := ⟨k - 1, by omega⟩
    have hlt : i < (l.length : Int) := by omega
    rw [rotalaw06_WordUses.l0, if_pos hlt, if_pos h0]
    generalize rd_T28 l i = x
    obtain ⟨u, hu1, hu2⟩ := reads_eq x.f0 x.f1 x.f2 x.f3 x.f4 k (by omega)
    obtain ⟨v, hv1, hv2⟩ := writes_eq x.f0 x.f1 x.f2 x.f3 x.f4 k (by omega)
    rw [hu1, hu2, hv1, hv2]
    simp only [Option.bind_some]
    rw [wrap_in h0 hlt hl]
    have := ih k (i + 1) (by omega) (by omega) (by omega) (by omega)
    simp [this]
theorem WordUses (l : List S28) (hl : l.length ≤ maxLen) : rotalaw06_WordUses.f (l.length + 6) l = some true := by
  unfold maxLen at hl
  exact uses l (by omega) l.length (l.length + 6) 0 (by omega) (by omega) (by omega) (by omega)
end Go.Proofs.Yteggfenbifpkkaa.Q
