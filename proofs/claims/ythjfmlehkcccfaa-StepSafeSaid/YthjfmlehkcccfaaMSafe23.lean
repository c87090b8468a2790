import Derived.Test.YthjfmlehkcccfaaMSafe12
import Derived.Test.YthjfmlehkcccfaaMSafe22
section
/-
  What the reference's Check lets by: from each word the next one is within the code (plain).
-/
set_option linter.unusedVariables false
set_option linter.unusedSimpArgs false
namespace Go.Proofs.Ythjfmlehkcccfaa.Qsafe
open Go.RowKit Go.Proofs.YthjfmlehkcccfaaW.PrintWords Go.Proofs.YthjfmlehkcccfaaW.PrintLast Go.Proofs.YthjfmlehkcccfaaW.PrintMore GA
section
variable (l0 : List Int) (l1 : List S75) (l2 : List S98)
/-- From function i on the code is parted, from a place on. -/
structure Parted (i at_ : Int) : Prop where
  good : ∀ j : Int, i ≤ j → j < l1.length → at_ ≤ (rd_T75 l1 j).f0 ∧ (rd_T75 l1 j).f0 < (rd_T75 l1 j).f1 ∧ (rd_T75 l1 j).f1 ≤ l0.length
  cover : ∀ p : Int, at_ ≤ p → p < l0.length → ∃ j : Int, i ≤ j ∧ j < l1.length ∧ (rd_T75 l1 j).f0 ≤ p ∧ p < (rd_T75 l1 j).f1
theorem wrap_n {i n : Nat} (h : i < n) (hn : n < 1125899906842624) : wrap64 ((i : Int) + 1) = ((i + 1 : Nat) : Int) := by unfold wrap64; omega
theorem parts_l0 (hn : l1.length < 1125899906842624) (d : Nat) : ∀ (k i : Nat) (at_ : Int), i + d = l1.length → d < k → 0 ≤ at_ →
    ∃ r : Int, rotaref08_parts.l0 k at_ i l0 l1 l2 = some r ∧ (r = -1 ∨ 0 ≤ r) ∧ (r = -1 → Parted l0 l1 i at_) := by
  induction d with
  | zero =>
    intro k i at_ hi hk ha
    obtain ⟨k, rfl⟩ : ∃ m, k = m + 1 := ⟨k - 1, by omega⟩
    rw [rotaref08_parts.l0, if_neg (by omega)]
    by_cases h0 : (l1.length : Int) = 0
    · rw [if_pos h0]; exact ⟨_, rfl, by omega, by omega⟩
    · rw [if_neg h0]
      by_cases h1 : at_ = (l0.length : Int)
      · rw [if_pos h1]
        exact ⟨_, rfl, .inl rfl, fun _ => ⟨fun j h2 h3 => by omega, fun p h2 h3 => by omega⟩⟩
      · rw [if_neg h1]; exact ⟨_, rfl, by omega, by omega⟩
  | succ d ih =>
    intro k i at_ hi hk ha
    obtain ⟨k, rfl⟩ : ∃ m, k = m + 1 := ⟨k - 1, by omega⟩
    rw [rotaref08_parts.l0, if_pos (by omega), if_pos (by omega)]
    by_cases h0 : (rd_T75 l1 i).f0 = at_
    · rw [if_pos h0]
      by_cases h1 : (rd_T75 l1 i).f1 ≤ (rd_T75 l1 i).f0
      · rw [if_pos h1]; exact ⟨_, rfl, by omega, by omega⟩
      · rw [if_neg h1]
        by_cases h2 : (rd_T75 l1 i).f1 > (l0.length : Int)
        · rw [if_pos h2]; exact ⟨_, rfl, by omega, by omega⟩
        · rw [if_neg h2, wrap_n (by omega : i < l1.length) hn]
          obtain ⟨r, e1, e2, e3⟩ := ih k (i + 1) (rd_T75 l1 i).f1 (by omega) (by omega) (by omega)
          refine ⟨r, e1, e2, fun hr => ?_⟩
          obtain ⟨g, c⟩ := e3 hr
          refine ⟨fun j h3 h4 => ?_, fun p h3 h4 => ?_⟩
          · by_cases hj : j = i
            · subst hj; exact ⟨by omega, by omega, by omega⟩
            · have := g j (by omega) h4
              exact ⟨by omega, this.2.1, this.2.2⟩
          · by_cases hp : p < (rd_T75 l1 i).f1
            · exact ⟨i, by omega, by omega, by omega, hp⟩
            · obtain ⟨j, j1, j2, j3, j4⟩ := c p (by omega) h4
              exact ⟨j, by omega, j2, j3, j4⟩
    · rw [if_neg h0]; exact ⟨_, rfl, by omega, by omega⟩
theorem in_l0 (hn : l1.length < 1125899906842624) (p : Int) (d : Nat) : ∀ (k i : Nat), i + d = l1.length → d < k →
    ∃ r : Int, rotaref08_in.l0 k p i l0 l1 l2 = some r ∧ ((r = -1 ∧ ∀ j : Int, i ≤ j → j < l1.length → ¬ ((rd_T75 l1 j).f0 ≤ p ∧ p < (rd_T75 l1 j).f1)) ∨ (0 ≤ r ∧ r < l1.length ∧ (rd_T75 l1 r).f0 ≤ p ∧ p < (rd_T75 l1 r).f1)) := by
  induction d with
  | zero =>
    intro k i hi hk
    obtain ⟨k, rfl⟩ : ∃ m, k = m + 1 := ⟨k - 1, by omega⟩
    rw [rotaref08_in.l0, if_neg (by omega)]
    exact ⟨_, rfl, .inl ⟨rfl, fun j h1 h2 => by omega⟩⟩
  | succ d ih =>
    intro k i hi hk
    obtain ⟨k, rfl⟩ : ∃ m, k = m + 1 := ⟨k - 1, by omega⟩
    rw [rotaref08_in.l0, if_pos (by omega), if_pos (by omega), wrap_n (by omega : i < l1.length) hn]
    obtain ⟨r, e1, e2⟩ := ih k (i + 1) (by omega) (by omega)
    have hno : ¬ ((rd_T75 l1 i).f0 ≤ p ∧ p < (rd_T75 l1 i).f1) → ∃ r : Int, rotaref08_in.l0 k p ((i + 1 : Nat) : Int) l0 l1 l2 = some r ∧ ((r = -1 ∧ ∀ j : Int, i ≤ j → j < l1.length → ¬ ((rd_T75 l1 j).f0 ≤ p ∧ p < (rd_T75 l1 j).f1)) ∨ (0 ≤ r ∧ r < l1.length ∧ (rd_T75 l1 r).f0 ≤ p ∧ p < (rd_T75 l1 r).f1)) := fun hno => by
      refine ⟨r, e1, ?_⟩
      rcases e2 with ⟨e2, e3⟩ | e2
      · refine .inl ⟨e2, fun j h1 h2 => ?_⟩
        by_cases hj : j = i
        · subst hj; exact hno
        · exact e3 j (by omega) h2
      · exact .inr e2
    by_cases h1 : p ≥ (rd_T75 l1 i).f0
    · rw [if_pos h1]
      by_cases h2 : p < (rd_T75 l1 i).f1
      · rw [if_pos h2]; exact ⟨_, rfl, .inr ⟨by omega, by omega, h1, h2⟩⟩
      · rw [if_neg h2]; exact hno (by omega)
    · rw [if_neg h1]; exact hno (by omega)
/-- What is so of a word that may be. -/
def WordOk (at_ : Int) : Prop := ∃ op a b c m : Int, rotaref06_Decode.f (rd l0 at_) = some (op, a, b, c, m, 0) ∧ (op = 17 ∨ op = 18 ∨ op = 19 → m < l0.length) ∧ (op = 20 → m < l1.length) ∧ (op ≠ 17 → op ≠ 21 → op ≠ 24 → op ≠ 58 → at_ + 1 < l0.length)
theorem decode_some (hw : ∀ x ∈ l0, 0 ≤ x ∧ x < 4294967296) (at_ : Int) (h0 : 0 ≤ at_) (h1 : at_ < l0.length) : ∃ op a b c m e : Int, rotaref06_Decode.f (rd l0 at_) = some (op, a, b, c, m, e) := by
  have hin : rd l0 at_ ∈ l0 := by
    unfold rd
    rw [List.getD_eq_getElem?_getD, List.getElem?_eq_getElem (by omega)]
    exact List.getElem_mem _
  obtain ⟨b0, b1⟩ := hw _ hin
  rw [Pure.ref_decode _ b0 b1]
  rcases Q.in_or (rd l0 at_ / 16777216) with ⟨j, hj, ho⟩ | hn
  · rw [Q.word_decode j hj _ b0 b1 ho]
    split
    · exact ⟨_, _, _, _, _, _, rfl⟩
    · exact ⟨_, _, _, _, _, _, rfl⟩
  · rw [Q.decode_else _ b0 b1 hn]
    exact ⟨_, _, _, _, _, _, rfl⟩
theorem ends_some (op : Int) : ∃ t, rotaref08_ends.f op = some t ∧ (t = true ↔ op = 17 ∨ op = 21 ∨ op = 24 ∨ op = 58) := by
  unfold rotaref08_ends.f
  by_cases h1 : op = 17; · subst h1; exact ⟨_, rfl, by simp⟩
  by_cases h2 : op = 21; · subst h2; exact ⟨_, rfl, by simp⟩
  by_cases h3 : op = 24; · subst h3; exact ⟨_, rfl, by simp⟩
  rw [if_neg h1, if_neg h2, if_neg h3]
  exact ⟨_, rfl, by simp [h1, h2, h3]⟩
theorem jumps_some (op : Int) : ∃ t, rotaref08_jumps.f op = some t ∧ (t = true ↔ op = 17 ∨ op = 18 ∨ op = 19) := by
  unfold rotaref08_jumps.f
  by_cases h1 : op = 17; · subst h1; exact ⟨_, rfl, by simp⟩
  by_cases h2 : op = 18; · subst h2; exact ⟨_, rfl, by simp⟩
  rw [if_neg h1, if_neg h2]
  exact ⟨_, rfl, by simp [h1, h2]⟩
theorem wrong_j2 (hp : Parted l0 l1 0 0) (hl0 : l0.length < 1125899906842624) (k : Nat) (at_ f : Int) (bad : Bool) (op a b c m : Int) (hf : 0 ≤ f ∧ f < l1.length ∧ (rd_T75 l1 f).f0 ≤ at_ ∧ at_ < (rd_T75 l1 f).f1) :
    ∃ r : Int, rotaref08_wrong.j2 (k + 1) at_ f bad l0 l1 l2 op a b c m = some r ∧ (r = 0 → op ≠ 17 → op ≠ 21 → op ≠ 24 → op ≠ 58 → at_ + 1 < l0.length) := by
  rw [rotaref08_wrong.j2]
  cases bad with
  | true => rw [if_pos rfl]; exact ⟨_, rfl, by omega⟩
  | false =>
    obtain ⟨g0, g1, g2⟩ := hp.good f hf.1 hf.2.1
    rw [if_neg (by simp), if_pos hf.1, if_pos hf.2.1, show wrap64 ((rd_T75 l1 f).f1 - 1) = (rd_T75 l1 f).f1 - 1 from by unfold wrap64; omega]
    obtain ⟨t, e1, e2⟩ := ends_some op
    by_cases h : at_ = (rd_T75 l1 f).f1 - 1
    · rw [if_pos h, e1]
      simp only [Option.bind_some]
      cases t with
      | true => rw [if_pos rfl]; exact ⟨_, rfl, fun _ h1 h2 h3 h4 => by have := e2.1 rfl; omega⟩
      | false => rw [if_neg (by simp)]; exact ⟨_, rfl, by omega⟩
    · rw [if_neg h]; exact ⟨_, rfl, fun _ _ _ _ _ => by omega⟩
theorem wrong_j1 (hp : Parted l0 l1 0 0) (hl0 : l0.length < 1125899906842624) (k : Nat) (at_ f : Int) (bad : Bool) (op a b c m : Int) (hf : 0 ≤ f ∧ f < l1.length ∧ (rd_T75 l1 f).f0 ≤ at_ ∧ at_ < (rd_T75 l1 f).f1) :
    ∃ r : Int, rotaref08_wrong.j1 (k + 2) at_ f bad l0 l1 l2 op a b c m = some r ∧ (r = 0 → bad = false ∧ (op ≠ 17 → op ≠ 21 → op ≠ 24 → op ≠ 58 → at_ + 1 < l0.length)) := by
  rw [rotaref08_wrong.j1]
  cases bad with
  | true => rw [if_pos rfl]; exact ⟨_, rfl, by omega⟩
  | false =>
    rw [if_neg (by simp)]
    split
    · obtain ⟨r, e1, e2⟩ := wrong_j2 l0 l1 l2 hp hl0 k at_ f (decide (m ≥ (l2.length : Int))) op a b c m hf
      exact ⟨r, e1, fun h => ⟨rfl, e2 h⟩⟩
    · obtain ⟨r, e1, e2⟩ := wrong_j2 l0 l1 l2 hp hl0 k at_ f false op a b c m hf
      exact ⟨r, e1, fun h => ⟨rfl, e2 h⟩⟩
theorem wrong_j0 (hp : Parted l0 l1 0 0) (hl0 : l0.length < 1125899906842624) (k : Nat) (at_ f : Int) (bad : Bool) (op a b c m : Int) (hf : 0 ≤ f ∧ f < l1.length ∧ (rd_T75 l1 f).f0 ≤ at_ ∧ at_ < (rd_T75 l1 f).f1) :
    ∃ r : Int, rotaref08_wrong.j0 (k + 3) at_ f bad l0 l1 l2 op a b c m = some r ∧ (r = 0 → bad = false ∧ (op = 20 → m < l1.length) ∧ (op ≠ 17 → op ≠ 21 → op ≠ 24 → op ≠ 58 → at_ + 1 < l0.length)) := by
  rw [rotaref08_wrong.j0]
  cases bad with
  | true => rw [if_pos rfl]; exact ⟨_, rfl, by omega⟩
  | false =>
    rw [if_neg (by simp)]
    split
    · obtain ⟨r, e1, e2⟩ := wrong_j1 l0 l1 l2 hp hl0 k at_ f (decide (m ≥ (l1.length : Int))) op a b c m hf
      refine ⟨r, e1, fun h => ⟨rfl, fun _ => ?_, (e2 h).2⟩⟩
      have := (e2 h).1
      simp at this
      omega
    · rename_i h20
      split
      · obtain ⟨r, e1, e2⟩ := wrong_j1 l0 l1 l2 hp hl0 k at_ f (decide (m ≥ (l1.length : Int))) op a b c m hf
        exact ⟨r, e1, fun h => ⟨rfl, fun h' => absurd h' h20, (e2 h).2⟩⟩
      · obtain ⟨r, e1, e2⟩ := wrong_j1 l0 l1 l2 hp hl0 k at_ f false op a b c m hf
        exact ⟨r, e1, fun h => ⟨rfl, fun h' => absurd h' h20, (e2 h).2⟩⟩
theorem wrong_some (hw : ∀ x ∈ l0, 0 ≤ x ∧ x < 4294967296) (hp : Parted l0 l1 0 0) (hl0 : l0.length < 1125899906842624) (hn : l1.length < 1125899906842624) (k : Nat) (hk : l1.length + 4 ≤ k) (at_ : Int) (h0 : 0 ≤ at_) (h1 : at_ < l0.length) :
    ∃ r : Int, rotaref08_wrong.f k l0 l1 l2 at_ = some r ∧ (r = 0 → WordOk l0 l1 at_) := by
  unfold rotaref08_wrong.f
  rw [if_pos h0, if_pos h1]
  obtain ⟨op, a, b, c, m, e, hd⟩ := decode_some l0 hw at_ h0 h1
  rw [hd]
  simp only [Option.bind_some]
  by_cases he : e = 0
  · subst he
    rw [if_pos rfl]
    unfold rotaref08_in.f
    obtain ⟨f, i1, i2⟩ := in_l0 l0 l1 l2 hn at_ l1.length k 0 (by omega) (by omega)
    have hf : 0 ≤ f ∧ f < l1.length ∧ (rd_T75 l1 f).f0 ≤ at_ ∧ at_ < (rd_T75 l1 f).f1 := by
      rcases i2 with ⟨_, i2⟩ | i2
      · obtain ⟨j, j1, j2, j3, j4⟩ := hp.cover at_ h0 h1
        exact absurd ⟨j3, j4⟩ (i2 j (by omega) j2)
      · exact i2
    rw [show ((0 : Nat) : Int) = 0 from rfl] at i1
    rw [i1]
    simp only [Option.bind_some]
    obtain ⟨t, t1, t2⟩ := jumps_some op
    rw [t1]
    simp only [Option.bind_some]
    obtain ⟨k, rfl⟩ : ∃ z, k = z + 3 := ⟨k - 3, by omega⟩
    cases t with
    | false =>
      rw [if_neg (by simp)]
      obtain ⟨r, e1, e2⟩ := wrong_j0 l0 l1 l2 hp hl0 k at_ f false op a b c m hf
      refine ⟨r, e1, fun h => ⟨op, a, b, c, m, hd, fun hj => ?_, (e2 h).2.1, (e2 h).2.2⟩⟩
      have := t2.2 hj
      cases this
    | true =>
      rw [if_pos rfl]
      by_cases hm : m ≥ (l0.length : Int)
      · rw [if_pos hm]
        obtain ⟨r, e1, e2⟩ := wrong_j0 l0 l1 l2 hp hl0 k at_ f true op a b c m hf
        exact ⟨r, e1, fun h => by have := (e2 h).1; cases this⟩
      · rw [if_neg hm]
        obtain ⟨g, i3, i4⟩ := in_l0 l0 l1 l2 hn m l1.length (k + 3) 0 (by omega) (by omega)
        rw [show ((0 : Nat) : Int) = 0 from rfl] at i3
        rw [i3]
        simp only [Option.bind_some]
        obtain ⟨r, e1, e2⟩ := wrong_j0 l0 l1 l2 hp hl0 k at_ f (g != f) op a b c m hf
        exact ⟨r, e1, fun h => ⟨op, a, b, c, m, hd, fun _ => by omega, (e2 h).2.1, (e2 h).2.2⟩⟩
  · rw [if_neg he]; exact ⟨_, rfl, by omega⟩
end
end Go.Proofs.Ythjfmlehkcccfaa.Qsafe
end

section
/-
  The reference's Check answers always; what it lets by stays within its code, step by step (plain).
-/
set_option linter.unusedVariables false
set_option linter.unusedSimpArgs false
namespace Go.Proofs.Ythjfmlehkcccfaa.Qsafe
open Go.RowKit Go.Proofs.YthjfmlehkcccfaaW.PrintWords Go.Proofs.YthjfmlehkcccfaaW.PrintLast Go.Proofs.YthjfmlehkcccfaaW.PrintMore GA Hctx Hsmall Qstep
/-- A program that may be. -/
def Safe (l0 : List Int) (l1 : List S75) : Prop :=
  (∀ j : Int, 0 ≤ j → j < l1.length → 0 ≤ (rd_T75 l1 j).f0 ∧ (rd_T75 l1 j).f0 < l0.length) ∧ ∀ at_ : Int, 0 ≤ at_ → at_ < l0.length → WordOk l0 l1 at_
section
variable (l0 : List Int) (l1 : List S75) (l2 : List S98)
theorem register_some (n : Int) : ∃ t, rotaref08_register.f n = some t := by
  unfold rotaref08_register.f
  split
  · exact ⟨_, rfl⟩
  · exact ⟨_, rfl⟩
theorem table_l0 (x : List S106) (z : Bool) (hn : x.length < 1125899906842624) (d : Nat) : ∀ (k i : Nat), i + d = x.length → d < k → ∃ t, rotaref08_table.l0 k i x z = some t := by
  induction d with
  | zero =>
    intro k i hi hk
    obtain ⟨k, rfl⟩ : ∃ m, k = m + 1 := ⟨k - 1, by omega⟩
    rw [rotaref08_table.l0, if_neg (by omega)]
    exact ⟨_, rfl⟩
  | succ d ih =>
    intro k i hi hk
    obtain ⟨k, rfl⟩ : ∃ m, k = m + 1 := ⟨k - 1, by omega⟩
    rw [rotaref08_table.l0, if_pos (by omega), if_pos (by omega), wrap_n (by omega : i < x.length) hn]
    obtain ⟨t1, e1⟩ := register_some (rd_T106 x i).f1
    obtain ⟨t2, e2⟩ := register_some (rd_T106 x i).f2
    obtain ⟨t3, e3⟩ := register_some (rd_T106 x i).f3
    obtain ⟨t, e⟩ := ih k (i + 1) (by omega) (by omega)
    rw [e1, e2, e3, e]
    simp only [Option.bind_some]
    repeat' split
    all_goals exact ⟨_, rfl⟩
theorem check_l1 (hw : ∀ x ∈ l0, 0 ≤ x ∧ x < 4294967296) (hp : Parted l0 l1 0 0) (hl0 : l0.length < 1125899906842624) (hn : l1.length < 1125899906842624) (d : Nat) : ∀ (k i : Nat), i + d = l0.length → l1.length + 4 + d < k →
    ∃ r e : Int, rotaref08_Check.l1 k i l0 l1 l2 = some (r, e) ∧ (e = 0 → ∀ at_ : Int, i ≤ at_ → at_ < l0.length → WordOk l0 l1 at_) := by
  induction d with
  | zero =>
    intro k i hi hk
    obtain ⟨k, rfl⟩ : ∃ m, k = m + 1 := ⟨k - 1, by omega⟩
    rw [rotaref08_Check.l1, if_neg (by omega)]
    exact ⟨_, _, rfl, fun _ at_ h1 h2 => by omega⟩
  | succ d ih =>
    intro k i hi hk
    obtain ⟨k, rfl⟩ : ∃ m, k = m + 1 := ⟨k - 1, by omega⟩
    rw [rotaref08_Check.l1, if_pos (by omega), wrap_n (by omega : i < l0.length) hl0]
    obtain ⟨r, e1, e2⟩ := wrong_some l0 l1 l2 hw hp hl0 hn k (by omega) i (by omega) (by omega)
    rw [e1]
    simp only [Option.bind_some]
    by_cases hr : r = 0
    · rw [if_pos hr]
      obtain ⟨r', e', g1, g2⟩ := ih k (i + 1) (by omega) (by omega)
      refine ⟨r', e', g1, fun he at_ h1 h2 => ?_⟩
      by_cases ha : at_ = i
      · subst ha; exact e2 hr
      · exact g2 he at_ (by omega) h2
    · rw [if_neg hr]; exact ⟨_, _, rfl, fun h => absurd h hr⟩
theorem check_l0 (hw : ∀ x ∈ l0, 0 ≤ x ∧ x < 4294967296) (hp : Parted l0 l1 0 0) (hl0 : l0.length < 1125899906842624) (hn : l1.length < 1125899906842624) (h2 : l2.length < 1125899906842624) (N : Nat) (hN : ∀ x ∈ l2, x.f0.length < N) (hN2 : N ≤ 1125899906842624) (d : Nat) : ∀ (k i : Nat), i + d = l2.length → l0.length + l1.length + N + 6 + d < k →
    ∃ r e : Int, rotaref08_Check.l0 k i l0 l1 l2 = some (r, e) ∧ (e = 0 → ∀ at_ : Int, 0 ≤ at_ → at_ < l0.length → WordOk l0 l1 at_) := by
  induction d with
  | zero =>
    intro k i hi hk
    obtain ⟨k, rfl⟩ : ∃ m, k = m + 1 := ⟨k - 1, by omega⟩
    rw [rotaref08_Check.l0, if_neg (by omega)]
    exact check_l1 l0 l1 l2 hw hp hl0 hn l0.length k 0 (by omega) (by omega)
  | succ d ih =>
    intro k i hi hk
    obtain ⟨k, rfl⟩ : ∃ m, k = m + 1 := ⟨k - 1, by omega⟩
    rw [rotaref08_Check.l0, if_pos (by omega), if_pos (by omega), wrap_n (by omega : i < l2.length) h2]
    have hx : (rd_T98 l2 i) ∈ l2 := by
      unfold rd_T98
      rw [List.getD_eq_getElem?_getD, List.getElem?_eq_getElem (by omega)]
      exact List.getElem_mem _
    have hlen := hN _ hx
    have ht : ∃ t, rotaref08_table.f k (rd_T98 l2 i).f0 (rd_T98 l2 i).f1 = some t := by
      unfold rotaref08_table.f
      split
      · exact ⟨_, rfl⟩
      · exact table_l0 _ _ (by omega) (rd_T98 l2 i).f0.length k 0 (by omega) (by omega)
    obtain ⟨t, e1⟩ := ht
    rw [e1]
    simp only [Option.bind_some]
    cases t with
    | true =>
      rw [if_pos rfl]
      exact ih k (i + 1) (by omega) (by omega)
    | false =>
      rw [if_neg (by simp)]
      exact ⟨_, _, rfl, by omega⟩
theorem check_some (hw : ∀ x ∈ l0, 0 ≤ x ∧ x < 4294967296) (hl0 : l0.length < 1125899906842624) (hn : l1.length < 1125899906842624) (h2 : l2.length < 1125899906842624) (hN : ∀ x ∈ l2, x.f0.length < 1125899906842624) :
    ∃ (k : Nat) (r e : Int), rotaref08_Check.f k l0 l1 l2 = some (r, e) ∧ (e = 0 → Safe l0 l1) := by
  have hj : ∀ b : Bool, ∃ (r e : Int), rotaref08_Check.j0 (l0.length + l1.length + l2.length + 1125899906842624 + 10) b l0 l1 l2 = some (r, e) ∧ (e = 0 → Safe l0 l1) := fun b => by
    rw [rotaref08_Check.j0]
    cases b with
    | true => rw [if_pos rfl]; exact ⟨_, _, rfl, by omega⟩
    | false =>
      rw [if_neg (by simp)]
      unfold rotaref08_parts.f
      obtain ⟨r, e1, e2, e3⟩ := parts_l0 l0 l1 l2 hn l1.length (l0.length + l1.length + l2.length + 1125899906842624 + 9) 0 0 (by omega) (by omega) (by omega)
      rw [show ((0 : Nat) : Int) = 0 from rfl] at e1
      rw [e1]
      simp only [Option.bind_some]
      by_cases hr : r ≥ 0
      · rw [if_pos hr]; exact ⟨_, _, rfl, by omega⟩
      · rw [if_neg hr]
        have hp := e3 (by omega)
        obtain ⟨r', e', g1, g2⟩ := check_l0 l0 l1 l2 hw hp hl0 hn h2 1125899906842624 hN (Nat.le_refl _) l2.length (l0.length + l1.length + l2.length + 1125899906842624 + 9) 0 (by omega) (by omega)
        rw [show ((0 : Nat) : Int) = 0 from rfl] at g1
        refine ⟨r', e', g1, fun he => ⟨fun j h1 h2 => ?_, g2 he⟩⟩
        have := hp.good j h1 h2
        omega
  refine ⟨l0.length + l1.length + l2.length + 1125899906842624 + 10, ?_⟩
  unfold rotaref08_Check.f
  repeat' split
  · exact hj true
  · exact hj true
  · exact hj _
end
/-- Within the code, and every place that will be come back to. -/
def Within (n : Nat) (pc : Int) (l : List Int) : Prop := 0 ≤ pc ∧ pc < n ∧ ∀ x ∈ l, 0 ≤ x ∧ x < n
def SOk (n : Nat) (o : Out) : Prop :=
  ∃ q1 q2 q3 q4 q5 q6 q7 q8 q9 q10 q11 : Int, o.want = wantC q1 q2 q3 q4 q5 q6 q7 q8 q9 q10 q11 ∧ q10 ≠ 1 ∧ (q1 = 58 → q10 ≠ 0) ∧ (q1 ≠ 58 → q1 ≠ 24 → Within n o.pc o.calls)
section
variable {n : Nat} {pc : Int} {r : Regs} {l : List Int}
theorem sok_ite {c : Prop} [Decidable c] {x y : Out} (hx : c → SOk n x) (hy : ¬ c → SOk n y) : SOk n (if c then x else y) := by
  split
  · exact hx ‹_›
  · exact hy ‹_›
theorem sok_trap (t k : Int) (h0 : t ≠ 0) (h1 : t ≠ 1) : SOk n ⟨pc, r, l, wantC 58 0 0 0 0 0 0 0 0 t k⟩ := ⟨_, _, _, _, _, _, _, _, _, _, _, rfl, h1, fun _ => h0, fun h => absurd rfl h⟩
theorem sok_in (q : Int) (o a b c m x y z : Int) (h : q = 58 → False) (hw : Within n pc l) : SOk n ⟨pc, r, l, wantC q o a b c m x y z 0 0⟩ := ⟨_, _, _, _, _, _, _, _, _, _, _, rfl, by decide, fun h' => absurd h' h, fun _ _ => hw⟩
theorem sok_exit : SOk n ⟨pc, r, l, wantC 24 0 0 0 0 0 0 0 0 0 0⟩ := ⟨_, _, _, _, _, _, _, _, _, _, _, rfl, by decide, by decide, fun _ h => absurd rfl h⟩
theorem stepO_safe (fl : List S75) (clk slot gen : Int) (op : Int) (a b c : Nat) (m : Int) (h0 : 0 ≤ pc) (h1 : pc < n) (hl : ∀ x ∈ l, 0 ≤ x ∧ x < n) (hm : op ≠ 2 → 0 ≤ m)
    (hj : op = 17 ∨ op = 18 ∨ op = 19 → m < n) (hc : op = 20 → m < fl.length) (hn : op ≠ 17 → op ≠ 21 → op ≠ 24 → op ≠ 58 → pc + 1 < n) (hf : ∀ j : Int, 0 ≤ j → j < fl.length → 0 ≤ (rd_T75 fl j).f0 ∧ (rd_T75 fl j).f0 < n) :
    SOk n (stepO fl pc r l clk slot gen true op a b c m) := by
  have hnx : op ≠ 17 → op ≠ 21 → op ≠ 24 → op ≠ 58 → Within n (pc + 1) l := fun a1 a2 a3 a4 => ⟨by omega, hn a1 a2 a3 a4, hl⟩
  have hjm : op = 17 ∨ op = 18 ∨ op = 19 → Within n m l := fun h => ⟨hm (by omega), hj h, hl⟩
  unfold stepO
  dsimp only
  rw [if_neg (by simp)]
  refine sok_ite (fun h => sok_in _ _ _ _ _ _ _ _ _ (by omega) (hnx (by omega) (by omega) (by omega) (by omega))) (fun n1 => ?_)
  refine sok_ite (fun h => sok_in _ _ _ _ _ _ _ _ _ (by omega) (hnx (by omega) (by omega) (by omega) (by omega))) (fun n2 => ?_)
  refine sok_ite (fun h => sok_in _ _ _ _ _ _ _ _ _ (by omega) (hnx (by omega) (by omega) (by omega) (by omega))) (fun n3 => ?_)
  refine sok_ite (fun h => sok_in _ _ _ _ _ _ _ _ _ (by omega) (hnx (by omega) (by omega) (by omega) (by omega))) (fun n4 => ?_)
  refine sok_ite (fun h => sok_ite (fun _ => sok_trap _ _ (by decide) (by decide)) (fun _ => sok_in _ _ _ _ _ _ _ _ _ (by omega) (hnx (by omega) (by omega) (by omega) (by omega)))) (fun n8 => ?_)
  refine sok_ite (fun h => sok_ite (fun _ => sok_trap _ _ (by decide) (by decide)) (fun _ => sok_in _ _ _ _ _ _ _ _ _ (by omega) (hnx (by omega) (by omega) (by omega) (by omega)))) (fun n9 => ?_)
  refine sok_ite (fun h => sok_in _ _ _ _ _ _ _ _ _ (by omega) (hjm (by omega))) (fun n17 => ?_)
  refine sok_ite (fun h => sok_ite (fun _ => sok_in _ _ _ _ _ _ _ _ _ (by omega) (hjm (by omega))) (fun _ => sok_in _ _ _ _ _ _ _ _ _ (by omega) (hnx (by omega) (by omega) (by omega) (by omega)))) (fun n18 => ?_)
  refine sok_ite (fun h => sok_ite (fun _ => sok_in _ _ _ _ _ _ _ _ _ (by omega) (hnx (by omega) (by omega) (by omega) (by omega))) (fun _ => sok_in _ _ _ _ _ _ _ _ _ (by omega) (hjm (by omega)))) (fun n19 => ?_)
  refine sok_ite (fun h => sok_ite (fun _ => sok_trap _ _ (by decide) (by decide)) (fun _ => sok_ite (fun h' => absurd (hc h) (by omega)) (fun h' => ?_))) (fun n20 => ?_)
  · have hq := hf m (hm (by omega)) (hc h)
    refine sok_in _ _ _ _ _ _ _ _ _ (by omega) ⟨hq.1, hq.2, fun x hx => ?_⟩
    rcases List.mem_append.1 hx with hx | hx
    · exact hl x hx
    · rw [List.mem_singleton] at hx
      subst hx
      exact ⟨by omega, hn (by omega) (by omega) (by omega) (by omega)⟩
  refine sok_ite (fun h => sok_ite (fun _ => sok_exit) (fun hne => ?_)) (fun n21 => ?_)
  · have hin : rd l ((l.length : Int) - 1) ∈ l := by
      unfold rd
      rw [List.getD_eq_getElem?_getD, List.getElem?_eq_getElem (by omega)]
      exact List.getElem_mem _
    exact sok_in _ _ _ _ _ _ _ _ _ (by omega) ⟨(hl _ hin).1, (hl _ hin).2, fun x hx => hl x (List.mem_of_mem_take hx)⟩
  refine sok_ite (fun h => sok_in _ _ _ _ _ _ _ _ _ (by omega) (hnx (by omega) (by omega) (by omega) (by omega))) (fun n23 => ?_)
  refine sok_ite (fun h => sok_exit) (fun n24 => ?_)
  refine sok_ite (fun h => sok_in _ _ _ _ _ _ _ _ _ (by omega) (hnx (by omega) (by omega) (by omega) (by omega))) (fun n25 => ?_)
  refine sok_ite (fun h => sok_in _ _ _ _ _ _ _ _ _ (by omega) (hnx (by omega) (by omega) (by omega) (by omega))) (fun n26 => ?_)
  refine sok_ite (fun h => sok_trap _ _ (by decide) (by decide)) (fun n58 => ?_)
  split
  · exact sok_in _ _ _ _ _ _ _ _ _ (by omega) (hnx n17 n21 n24 n58)
  · exact sok_in _ _ _ _ _ _ _ _ _ (by omega) (hnx n17 n21 n24 n58)
end
end Go.Proofs.Ythjfmlehkcccfaa.Qsafe
end
