import Derived.Lib.ItoaMem
import Derived.Lib.ItoaLen
import Derived.Lib.AtoiAll
import Derived.Lib.ParseIntB
import Derived.Lib.SplitLaws
import Derived.Test.YtonnlkpmfmknlaaDoorMB0
section
/-
  What is told in digits reads back; what is joined by one byte splits back. Plain Lean.
-/
set_option linter.unusedVariables false
set_option linter.unusedSimpArgs false
namespace Go.Proofs.YtonnlkpmfmknlaaDoor.Num
open Go.Lib
theorem digit_nat (d : Nat) (h : d < 10) : (UInt8.ofNat (48 + d)).toNat = 48 + d := by
  rw [UInt8.toNat_ofNat']
  omega
theorem dec_step {u : Nat} (h : ¬ u < 10) : decDigits u = decDigits (u / 10) ++ [UInt8.ofNat (48 + u % 10)] := by conv => lhs; rw [decDigits, dif_neg h]
theorem uintM_digits (M : Nat) : ∀ (n u : Nat), u ≤ n → u ≤ M → u < 18446744073709551616 → ∀ r, parseUintM M 0 (decDigits u ++ r) = parseUintM M u r
  | n, u, hn, h1, h2, r => by
    by_cases c : u < 10
    · rw [decDigits_one c, List.singleton_append, parseUintM, digit_nat u c, if_pos (by omega), if_neg (by omega), if_neg (by omega)]
      congr 1
      omega
    · obtain ⟨n, rfl⟩ : ∃ m, n = m + 1 := ⟨n - 1, by omega⟩
      rw [dec_step c, List.append_assoc, List.singleton_append, uintM_digits M n (u / 10) (by omega) (by omega) (by omega), parseUintM, digit_nat _ (by omega), if_pos (by omega), if_neg (by omega), if_neg (by omega)]
      congr 1
      omega
theorem uint10_digits : ∀ (n u : Nat), u ≤ n → u < 18446744073709551616 → ∀ r, parseUint10 0 (decDigits u ++ r) = parseUint10 u r
  | n, u, hn, h2, r => by
    by_cases c : u < 10
    · rw [decDigits_one c, List.singleton_append, parseUint10, digit_nat u c, if_pos (by omega), if_neg (by omega), if_neg (by omega)]
      congr 1
      omega
    · obtain ⟨n, rfl⟩ : ∃ m, n = m + 1 := ⟨n - 1, by omega⟩
      rw [dec_step c, List.append_assoc, List.singleton_append, uint10_digits n (u / 10) (by omega) (by omega), parseUint10, digit_nat _ (by omega), if_pos (by omega), if_neg (by omega), if_neg (by omega)]
      congr 1
      omega
theorem dec_all : ∀ (n u : Nat), u ≤ n → ∀ b ∈ decDigits u, 48 ≤ b.toNat ∧ b.toNat ≤ 57
  | n, u, hn, b, hb => by
    by_cases c : u < 10
    · rw [decDigits_one c, List.mem_singleton] at hb
      subst hb
      rw [digit_nat u c]; omega
    · obtain ⟨n, rfl⟩ : ∃ m, n = m + 1 := ⟨n - 1, by omega⟩
      rw [dec_step c, List.mem_append, List.mem_singleton] at hb
      rcases hb with hb | rfl
      · exact dec_all n (u / 10) (by omega) b hb
      · rw [digit_nat _ (by omega)]; omega
theorem dec_head (u : Nat) : ∃ c r, decDigits u = c :: r ∧ 48 ≤ c.toNat ∧ c.toNat ≤ 57 := by
  cases h : decDigits u with
  | nil =>
    have := decDigits_length u
    rw [h] at this
    have h2 : 1 ≤ nDigits u := by unfold nDigits; split <;> omega
    simp at this
    omega
  | cons c r => exact ⟨c, r, rfl, dec_all u u (Nat.le_refl _) c (by rw [h]; exact List.mem_cons_self)⟩
theorem uintB_digits (u : Nat) (h : u < 18446744073709551616) : parseUintB 64 (decDigits u) = .ok u := by
  obtain ⟨c, r, e, _⟩ := dec_head u
  unfold parseUintB
  rw [if_neg (by rw [e]; simp)]
  have := uintM_digits (2 ^ 64 - 1) u u (Nat.le_refl _) (by omega) h []
  rw [List.append_nil] at this
  rw [this]; rfl
theorem mag_digits (u : Nat) (h : u < 18446744073709551616) : parseMag (decDigits u) = .ok u := by
  obtain ⟨c, r, e, _⟩ := dec_head u
  unfold parseMag
  rw [if_neg (by rw [e]; simp)]
  have := uint10_digits u u (Nat.le_refl _) h []
  rw [List.append_nil] at this
  rw [this]; rfl
theorem atoi_itoa (n : Int) (h0 : -9223372036854775808 ≤ n) (h1 : n ≤ 9223372036854775807) : atoiAll (itoa n) = .ok n := by
  unfold itoa
  by_cases c : n < 0
  · rw [if_pos c]
    unfold atoiAll
    have e45 : (45 : UInt8).toNat = 45 := rfl
    simp only [e45, or_true, if_true, mag_digits n.natAbs (by omega), true_and, not_true, false_and, if_false]
    rw [if_neg (by omega)]
    congr 1
    omega
  · rw [if_neg c]
    obtain ⟨d, r, e, e1, e2⟩ := dec_head n.toNat
    have hm := mag_digits n.toNat (by omega)
    rw [e] at hm ⊢
    unfold atoiAll
    have n3 : ¬ d.toNat = 43 := by omega
    have n2 : ¬ d.toNat = 45 := by omega
    simp only [n3, n2, or_self, if_false, hm, not_false_eq_true, true_and, false_and]
    rw [if_neg (by omega)]
    congr 1
    omega
theorem int_itoa (n : Int) (h0 : -9223372036854775808 ≤ n) (h1 : n ≤ 9223372036854775807) : parseIntB 64 (itoa n) = .ok n := by
  unfold itoa
  by_cases c : n < 0
  · rw [if_pos c]
    unfold parseIntB
    have e45 : (45 : UInt8).toNat = 45 := rfl
    simp only [e45, or_true, if_true, uintB_digits n.natAbs (by omega), true_and, not_true, false_and, if_false]
    rw [if_neg (by omega)]
    congr 1
    omega
  · rw [if_neg c]
    obtain ⟨d, r, e, e1, e2⟩ := dec_head n.toNat
    have hm := uintB_digits n.toNat (by omega)
    rw [e] at hm ⊢
    unfold parseIntB
    have n3 : ¬ d.toNat = 43 := by omega
    have n2 : ¬ d.toNat = 45 := by omega
    simp only [n3, n2, or_self, if_false, hm, not_false_eq_true, true_and, false_and]
    rw [if_neg (by omega)]
    congr 1
    omega
theorem itoa_no (n : Int) (c : UInt8) (h1 : c.toNat < 45) : c ∉ itoa n := by
  intro h
  unfold itoa at h
  split at h
  · rcases List.mem_cons.1 h with rfl | h
    · exact absurd h1 (by decide)
    · have := dec_all _ _ (Nat.le_refl _) c h; omega
  · have := dec_all _ _ (Nat.le_refl _) c h; omega
theorem dec_no (u : Nat) (c : UInt8) (h1 : c.toNat < 45) : c ∉ decDigits u := fun h => by
  have := dec_all _ _ (Nat.le_refl _) c h; omega
/-- Pieces, a byte between each two. -/
def joinC (c : UInt8) : List (List UInt8) → List UInt8
  | [] => []
  | [p] => p
  | p :: q :: t => p ++ c :: joinC c (q :: t)
theorem index_hit1 (c : UInt8) : ∀ (p r : List UInt8), c ∉ p → index (p ++ c :: r) [c] = p.length
  | [], r, _ => by simp [index, List.isPrefixOf]
  | b :: p, r, h => by
    have hb : b ≠ c := fun e => h (by rw [e]; exact List.mem_cons_self)
    have hp : c ∉ p := fun e => h (List.mem_cons_of_mem _ e)
    have e : ([c] : List UInt8).isPrefixOf (b :: (p ++ c :: r)) = false := by simp [List.isPrefixOf, Ne.symm hb]
    rw [List.cons_append, index, e, index_hit1 c p r hp]
    have : ¬ ((p.length : Int) == -1) = true := by simp
    simp [this]
theorem index_miss1 (c : UInt8) : ∀ (p : List UInt8), c ∉ p → index p [c] = -1
  | [], _ => by simp [index]
  | b :: p, h => by
    have hb : b ≠ c := fun e => h (by rw [e]; exact List.mem_cons_self)
    have hp : c ∉ p := fun e => h (List.mem_cons_of_mem _ e)
    have e : ([c] : List UInt8).isPrefixOf (b :: p) = false := by simp [List.isPrefixOf, Ne.symm hb]
    rw [index, e, index_miss1 c p hp]
    simp
theorem cut_hit1 (c : UInt8) (p r : List UInt8) (h : c ∉ p) : cut (p ++ c :: r) [c] = (p, r, true) := by
  unfold cut
  rw [index_hit1 c p r h, if_pos (by omega)]
  simp
theorem cut_miss1 (c : UInt8) (p : List UInt8) (h : c ∉ p) : cut p [c] = (p, [], false) := by
  unfold cut
  rw [index_miss1 c p h, if_neg (by omega)]
theorem count_join (c : UInt8) : ∀ (ps : List (List UInt8)), ps ≠ [] → (∀ p ∈ ps, c ∉ p) → (joinC c ps).count c = ps.length - 1
  | [], h, _ => absurd rfl h
  | [p], _, h => by simp [joinC, List.count_eq_zero.2 (h p (by simp))]
  | p :: q :: t, _, h => by
    rw [joinC, List.count_append, List.count_cons_self, count_join c (q :: t) (by simp) (fun x hx => h x (List.mem_cons_of_mem _ hx)), List.count_eq_zero.2 (h p List.mem_cons_self)]
    simp
theorem split_join (c : UInt8) : ∀ (ps : List (List UInt8)), ps ≠ [] → (∀ p ∈ ps, c ∉ p) → splitK [c] 0 (ps.length - 1) (joinC c ps) = ps
  | [], h, _ => absurd rfl h
  | [p], _, h => by simp [joinC, splitK]
  | p :: q :: t, _, h => by
    have hp := h p List.mem_cons_self
    have ih := split_join c (q :: t) (by simp) (fun x hx => h x (List.mem_cons_of_mem _ hx))
    have e : (p :: q :: t).length - 1 = ((q :: t).length - 1) + 1 := by simp
    rw [e, joinC, splitK, index_hit1 c p _ hp]
    have : ¬ ((p.length : Int) == -1) = true := by simp
    rw [if_neg this]
    simp only [Int.toNat_natCast, Nat.add_zero, List.take_left', List.length_singleton]
    congr 1
    rw [show p ++ c :: joinC c (q :: t) = (p ++ [c]) ++ joinC c (q :: t) by simp, List.drop_left' (by simp)]
    exact ih
/-- The number that digits tell. -/
@[irreducible] def dstep (acc : Nat) (b : UInt8) : Nat := acc * 10 + (b.toNat - 48)
def dfold (acc : Nat) (l : List UInt8) : Nat := l.foldl dstep acc
theorem dfold_nil (acc : Nat) : dfold acc [] = acc := rfl
theorem dfold_cons (acc : Nat) (b : UInt8) (r : List UInt8) : dfold acc (b :: r) = dfold (dstep acc b) r := by unfold dfold; rw [List.foldl_cons]
theorem dfold_le (l : List UInt8) : ∀ (acc : Nat), acc ≤ dfold acc l := by
  induction l with
  | nil => intro acc; exact Nat.le_refl _
  | cons b r ih =>
    intro acc
    have := ih (dstep acc b)
    rw [dfold_cons]
    have h : acc ≤ dstep acc b := by unfold dstep; omega
    omega
theorem dfold_dec : ∀ (n u : Nat), u ≤ n → ∀ r, dfold 0 (decDigits u ++ r) = dfold u r
  | n, u, hn, r => by
    by_cases c : u < 10
    · have e : dstep 0 (UInt8.ofNat (48 + u)) = u := by unfold dstep; rw [digit_nat u c]; omega
      rw [decDigits_one c, List.singleton_append, dfold_cons, e]
    · obtain ⟨n, rfl⟩ : ∃ m, n = m + 1 := ⟨n - 1, by omega⟩
      have e : dstep (u / 10) (UInt8.ofNat (48 + u % 10)) = u := by unfold dstep; rw [digit_nat _ (by omega)]; omega
      rw [dec_step c, List.append_assoc, List.singleton_append, dfold_dec n (u / 10) (by omega), dfold_cons, e]
end Go.Proofs.YtonnlkpmfmknlaaDoor.Num
end

section
/-
  A word that is a number tells its value in one way alone; the set of lines' heads. Plain Lean.
-/
set_option linter.unusedVariables false
set_option linter.unusedSimpArgs false
namespace Go.Proofs.YtonnlkpmfmknlaaDoor.Q
open Go.Lib Num
theorem dig_iff (b : UInt8) : dig b = true ↔ 48 ≤ b.toNat ∧ b.toNat ≤ 57 := by unfold dig; simp
theorem dstep_eq (acc : Nat) (b : UInt8) : dstep acc b = acc * 10 + (b.toNat - 48) := by unfold dstep; rfl
theorem uint10_val : ∀ (l : List UInt8) (acc u : Nat), (∀ b ∈ l, dig b = true) → parseUint10 acc l = .ok u → u = dfold acc l
  | [], acc, u, _, h => by rw [parseUint10] at h; injection h with h; rw [dfold_nil]; exact h.symm
  | c :: r, acc, u, hd, h => by
    have hc := (dig_iff c).1 (hd c List.mem_cons_self)
    rw [parseUint10, if_pos hc] at h
    by_cases h1 : 1844674407370955162 ≤ acc
    · rw [if_pos h1] at h; cases h
    · rw [if_neg h1] at h
      by_cases h2 : 18446744073709551616 ≤ acc * 10 + (c.toNat - 48)
      · rw [if_pos h2] at h; cases h
      · rw [if_neg h2] at h
        rw [dfold_cons, dstep_eq]
        exact uint10_val r _ u (fun b hb => hd b (List.mem_cons_of_mem _ hb)) h
theorem dfold_snoc (t : List UInt8) (c : UInt8) (acc : Nat) : dfold acc (t ++ [c]) = dfold acc t * 10 + (c.toNat - 48) := by
  unfold dfold
  rw [List.foldl_append]
  show dstep _ c = _
  rw [dstep_eq]
theorem canon : ∀ (n : Nat) (l : List UInt8), l.length = n → l ≠ [] → (∀ b ∈ l, dig b = true) → l.head? ≠ some 48 → decDigits (dfold 0 l) = l ∧ 1 ≤ dfold 0 l
  | 0, l, hn, h0, _, _ => absurd (List.length_eq_zero_iff.1 hn) h0
  | n + 1, l, hn, h0, hd, hh => by
    rcases List.eq_nil_or_concat l with rfl | ⟨t, c, rfl⟩
    · exact absurd rfl h0
    · rw [List.concat_eq_append] at *
      have hc := (dig_iff c).1 (hd c (by simp))
      have hofc : UInt8.ofNat (48 + (c.toNat - 48)) = c := by
        rw [show 48 + (c.toNat - 48) = c.toNat by omega, UInt8.ofNat_toNat]
      rw [dfold_snoc]
      by_cases ht : t = []
      · subst ht
        have e0 : dfold 0 [] = 0 := rfl
        have hc0 : c ≠ 48 := fun e => hh (by rw [e]; rfl)
        have hc1 : c.toNat ≠ 48 := fun e => hc0 (UInt8.toNat_inj.1 (by rw [e]; rfl))
        rw [e0, Nat.zero_mul, Nat.zero_add, decDigits_one (by omega), hofc]
        exact ⟨rfl, by omega⟩
      · have hlen : t.length = n := by simp at hn; exact hn
        obtain ⟨i1, i2⟩ := canon n t hlen ht (fun b hb => hd b (by simp [hb])) (fun e => hh (by
          cases t with
          | nil => exact absurd rfl ht
          | cons a b => simpa using e))
        rw [dec_step (by omega)]
        rw [show (dfold 0 t * 10 + (c.toNat - 48)) / 10 = dfold 0 t by omega, show (dfold 0 t * 10 + (c.toNat - 48)) % 10 = c.toNat - 48 by omega, i1, hofc]
        exact ⟨rfl, by omega⟩
theorem dec_zero : decDigits 0 = [48] := by rw [decDigits_one (by omega)]; rfl
/-- Digits that are a number say it as Itoa does. -/
theorem mag_canon {l : List UInt8} {u : Nat} (h0 : l ≠ []) (hd : ∀ b ∈ l, dig b = true) (hh : l.head? ≠ some 48 ∨ l = [48]) (h : parseMag l = .ok u) : l = decDigits u := by
  unfold parseMag at h
  rw [if_neg h0] at h
  have hv := uint10_val l 0 u hd h
  rcases hh with hh | rfl
  · rw [hv]; exact (canon l.length l rfl h0 hd hh).1.symm
  · have : dfold 0 [48] = 0 := by unfold dfold; show dstep 0 48 = 0; rw [dstep_eq]; rfl
    rw [hv, this, dec_zero]
theorem trimP_cons (c : UInt8) (r : List UInt8) : trimPrefix (c :: r) [45] = if c = 45 then r else c :: r := by
  unfold trimPrefix hasPrefix
  by_cases h : c = 45
  · subst h; simp [List.isPrefixOf]
  · have : ([45] : List UInt8).isPrefixOf (c :: r) = false := by simp [List.isPrefixOf, Ne.symm h]
    simp [this, h]
theorem numB_parts {s : List UInt8} (h : numB s = true) : trimPrefix s [45] ≠ [] ∧ (∀ b ∈ trimPrefix s [45], dig b = true) ∧ ((trimPrefix s [45]).head? ≠ some 48 ∨ s = [48]) := by
  unfold numB at h
  simp only [Bool.and_eq_true, Bool.or_eq_true, List.all_eq_true, bne_iff_ne, beq_iff_eq] at h
  obtain ⟨⟨h1, h2⟩, h3⟩ := h
  refine ⟨fun e => ?_, h2, h3⟩
  rw [e] at h1; simp at h1
/-- A number that is none below 0. -/
theorem dom_dec {s : List UInt8} (hn : numB s = true) {v : Int} (h : atoiAll s = .ok v) (h0 : 0 ≤ v) : s = decDigits v.toNat := by
  obtain ⟨p1, p2, p3⟩ := numB_parts hn
  cases s with
  | nil => exact absurd rfl p1
  | cons c r =>
    rw [trimP_cons] at p1 p2 p3
    unfold atoiAll at h
    by_cases hc : c = 45
    · subst hc
      rw [if_pos rfl] at p1 p2 p3
      have e45 : (45 : UInt8).toNat = 45 := rfl
      simp only [e45, or_true, if_true, not_true, false_and, if_false, true_and] at h
      have hh : r.head? ≠ some 48 := by
        rcases p3 with p3 | p3
        · exact p3
        · injection p3 with p3 _; exact absurd p3 (by decide)
      cases hm : parseMag r with
      | ok u =>
        rw [hm] at h
        simp only at h
        split at h
        · cases h
        · injection h with h
          have hr := mag_canon p1 p2 (.inl hh) hm
          have hu : u = 0 := by omega
          rw [hu, dec_zero] at hr
          rw [hr] at hh
          exact absurd rfl hh
      | _ => rw [hm] at h; cases h
    · rw [if_neg hc] at p1 p2 p3
      have hcd := (dig_iff c).1 (p2 c List.mem_cons_self)
      have n3 : ¬ c.toNat = 43 := by omega
      have n2 : ¬ c.toNat = 45 := by omega
      simp only [n3, n2, or_self, if_false, not_false_eq_true, true_and, false_and] at h
      cases hm : parseMag (c :: r) with
      | ok u =>
        rw [hm] at h
        simp only at h
        split at h
        · cases h
        · injection h with h
          have hr := mag_canon p1 p2 p3 hm
          rw [← h, Int.toNat_natCast]; exact hr
      | _ => rw [hm] at h; cases h
theorem dec_inj : ∀ (n a b : Nat), a ≤ n → decDigits a = decDigits b → a = b := by
  intro n a b _ h
  have h1 := dfold_dec a a (Nat.le_refl _) []
  have h2 := dfold_dec b b (Nat.le_refl _) []
  rw [List.append_nil] at h1 h2
  rw [h, h2] at h1
  exact h1.symm
/-- The set says which lines there were. -/
def HadR (n : Nat) (had : List UInt8 → Bool) (hd : List Bool) : Prop := hd.length = 2 * n ∧ ∀ d, d < n → ∀ b : Bool, had ((if b then stealW else inputW) ++ decDigits d) = hd.getD (slot d b) false
theorem slot_lt {n d : Nat} (h : d < n) (b : Bool) : slot d b < 2 * n := by unfold slot; cases b <;> simp <;> omega
theorem slot_inj {d d' : Nat} {b b' : Bool} (h : slot d b = slot d' b') : d = d' ∧ b = b' := by
  unfold slot at h
  cases b <;> cases b' <;> simp at h ⊢ <;> omega
theorem key_inj {d d' : Nat} {b b' : Bool} (h : (if b then stealW else inputW) ++ decDigits d = (if b' then stealW else inputW) ++ decDigits d') : d = d' ∧ b = b' := by
  have hb : b = b' := by
    cases b <;> cases b'
    · rfl
    · have := congrArg List.head? h; simp [stealW, inputW] at this
    · have := congrArg List.head? h; simp [stealW, inputW] at this
    · rfl
  subst hb
  exact ⟨dec_inj d d d' (Nat.le_refl _) (List.append_cancel_left h), rfl⟩
theorem HadR.put {n : Nat} {had : List UInt8 → Bool} {hd : List Bool} (h : HadR n had hd) {d : Nat} (hd' : d < n) (b : Bool) : HadR n (fun k => k == (if b then stealW else inputW) ++ decDigits d || had k) (hd.set (slot d b) true) := by
  refine ⟨by rw [List.length_set]; exact h.1, fun e he c => ?_⟩
  have hl := slot_lt he c
  have hl2 := slot_lt hd' b
  have h1 := h.1
  show (((if c then stealW else inputW) ++ decDigits e == (if b then stealW else inputW) ++ decDigits d) || had ((if c then stealW else inputW) ++ decDigits e)) = _
  rw [h.2 e he c]
  rw [List.getD_eq_getElem?_getD, List.getD_eq_getElem?_getD, List.getElem?_set]
  by_cases hk : slot d b = slot e c
  · obtain ⟨rfl, rfl⟩ := slot_inj hk
    rw [if_pos rfl, if_pos (show slot d b < hd.length by omega)]; simp
  · rw [if_neg hk]
    have : ((if c then stealW else inputW) ++ decDigits e == (if b then stealW else inputW) ++ decDigits d) = false := beq_eq_false_iff_ne.mpr (fun e' => hk (by
      obtain ⟨rfl, rfl⟩ := key_inj e'; rfl))
    rw [this, Bool.false_or]
end Go.Proofs.YtonnlkpmfmknlaaDoor.Q
end
