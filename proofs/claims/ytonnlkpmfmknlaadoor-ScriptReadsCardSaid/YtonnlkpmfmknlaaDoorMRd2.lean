import Derived.Test.YtonnlkpmfmknlaaDoorMRd1
import Derived.Test.YtonnlkpmfmknlaaDoorMB4
import Derived.Lib.ItoaLen
import Derived.IntWalk
import Derived.Test.YtonnlkpmfmknlaaDoorMRd0
import Derived.Test.YtonnlkpmfmknlaaDoorMB3
import Derived.Test.YtonnlkpmfmknlaaDoorMB6
import Derived.Lib.Hide
section
/-
  The frozen numbers are the program's: plain Lean.
-/
set_option linter.unusedVariables false
set_option linter.unusedSimpArgs false
namespace Go.Proofs.YtonnlkpmfmknlaaDoor.Q
open Go.RowKit Go.Lib Num Go.Proofs.YtonnlkpmfmknlaaDoorW.PrintWords Go.Proofs.YtonnlkpmfmknlaaDoorW.PrintLast Go.Proofs.YtonnlkpmfmknlaaDoorW.PrintMore Go.Proofs.YtonnlkpmfmknlaaDoor.GA
theorem sz_len (s : ByteArray) : s.data.toList.length = s.size := Array.length_toList
theorem bt_get (s : ByteArray) (i : Nat) (h : i < s.data.toList.length) : bt s (i : Int) = ((s.data.toList[i]).toNat : Int) := by
  have h' : i < s.size := by rw [← sz_len]; exact h
  unfold bt
  rw [dif_pos (by rw [Int.toNat_natCast]; exact h')]
  simp only [Int.toNat_natCast]
  rfl
theorem ext_one (s : ByteArray) (h : 1 ≤ s.size) : (s.extract 1 s.size).data.toList = s.data.toList.drop 1 := by
  have e : (s.extract 1 s.size).data.toList = (s.data.toList.drop 1).take (s.size - 1) := by
    simp [ByteArray.data_extract, Array.toList_extract, List.extract]
  rw [e, List.take_of_length_le]
  rw [List.length_drop, sz_len]; exact Nat.le_refl _
theorem wr_succ (i n : Nat) (h : i < n) (hn : n ≤ 9223372036854775807) : wrap64 ((i : Int) + 1) = ((i + 1 : Nat) : Int) := by
  rw [Int.natCast_add]; exact IntWalk.wrap64_in _ (by omega)
/-! the program's numbers -/
theorem uintM_iff (M : Nat) (hM : M ≤ 18446744073709551615) : ∀ (l : List UInt8) (acc : Nat), acc ≤ M → ∀ v, parseUintM M acc l = .ok v ↔ ((∀ b ∈ l, dig b = true) ∧ dfold acc l ≤ M ∧ v = dfold acc l)
  | [], acc, ha, v => by
    rw [parseUintM, dfold_nil]
    constructor
    · intro h; injection h with h; exact ⟨(fun b hb => by cases hb), ha, h.symm⟩
    · rintro ⟨_, _, rfl⟩; rfl
  | c :: r, acc, ha, v => by
    rw [parseUintM, dfold_cons, dstep_eq]
    by_cases hc : 48 ≤ c.toNat ∧ c.toNat ≤ 57
    · rw [if_pos hc]
      have hle := dfold_le r (acc * 10 + (c.toNat - 48))
      by_cases h1 : 1844674407370955162 ≤ acc
      · rw [if_pos h1]
        exact ⟨(fun h => by cases h), fun ⟨_, h, _⟩ => by omega⟩
      · rw [if_neg h1]
        by_cases h2 : M < acc * 10 + (c.toNat - 48)
        · rw [if_pos h2]
          exact ⟨(fun h => by cases h), fun ⟨_, h, _⟩ => by omega⟩
        · rw [if_neg h2, uintM_iff M hM r _ (by omega) v]
          constructor
          · rintro ⟨a, b, d⟩
            exact ⟨fun x hx => by rcases List.mem_cons.1 hx with rfl | hx; exact (dig_iff _).2 hc; exact a x hx, b, d⟩
          · rintro ⟨a, b, d⟩
            exact ⟨fun x hx => a x (List.mem_cons_of_mem _ hx), b, d⟩
    · rw [if_neg hc]
      exact ⟨(fun h => by cases h), fun ⟨h, _, _⟩ => absurd ((dig_iff c).1 (h c List.mem_cons_self)) hc⟩
theorem uintB_iff (B : Nat) (hB : 2 ^ B - 1 ≤ 18446744073709551615) (l : List UInt8) (v : Nat) : parseUintB B l = .ok v ↔ (l ≠ [] ∧ (∀ b ∈ l, dig b = true) ∧ dfold 0 l ≤ 2 ^ B - 1 ∧ v = dfold 0 l) := by
  unfold parseUintB
  by_cases h : l = []
  · rw [if_pos h]
    exact ⟨(fun h2 => by cases h2), fun h2 => absurd h h2.1⟩
  · rw [if_neg h, uintM_iff _ hB l 0 (Nat.zero_le _) v]
    exact ⟨fun h2 => ⟨h, h2⟩, fun h2 => h2.2⟩
theorem uint10_M : ∀ (l : List UInt8) (acc : Nat), parseUint10 acc l = parseUintM 18446744073709551615 acc l
  | [], acc => by rw [parseUint10, parseUintM]
  | c :: r, acc => by
    rw [parseUint10, parseUintM, uint10_M r]
    by_cases hc : 48 ≤ c.toNat ∧ c.toNat ≤ 57
    · rw [if_pos hc, if_pos hc]
      by_cases h1 : 1844674407370955162 ≤ acc
      · rw [if_pos h1, if_pos h1]
      · rw [if_neg h1, if_neg h1]
        by_cases h2 : 18446744073709551616 ≤ acc * 10 + (c.toNat - 48)
        · rw [if_pos h2, if_pos (by omega)]
        · rw [if_neg h2, if_neg (by omega)]
    · rw [if_neg hc, if_neg hc]
theorem mag_iff (l : List UInt8) (v : Nat) : parseMag l = .ok v ↔ (l ≠ [] ∧ (∀ b ∈ l, dig b = true) ∧ dfold 0 l ≤ 18446744073709551615 ∧ v = dfold 0 l) := by
  unfold parseMag
  by_cases h : l = []
  · rw [if_pos h]
    exact ⟨(fun h2 => by cases h2), fun h2 => absurd h h2.1⟩
  · rw [if_neg h, uint10_M, uintM_iff _ (Nat.le_refl _) l 0 (Nat.zero_le _) v]
    exact ⟨fun h2 => ⟨h, h2⟩, fun h2 => h2.2⟩
/-! the frozen digits -/
/-- Canonical digits of at most M. -/
def Canon (l : List UInt8) (M : Nat) : Prop := l ≠ [] ∧ (∀ b ∈ l, dig b = true) ∧ (l.head? ≠ some 48 ∨ l = [48]) ∧ dfold 0 l ≤ M
instance (l : List UInt8) (M : Nat) : Decidable (Canon l M) := by unfold Canon; infer_instance
theorem canon_len {l : List UInt8} {M : Nat} (h : Canon l M) (hM : M ≤ 18446744073709551615) : l.length ≤ 20 := by
  obtain ⟨h0, hd, hh, hm⟩ := h
  have key : ∀ u : Nat, u ≤ 18446744073709551615 → (decDigits u).length ≤ 20 := fun u hu => by rw [decDigits_length]; exact nDigits_le20 _ (by omega)
  rcases hh with hh | rfl
  · have := canon l.length l rfl h0 hd hh
    rw [← this.1]; exact key _ (by omega)
  · decide
theorem q10 (m d n : Nat) (hd : d ≤ 9) (hm : d ≤ m) (hm2 : m ≤ 18446744073709551615) : ((n : Int) > IntKind.u64.wrap (Int.tdiv (IntKind.u64.wrap ((m : Int) - (d : Int))) 10)) ↔ m < n * 10 + d := by
  have e1 : IntKind.u64.wrap ((m : Int) - (d : Int)) = ((m - d : Nat) : Int) := by rw [IntWalk.u64_in _ (by omega)]; omega
  rw [e1, IntWalk.u64_quo _ _ (by omega)]
  omega
theorem digits_l (s : ByteArray) (m : Nat) (hm : 9 ≤ m) (hm2 : m ≤ 18446744073709551615) (hs : s.size ≤ 1000000) : ∀ (d i n : Nat), i + d = s.data.toList.length → n ≤ m → ∀ k, 2 * d + 1 ≤ k →
    rotaref19_digits.l0 k s (m : Int) (n : Int) (i : Int) = some (if (∀ b ∈ s.data.toList.drop i, dig b = true) ∧ dfold n (s.data.toList.drop i) ≤ m then ((dfold n (s.data.toList.drop i) : Nat) : Int) else 0, decide ((∀ b ∈ s.data.toList.drop i, dig b = true) ∧ dfold n (s.data.toList.drop i) ≤ m))
  | 0, i, n, hi, hn, k, hk => by
    obtain ⟨k, rfl⟩ : ∃ j, k = j + 1 := ⟨k - 1, by omega⟩
    have hz := sz_len s
    rw [rotaref19_digits.l0, if_neg (by omega), List.drop_eq_nil_of_le (by omega), dfold_nil, if_pos ⟨(fun b hb => by cases hb), hn⟩, decide_eq_true ⟨(fun b hb => by cases hb), hn⟩]
  | d + 1, i, n, hi, hn, k, hk => by
    obtain ⟨k, rfl⟩ : ∃ j, k = j + 1 + 1 := ⟨k - 2, by omega⟩
    have hz := sz_len s
    have hil : i < s.data.toList.length := by omega
    have hb := bt_get s i hil
    have hbr : (s.data.toList[i]).toNat < 256 := UInt8.toNat_lt _
    rw [List.drop_eq_getElem_cons hil, dfold_cons, dstep_eq]
    generalize hc : s.data.toList[i] = c at hb hbr
    have no : ∀ (h : ¬ (48 ≤ c.toNat ∧ c.toNat ≤ 57)), ¬ ((∀ b ∈ c :: s.data.toList.drop (i + 1), dig b = true) ∧ dfold (n * 10 + (c.toNat - 48)) (s.data.toList.drop (i + 1)) ≤ m) := fun h h2 => h ((dig_iff c).1 (h2.1 c List.mem_cons_self))
    rw [rotaref19_digits.l0, if_pos (by omega), if_pos (by omega), hb]
    by_cases h1 : c.toNat < 48
    · rw [if_pos (by omega), rotaref19_digits.j2, if_pos rfl, if_neg (no (by omega)), decide_eq_false (no (by omega))]
    · rw [if_neg (by omega)]
      by_cases h2 : c.toNat > 57
      · rw [decide_eq_true (by omega), rotaref19_digits.j2, if_pos rfl, if_neg (no (by omega)), decide_eq_false (no (by omega))]
      · rw [decide_eq_false (by omega), rotaref19_digits.j2, if_neg (by simp), if_pos (by omega), if_pos (by omega), hb]
        have e0 : ((c.toNat : Int) - 48) % 256 = ((c.toNat - 48 : Nat) : Int) := by omega
        have hle := dfold_le (s.data.toList.drop (i + 1)) (n * 10 + (c.toNat - 48))
        rw [e0]
        by_cases h3 : m < n * 10 + (c.toNat - 48)
        · have nn : ¬ ((∀ b ∈ c :: s.data.toList.drop (i + 1), dig b = true) ∧ dfold (n * 10 + (c.toNat - 48)) (s.data.toList.drop (i + 1)) ≤ m) := fun h => by have := h.2; omega
          rw [if_pos ((q10 m _ n (by omega) (by omega) hm2).2 h3), if_neg nn, decide_eq_false nn]
        · rw [if_neg (fun h => h3 ((q10 m _ n (by omega) (by omega) hm2).1 h)), wr_succ i s.size (by omega) (by omega)]
          have e1 : IntKind.u64.wrap (IntKind.u64.wrap ((n : Int) * 10) + ((c.toNat - 48 : Nat) : Int)) = ((n * 10 + (c.toNat - 48) : Nat) : Int) := by
            rw [IntWalk.u64_in ((n : Int) * 10) (by omega), IntWalk.u64_in _ (by omega)]; omega
          rw [e1, digits_l s m hm hm2 hs d (i + 1) _ (by omega) (by omega) k (by omega)]
          have key : ((∀ b ∈ s.data.toList.drop (i + 1), dig b = true) ∧ dfold (n * 10 + (c.toNat - 48)) (s.data.toList.drop (i + 1)) ≤ m) ↔ ((∀ b ∈ c :: s.data.toList.drop (i + 1), dig b = true) ∧ dfold (n * 10 + (c.toNat - 48)) (s.data.toList.drop (i + 1)) ≤ m) :=
            ⟨fun h => ⟨fun x hx => by rcases List.mem_cons.1 hx with rfl | hx; exact (dig_iff _).2 (by omega); exact h.1 x hx, h.2⟩, fun h => ⟨fun x hx => h.1 x (List.mem_cons_of_mem _ hx), h.2⟩⟩
          simp only [key]
theorem digitsF (s : ByteArray) (m : Nat) (hm : 9 ≤ m) (hm2 : m ≤ 18446744073709551615) (hs : s.size ≤ 1000000) (k : Nat) (hk : 2 * s.size + 3 ≤ k) :
    rotaref19_digits.f k s (m : Int) = some (if Canon s.data.toList m then ((dfold 0 s.data.toList : Nat) : Int) else 0, decide (Canon s.data.toList m)) := by
  obtain ⟨k, rfl⟩ : ∃ j, k = j + 1 := ⟨k - 1, by omega⟩
  have hz := sz_len s
  have bad : ∀ (h : ¬ Canon s.data.toList m), rotaref19_digits.j0 (k + 1) s (m : Int) true = some (if Canon s.data.toList m then ((dfold 0 s.data.toList : Nat) : Int) else 0, decide (Canon s.data.toList m)) := fun h => by
    rw [rotaref19_digits.j0, if_pos rfl, if_neg h, decide_eq_false h]
  have good : ∀ (h0 : s.data.toList ≠ []) (hh : s.data.toList.head? ≠ some 48 ∨ s.data.toList = [48]), rotaref19_digits.j0 (k + 1) s (m : Int) false = some (if Canon s.data.toList m then ((dfold 0 s.data.toList : Nat) : Int) else 0, decide (Canon s.data.toList m)) := fun h0 hh => by
    rw [rotaref19_digits.j0, if_neg (by simp)]
    have := digits_l s m hm hm2 hs s.data.toList.length 0 0 (by omega) (by omega) k (by omega)
    rw [List.drop_zero] at this
    rw [show ((0 : Nat) : Int) = 0 from rfl] at this
    rw [this]
    have key : ((∀ b ∈ s.data.toList, dig b = true) ∧ dfold 0 s.data.toList ≤ m) ↔ Canon s.data.toList m := ⟨fun h => ⟨h0, h.1, hh, h.2⟩, fun h => ⟨h.2.1, h.2.2.2⟩⟩
    simp only [key]
  unfold rotaref19_digits.f
  by_cases c0 : s.data.toList = []
  · rw [if_pos (by rw [c0] at hz; simp at hz; omega)]
    exact bad (fun h => h.1 c0)
  · have hpos : 0 < s.data.toList.length := List.length_pos_iff.2 c0
    rw [if_neg (by omega)]
    by_cases c1 : 20 < s.data.toList.length
    · rw [if_pos (by omega)]
      exact bad (fun h => by have := canon_len h hm2; omega)
    · rw [if_neg (by omega)]
      have hb := bt_get s 0 hpos
      have hhead : s.data.toList.head? = some (s.data.toList[0]) := by rw [List.head?_eq_getElem?, List.getElem?_eq_getElem hpos]
      rw [show ((0 : Nat) : Int) = 0 from rfl] at hb
      by_cases c2 : 1 < s.data.toList.length
      · rw [if_pos (by omega), if_pos (by omega), hb]
        have hne : s.data.toList ≠ [48] := fun e => by rw [e] at c2; simp at c2
        by_cases c3 : s.data.toList[0] = 48
        · have : ((((s.data.toList[0]).toNat : Nat) : Int) == 48) = true := by rw [c3]; rfl
          rw [this]
          exact bad (fun h => by
            rcases h.2.2.1 with h | h
            · exact h (by rw [hhead, c3])
            · exact hne h)
        · have : ((((s.data.toList[0]).toNat : Nat) : Int) == 48) = false := beq_eq_false_iff_ne.mpr (fun e => c3 (UInt8.toNat_inj.1 (by show _ = 48; omega)))
          rw [this]
          exact good c0 (.inl (fun e => by rw [hhead] at e; exact c3 (Option.some.inj e)))
      · rw [if_neg (by omega)]
        refine good c0 ?_
        by_cases c3 : s.data.toList[0] = 48
        · right
          obtain ⟨x, hx⟩ : ∃ x, s.data.toList = [x] := List.length_eq_one_iff.1 (by omega)
          have : x = 48 := by simp only [hx] at c3; simpa using c3
          rw [hx, this]
        · exact .inl (fun e => by rw [hhead] at e; exact c3 (Option.some.inj e))
/-! the frozen number -/
theorem all_l (s : ByteArray) (hs : s.size ≤ 1000000) : ∀ (d i : Nat), i + d = s.data.toList.length → ∀ k, d + 1 ≤ k → rotaref19_number.l0 k s (i : Int) = some ((s.data.toList.drop i).all dig)
  | 0, i, hi, k, hk => by
    obtain ⟨k, rfl⟩ : ∃ j, k = j + 1 := ⟨k - 1, by omega⟩
    have hz := sz_len s
    rw [rotaref19_number.l0, if_neg (by omega), List.drop_eq_nil_of_le (by omega)]; rfl
  | d + 1, i, hi, k, hk => by
    obtain ⟨k, rfl⟩ : ∃ j, k = j + 1 := ⟨k - 1, by omega⟩
    have hz := sz_len s
    have hil : i < s.data.toList.length := by omega
    have hb := bt_get s i hil
    rw [List.drop_eq_getElem_cons hil, List.all_cons]
    generalize s.data.toList[i] = c at hb
    rw [rotaref19_number.l0, if_pos (by omega), if_pos (by omega), hb]
    by_cases h1 : c.toNat < 48
    · rw [if_pos (by omega), show dig c = false from decide_eq_false (by omega)]; rfl
    · rw [if_neg (by omega)]
      by_cases h2 : c.toNat > 57
      · rw [if_pos (by omega), show dig c = false from decide_eq_false (by omega)]; rfl
      · rw [if_neg (by omega), wr_succ i s.size (by omega) (by omega), all_l s hs d (i + 1) (by omega) k (by omega), show dig c = true from decide_eq_true (by omega)]; rfl
/-- Behind a sign. -/
def numT (l : List UInt8) (minus : Bool) : Bool := !l.isEmpty && l.all dig && (l.head? != some 48 || (l == [48] && !minus))
theorem number_j (s : ByteArray) (hs : s.size ≤ 1000000) (minus : Bool) (k : Nat) (hk : s.size + 4 ≤ k) : rotaref19_number.j1 k s minus = some (numT s.data.toList minus) := by
  obtain ⟨k, rfl⟩ : ∃ j, k = j + 1 + 1 := ⟨k - 2, by omega⟩
  have hz := sz_len s
  have j2t : rotaref19_number.j2 (k + 1) s true = some false := by rw [rotaref19_number.j2, if_pos rfl]
  have j2f : rotaref19_number.j2 (k + 1) s false = some (s.data.toList.all dig) := by
    rw [rotaref19_number.j2, if_neg (by simp)]
    have := all_l s hs s.data.toList.length 0 (by omega) k (by omega)
    rw [List.drop_zero] at this; exact this
  rw [rotaref19_number.j1]
  by_cases c0 : s.data.toList = []
  · rw [if_pos (by rw [c0] at hz; simp at hz; omega), j2t, c0]; rfl
  · have hpos : 0 < s.data.toList.length := List.length_pos_iff.2 c0
    have hb := bt_get s 0 hpos
    have hhead : s.data.toList.head? = some (s.data.toList[0]) := by rw [List.head?_eq_getElem?, List.getElem?_eq_getElem hpos]
    rw [show ((0 : Nat) : Int) = 0 from rfl] at hb
    have he : s.data.toList.isEmpty = false := by cases h : s.data.toList with | nil => exact absurd h c0 | cons => rfl
    rw [if_neg (by omega), if_pos (by omega), hb]
    unfold numT
    rw [he, hhead]
    by_cases c3 : s.data.toList[0] = 48
    · rw [if_pos (by rw [c3]; rfl), c3]
      by_cases c2 : 1 < s.data.toList.length
      · have hne : (s.data.toList == [48]) = false := beq_eq_false_iff_ne.mpr (fun e => by rw [e] at c2; simp at c2)
        rw [if_pos (by omega), j2t, hne]; simp
      · obtain ⟨x, hx⟩ : ∃ x, s.data.toList = [x] := List.length_eq_one_iff.1 (by omega)
        have hx8 : x = 48 := by simp only [hx] at c3; simpa using c3
        have hne : (s.data.toList == [48]) = true := by rw [hx, hx8]; rfl
        rw [if_neg (by omega), hne]
        cases minus
        · rw [j2f]; simp
        · rw [j2t]; simp
    · have h48 : ((some (s.data.toList[0]) : Option UInt8) != some 48) = true := by simpa using c3
      rw [if_neg (fun e => c3 (UInt8.toNat_inj.1 (by show _ = 48; omega))), j2f, h48]; simp
theorem numberF (s : ByteArray) (hs : s.size ≤ 1000000) (k : Nat) (hk : s.size + 5 ≤ k) : rotaref19_number.f k s = some (numB s.data.toList) := by
  obtain ⟨k, rfl⟩ : ∃ j, k = j + 1 := ⟨k - 1, by omega⟩
  have hz := sz_len s
  unfold rotaref19_number.f
  cases hl : s.data.toList with
  | nil =>
    rw [hl] at hz
    simp at hz
    rw [if_neg (by omega), rotaref19_number.j0, if_neg (by simp), number_j s hs false k (by omega), hl]; rfl
  | cons c r =>
    rw [hl] at hz
    simp only [List.length_cons] at hz
    have hb := bt_get s 0 (by rw [hl]; simp)
    simp only [hl, List.getElem_cons_zero] at hb
    rw [show ((0 : Nat) : Int) = 0 from rfl] at hb
    rw [if_pos (by omega), if_pos (by omega), hb]
    unfold numB
    rw [trimP_cons]
    by_cases h : c = 45
    · have : (((c.toNat : Nat) : Int) == 45) = true := by rw [h]; rfl
      rw [this, rotaref19_number.j0, if_pos rfl, if_pos (by omega), number_j _ (by rw [ByteArray.size_extract]; omega) true k (by rw [ByteArray.size_extract]; omega), ext_one s (by omega), hl, if_pos h, List.drop_one, List.tail_cons]
      unfold numT
      have : ((c :: r : List UInt8) == [48]) = false := by rw [h]; rfl
      rw [this]; simp
    · have : (((c.toNat : Nat) : Int) == 45) = false := beq_eq_false_iff_ne.mpr (fun e => h (UInt8.toNat_inj.1 (by show _ = 45; omega)))
      rw [this, rotaref19_number.j0, if_neg (by simp), number_j s hs false k (by omega), hl, if_neg h]
      unfold numT
      simp
end Go.Proofs.YtonnlkpmfmknlaaDoor.Q
end

section
/-
  The frozen lines and words, byte by byte: plain Lean.
-/
set_option linter.unusedVariables false
set_option linter.unusedSimpArgs false
namespace Go.Proofs.YtonnlkpmfmknlaaDoor.Q
open Go.RowKit Go.Lib Num Go.Proofs.YtonnlkpmfmknlaaDoorW.PrintWords Go.Proofs.YtonnlkpmfmknlaaDoorW.PrintLast Go.Proofs.YtonnlkpmfmknlaaDoorW.PrintMore Go.Proofs.YtonnlkpmfmknlaaDoor.GA
/-- Parted at each c; cur: what stands before. -/
def spl (c : UInt8) (cur : List UInt8) : List UInt8 → List (List UInt8)
  | [] => [cur]
  | b :: r => if b = c then cur :: spl c [] r else spl c (cur ++ [b]) r
theorem spl_ne (c : UInt8) : ∀ (l cur : List UInt8), spl c cur l ≠ []
  | [], cur => by simp [spl]
  | b :: r, cur => by
    rw [spl]; split
    · simp
    · exact spl_ne c r _
theorem spl_no (c : UInt8) : ∀ (l cur : List UInt8), c ∉ cur → ∀ p ∈ spl c cur l, c ∉ p
  | [], cur, h, p, hp => by rw [spl, List.mem_singleton] at hp; rw [hp]; exact h
  | b :: r, cur, h, p, hp => by
    rw [spl] at hp
    split at hp
    · rcases List.mem_cons.1 hp with rfl | hp
      · exact h
      · exact spl_no c r [] (by simp) p hp
    · rename_i hb
      exact spl_no c r _ (fun hm => by
        rcases List.mem_append.1 hm with hm | hm
        · exact h hm
        · rw [List.mem_singleton] at hm; exact hb hm.symm) p hp
theorem joinC_cons (c : UInt8) (p : List UInt8) : ∀ (t : List (List UInt8)), t ≠ [] → joinC c (p :: t) = p ++ c :: joinC c t
  | [], h => absurd rfl h
  | q :: t, _ => by rw [joinC]
theorem join_spl (c : UInt8) : ∀ (l cur : List UInt8), joinC c (spl c cur l) = cur ++ l
  | [], cur => by rw [spl, joinC, List.append_nil]
  | b :: r, cur => by
    rw [spl]; split
    · rename_i hb
      rw [joinC_cons c cur _ (spl_ne c r []), join_spl c r [], List.nil_append, hb]
    · rw [join_spl c r _, List.append_assoc, List.singleton_append]
theorem pcs_join (ps : List (List UInt8)) (c : UInt8) (h0 : ps ≠ []) (h : ∀ p ∈ ps, c ∉ p) : (Hof.pcs ⟨(joinC c ps).toArray⟩ c).map (·.data.toList) = ps := by
  unfold Hof.pcs
  rw [Lib.splitB_data]
  have e : Lib.countB ⟨(joinC c ps).toArray⟩ ⟨#[c]⟩ = ps.length - 1 := by
    show Lib.count (joinC c ps) [c] = _
    rw [Lib.count_one, count_join c ps h0 h]
  rw [e]
  exact split_join c ps h0 h
theorem pcs_spl (s : ByteArray) (c : UInt8) : (Hof.pcs s c).map (·.data.toList) = spl c [] s.data.toList := by
  have h := pcs_join (spl c [] s.data.toList) c (spl_ne _ _ _) (spl_no _ _ _ (by simp))
  rw [join_spl, List.nil_append] at h
  exact h
/-- The frozen lines: the last may end at the text's end. -/
def lnR (cur : List UInt8) : List UInt8 → List (List UInt8)
  | [] => if cur = [] then [] else [cur]
  | b :: r => if b = 10 then cur :: lnR [] r else lnR (cur ++ [b]) r
theorem lnR_spl : ∀ (l cur : List UInt8), spl 10 cur l = lnR cur l ∨ spl 10 cur l = lnR cur l ++ [[]]
  | [], cur => by
    rw [spl, lnR]
    by_cases h : cur = []
    · rw [if_pos h, h]; exact .inr rfl
    · rw [if_neg h]; exact .inl rfl
  | b :: r, cur => by
    rw [spl, lnR]
    split
    · rcases lnR_spl r [] with h | h
      · exact .inl (by rw [h])
      · exact .inr (by rw [h]; rfl)
    · exact lnR_spl r _
theorem lnR_len : ∀ (l cur : List UInt8), (lnR cur l).length ≤ l.length + 1
  | [], cur => by rw [lnR]; split <;> simp
  | b :: r, cur => by
    rw [lnR]; split
    · have := lnR_len r []; simp only [List.length_cons]; omega
    · have := lnR_len r (cur ++ [b]); simp only [List.length_cons]; omega
/-- A list of bytes as a string. -/
abbrev sb (m : List UInt8) : ByteArray := ⟨m.toArray⟩
theorem ext_sb (s : ByteArray) (a b : Nat) : s.extract a b = sb ((s.data.toList.drop a).take (b - a)) := by
  apply ByteArray.ext
  apply Array.toList_inj.1
  simp [sb, ByteArray.data_extract, Array.toList_extract, List.extract]
theorem take_next (l : List UInt8) (st i : Nat) (b : UInt8) (h1 : st ≤ i) (h : l[i]? = some b) : (l.drop st).take (i + 1 - st) = (l.drop st).take (i - st) ++ [b] := by
  rw [show i + 1 - st = (i - st) + 1 by omega, List.take_add_one, List.getElem?_drop, show st + (i - st) = i by omega, h]
  rfl
theorem head_drop {l : List UInt8} {i : Nat} {b : UInt8} {r : List UInt8} (h : l.drop i = b :: r) : l[i]? = some b ∧ l.drop (i + 1) = r ∧ i < l.length := by
  have h1 : l[i]? = some b := by
    have := congrArg List.head? h
    rw [List.head?_drop] at this
    exact this
  have h2 : l.drop (i + 1) = r := by
    have := congrArg List.tail h
    rwa [List.tail_drop] at this
  exact ⟨h1, h2, (List.getElem?_eq_some_iff.1 h1).1⟩
theorem bt_nat {s : ByteArray} {i : Nat} {b : UInt8} (h : s.data.toList[i]? = some b) : bt s (i : Int) = (b.toNat : Int) := by
  obtain ⟨h1, h2⟩ := List.getElem?_eq_some_iff.1 h
  rw [bt_get s i h1, h2]
theorem toNat_ne {b c : UInt8} (h : ¬ b = c) : ¬ (b.toNat : Int) = (c.toNat : Int) := fun e => h (UInt8.toNat_inj.1 (by omega))
theorem lines_is (s : ByteArray) (hs : s.size ≤ 262144) : ∀ (l : List UInt8) (k i st : Nat) (done : List ByteArray), st ≤ i → i ≤ s.size → s.data.toList.drop i = l → done.length ≤ i → l.length + 1 < k →
    rotaref19_lines.l0 k s done (st : Int) (i : Int) = some (done ++ (lnR ((s.data.toList.drop st).take (i - st)) l).map sb)
  | [], k, i, st, done, h1, h2, h, hd, hk => by
    obtain ⟨k, rfl⟩ : ∃ j, k = j + 1 := ⟨k - 1, by simp at hk; omega⟩
    have hsz := sz_len s
    have hi : i = s.size := by
      have := List.drop_eq_nil_iff.1 h
      omega
    rw [rotaref19_lines.l0, if_neg (by omega), lnR]
    by_cases hst : st < s.size
    · rw [if_pos (by omega), if_pos (by omega), if_pos (by omega), if_pos (by omega), if_neg (fun e => by
        have := congrArg List.length e
        rw [List.length_take, List.length_drop, hsz] at this
        simp at this; omega), Int.toNat_natCast, ext_sb, hi]
      rfl
    · rw [if_neg (by omega), if_pos (by
        rw [List.drop_eq_nil_of_le (by omega), List.take_nil])]
      simp
  | b :: r, k, i, st, done, h1, h2, h, hd, hk => by
    obtain ⟨k, rfl⟩ : ∃ j, k = j + 1 := ⟨k - 1, by omega⟩
    have hsz := sz_len s
    obtain ⟨hb, hr, hi⟩ := head_drop h
    have hk' : r.length + 1 < k := by rw [List.length_cons] at hk; omega
    rw [rotaref19_lines.l0, if_pos (by omega), if_pos (by omega), bt_nat hb, lnR]
    by_cases c : b = 10
    · subst c
      rw [if_pos (by rfl), if_pos rfl, if_pos (by omega), if_pos (by omega), if_pos (by omega), if_pos (by omega), wr_succ i s.size (by omega) (by omega), Int.toNat_natCast, Int.toNat_natCast, ext_sb, lines_is s hs r k (i + 1) (i + 1) _ (Nat.le_refl _) (by omega) hr (by simp; omega) hk']
      simp
    · rw [if_neg (fun e => c (UInt8.toNat_inj.1 (by show _ = 10; omega))), if_neg c, wr_succ i s.size (by omega) (by omega), lines_is s hs r k (i + 1) st done (by omega) (by omega) hr (by omega) hk', take_next _ _ _ _ h1 hb]
theorem lines_f (s : ByteArray) (hs : s.size ≤ 262144) (k : Nat) (hk : s.size + 1 < k) : rotaref19_lines.f k s = some ((lnR [] s.data.toList).map sb) := by
  have hsz := sz_len s
  have := lines_is s hs s.data.toList k 0 0 [] (Nat.le_refl _) (Nat.zero_le _) rfl (Nat.le_refl _) (by omega)
  unfold rotaref19_lines.f
  simpa using this
/-- From where a word began. -/
def frI (fr : Option Nat) : Int := match fr with | none => -1 | some st => (st : Int)
def curO (l : List UInt8) (fr : Option Nat) (i : Nat) : List UInt8 := match fr with | none => [] | some st => (l.drop st).take (i - st)
theorem words_is (s : ByteArray) (hs : s.size ≤ 262144) : ∀ (l : List UInt8) (k i : Nat) (fr : Option Nat) (done : List ByteArray), (∀ st, fr = some st → st < i) → i ≤ s.size → s.data.toList.drop i = l → done.length ≤ i → 2 * l.length + 3 < k →
    rotaref19_words.l0 k s done (frI fr) (i : Int) = some (done ++ (Fld.fld (fun b => b.toNat == 32) (curO s.data.toList fr i) l).map sb)
  | [], k, i, fr, done, h1, h2, h, hd, hk => by
    obtain ⟨k, rfl⟩ : ∃ j, k = j + 1 + 1 + 1 := ⟨k - 3, by simp at hk; omega⟩
    have hsz := sz_len s
    have hi : i = s.size := by
      have := List.drop_eq_nil_iff.1 h
      omega
    rw [rotaref19_words.l0, if_pos (by omega), if_neg (by omega), rotaref19_words.j1, if_neg (by simp), wr_succ i (s.size + 1) (by omega) (by omega), Fld.fld]
    cases fr with
    | none =>
      simp only [frI, curO]
      have b1 : ¬ (((i + 1 : Nat) : Int) ≤ (s.size : Int)) := by omega
      have b2 : ¬ ((-1 : Int) ≥ 0) := by omega
      simp only [b2, if_false, rotaref19_words.l0, b1, if_true, List.map_nil, List.append_nil]
    | some st =>
      have hst := h1 st rfl
      simp only [frI, curO]
      have b1 : ¬ (((i + 1 : Nat) : Int) ≤ (s.size : Int)) := by omega
      have a1 : (st : Int) ≥ 0 := by omega
      have a2 : 0 ≤ (st : Int) := by omega
      have a3 : (st : Int) ≤ (i : Int) := by omega
      have a4 : (i : Int) ≤ (s.size : Int) := by omega
      have a5 : done.length < 8796093022208 := by omega
      have ne : ¬ (s.data.toList.drop st).take (i - st) = [] := fun e => by
        have := congrArg List.length e
        rw [List.length_take, List.length_drop, hsz] at this
        simp at this; omega
      simp only [a1, a2, a3, a4, a5, if_true, rotaref19_words.l0, b1, if_false, Int.toNat_natCast, ext_sb, ne, List.map_cons, List.map_nil]
  | b :: r, k, i, fr, done, h1, h2, h, hd, hk => by
    obtain ⟨k, rfl⟩ : ∃ j, k = j + 1 + 1 := ⟨k - 2, by omega⟩
    have hsz := sz_len s
    obtain ⟨hb, hr, hi⟩ := head_drop h
    have hk' : 2 * r.length + 3 < k := by rw [List.length_cons] at hk; omega
    rw [rotaref19_words.l0, if_pos (by omega), if_pos (by omega), if_pos (by omega), bt_nat hb, rotaref19_words.j1, wr_succ i s.size (by omega) (by omega), Fld.fld]
    by_cases c : b.toNat = 32
    · have e1 : ((b.toNat : Int) != 32) = false := by rw [c]; rfl
      have e2 : (b.toNat == 32) = true := by rw [c]; rfl
      rw [e1, if_neg (by simp)]
      simp only [e2, if_true]
      cases fr with
      | none =>
        have b2 : ¬ ((-1 : Int) ≥ 0) := by omega
        simp only [frI, curO, if_true, b2, if_false]
        exact words_is s hs r k (i + 1) none done (fun st h => by cases h) (by omega) hr (by omega) hk'
      | some st =>
        have hst := h1 st rfl
        simp only [frI, curO]
        have a1 : (st : Int) ≥ 0 := by omega
        have a2 : 0 ≤ (st : Int) := by omega
        have a3 : (st : Int) ≤ (i : Int) := by omega
        have a4 : (i : Int) ≤ (s.size : Int) := by omega
        have a5 : done.length < 8796093022208 := by omega
        have ne : ¬ (s.data.toList.drop st).take (i - st) = [] := fun e => by
          have := congrArg List.length e
          rw [List.length_take, List.length_drop, hsz] at this
          simp at this; omega
        simp only [a1, a2, a3, a4, a5, if_true, if_false, Int.toNat_natCast, ext_sb, ne]
        have := words_is s hs r k (i + 1) none (done ++ [sb ((s.data.toList.drop st).take (i - st))]) (fun st h => by cases h) (by omega) hr (by simp; omega) hk'
        simp only [frI, curO] at this
        rw [this]
        simp
    · have e1 : ((b.toNat : Int) != 32) = true := bne_iff_ne.mpr (by omega)
      have e2 : (b.toNat == 32) = false := beq_eq_false_iff_ne.mpr c
      rw [e1, if_pos rfl]
      simp only [e2, Bool.false_eq_true, if_false]
      cases fr with
      | none =>
        have b2 : (-1 : Int) < 0 := by omega
        simp only [frI, curO, b2, if_true]
        have := words_is s hs r k (i + 1) (some i) done (fun st h => by injection h with h; omega) (by omega) hr (by omega) hk'
        simp only [frI, curO] at this
        rw [this, take_next _ i i b (Nat.le_refl _) hb]
        simp
      | some st =>
        have hst := h1 st rfl
        have b2 : ¬ ((st : Int) < 0) := by omega
        simp only [frI, curO, b2, if_false]
        have := words_is s hs r k (i + 1) (some st) done (fun st' h => by injection h with h; omega) (by omega) hr (by omega) hk'
        simp only [frI, curO] at this
        rw [this, take_next _ st i b (by omega) hb]
theorem words_f (s : ByteArray) (hs : s.size ≤ 262144) (k : Nat) (hk : 2 * s.size + 3 < k) : rotaref19_words.f k s = some ((Fld.fld (fun b => b.toNat == 32) [] s.data.toList).map sb) := by
  have hsz := sz_len s
  have := words_is s hs s.data.toList k 0 none [] (fun st h => by cases h) (Nat.zero_le _) rfl (Nat.le_refl _) (by omega)
  unfold rotaref19_words.f
  simpa [frI, curO] using this
end Go.Proofs.YtonnlkpmfmknlaaDoor.Q
end

section
/-
  What the frozen reader's numbers say of a line: the program's words. Plain Lean.
-/
set_option linter.unusedVariables false
set_option linter.unusedSimpArgs false
namespace Go.Proofs.YtonnlkpmfmknlaaDoor.Q
open Go.RowKit Go.Lib Num Go.Proofs.YtonnlkpmfmknlaaDoorW.PrintWords Go.Proofs.YtonnlkpmfmknlaaDoorW.PrintLast Go.Proofs.YtonnlkpmfmknlaaDoorW.PrintMore Go.Proofs.YtonnlkpmfmknlaaDoor.GA
theorem dig45 : dig 45 = false := by decide
theorem dig43 : dig 43 = false := by decide
/-- Digits in their one form. -/
def CanS (l : List UInt8) : Prop := l ≠ [] ∧ (∀ b ∈ l, dig b = true) ∧ (l.head? ≠ some 48 ∨ l = [48])
theorem canon_iff (l : List UInt8) (M : Nat) : Canon l M ↔ CanS l ∧ dfold 0 l ≤ M := ⟨fun ⟨a, b, c, d⟩ => ⟨⟨a, b, c⟩, d⟩, fun ⟨⟨a, b, c⟩, d⟩ => ⟨a, b, c, d⟩⟩
theorem numB_pos (c : UInt8) (r : List UInt8) (h : c ≠ 45) : numB (c :: r) = true ↔ CanS (c :: r) := by
  constructor
  · intro hn
    have := numB_parts hn
    rw [trimP_cons, if_neg h] at this
    exact this
  · rintro ⟨_, b, d⟩
    unfold numB
    rw [trimP_cons, if_neg h]
    have h1 : (c :: r : List UInt8).all dig = true := List.all_eq_true.2 b
    rw [h1]
    rcases d with d | d
    · have : ((c :: r : List UInt8).head? != some 48) = true := by simpa using d
      rw [this]; rfl
    · rw [d]; rfl
theorem numB_neg (r : List UInt8) : numB (45 :: r) = true ↔ (r ≠ [] ∧ (∀ b ∈ r, dig b = true) ∧ r.head? ≠ some 48) := by
  constructor
  · intro hn
    have := numB_parts hn
    rw [trimP_cons, if_pos rfl] at this
    exact ⟨this.1, this.2.1, this.2.2.resolve_right (fun e => by simp at e)⟩
  · rintro ⟨a, b, d⟩
    unfold numB
    rw [trimP_cons, if_pos rfl]
    have h1 : r.all dig = true := List.all_eq_true.2 b
    have h2 : (r.head? != some 48) = true := by simpa using d
    have h3 : r.isEmpty = false := by cases r with | nil => exact absurd rfl a | cons => rfl
    rw [h1, h2, h3]; rfl
theorem canS_first {c : UInt8} {r : List UInt8} (h : CanS (c :: r)) : c ≠ 45 ∧ ¬ (c.toNat = 43 ∨ c.toNat = 45) := by
  have := (dig_iff c).1 (h.2.1 c List.mem_cons_self)
  exact ⟨fun e => by rw [e] at this; simp at this, by omega⟩
theorem item_u (s : List UInt8) : itemV true s = if Canon s 4294967295 then some ((dfold 0 s : Nat) : Int) else none := by
  unfold itemV
  have hu : ∀ v, parseUintB 32 s = .ok v ↔ (s ≠ [] ∧ (∀ b ∈ s, dig b = true) ∧ dfold 0 s ≤ 4294967295 ∧ v = dfold 0 s) := uintB_iff 32 (by decide) s
  by_cases hc : Canon s 4294967295
  · rw [if_pos hc]
    obtain ⟨h1, h2⟩ := (canon_iff _ _).1 hc
    cases s with
    | nil => exact absurd rfl h1.1
    | cons c r =>
      rw [if_pos ((numB_pos c r (canS_first h1).1).2 h1)]
      unfold uintV
      rw [(hu (dfold 0 (c :: r))).2 ⟨h1.1, h1.2.1, h2, rfl⟩]; rfl
  · rw [if_neg hc]
    by_cases hn : numB s = true
    · rw [if_pos hn]
      unfold uintV
      cases hp : parseUintB 32 s with
      | ok v =>
        exfalso
        obtain ⟨a, b, d, _⟩ := (hu v).1 hp
        cases s with
        | nil => exact a rfl
        | cons c r =>
          have h45 : c ≠ 45 := fun e => by have := b c List.mem_cons_self; rw [e, dig45] at this; cases this
          exact hc ((canon_iff _ _).2 ⟨(numB_pos c r h45).1 hn, d⟩)
      | _ => rfl
    · rw [if_neg hn]
/-- A signed number. -/
def sgn (s : List UInt8) : Option Int := match s with
  | [] => none
  | c :: r => if c = 45 then (if Canon r 9223372036854775808 ∧ 0 < dfold 0 r then some (-((dfold 0 r : Nat) : Int)) else none) else (if Canon (c :: r) 9223372036854775807 then some ((dfold 0 (c :: r) : Nat) : Int) else none)
theorem intV_iff (s : List UInt8) (v : Int) : intV s = some v ↔ parseIntB 64 s = .ok v := by
  unfold intV
  cases parseIntB 64 s <;> simp
theorem int_neg (r : List UInt8) (v : Int) : parseIntB 64 (45 :: r) = .ok v ↔ (r ≠ [] ∧ (∀ b ∈ r, dig b = true) ∧ dfold 0 r ≤ 9223372036854775808 ∧ v = -((dfold 0 r : Nat) : Int)) := by
  have hu : ∀ v, parseUintB 64 r = .ok v ↔ (r ≠ [] ∧ (∀ b ∈ r, dig b = true) ∧ dfold 0 r ≤ 18446744073709551615 ∧ v = dfold 0 r) := uintB_iff 64 (by decide) r
  have e : (if (45 : UInt8).toNat = 43 ∨ (45 : UInt8).toNat = 45 then r else 45 :: r) = r := if_pos (.inr rfl)
  unfold parseIntB
  simp only [e]
  cases hp : parseUintB 64 r with
  | ok u =>
    obtain ⟨a, b, c, d⟩ := (hu u).1 hp
    subst d
    show (if ¬ (45 : UInt8).toNat = 45 ∧ 2 ^ (64 - 1) ≤ dfold 0 r then NumEnd.range else if (45 : UInt8).toNat = 45 ∧ 2 ^ (64 - 1) < dfold 0 r then NumEnd.range else NumEnd.ok (if (45 : UInt8).toNat = 45 then -((dfold 0 r : Nat) : Int) else ((dfold 0 r : Nat) : Int))) = NumEnd.ok v ↔ _
    rw [if_neg (fun h => h.1 rfl)]
    by_cases hq : 9223372036854775808 < dfold 0 r
    · rw [if_pos ⟨rfl, hq⟩]
      exact ⟨(fun h => by cases h), fun h => by have := h.2.2.1; omega⟩
    · rw [if_neg (fun h => hq h.2), if_pos (show (45 : UInt8).toNat = 45 from rfl)]
      exact ⟨(fun h => by injection h with h; exact ⟨a, b, by omega, h.symm⟩), (fun h => by rw [h.2.2.2])⟩
  | _ =>
    refine ⟨(fun h => by cases h), fun h => ?_⟩
    have := (hu _).2 ⟨h.1, h.2.1, by have := h.2.2.1; omega, rfl⟩
    rw [hp] at this; cases this
theorem int_pos (c : UInt8) (r : List UInt8) (hf : ¬ (c.toNat = 43 ∨ c.toNat = 45)) (v : Int) : parseIntB 64 (c :: r) = .ok v ↔ ((∀ b ∈ c :: r, dig b = true) ∧ dfold 0 (c :: r) ≤ 9223372036854775807 ∧ v = ((dfold 0 (c :: r) : Nat) : Int)) := by
  have hu : ∀ v, parseUintB 64 (c :: r) = .ok v ↔ (c :: r ≠ [] ∧ (∀ b ∈ c :: r, dig b = true) ∧ dfold 0 (c :: r) ≤ 18446744073709551615 ∧ v = dfold 0 (c :: r)) := uintB_iff 64 (by decide) _
  have e : (if c.toNat = 43 ∨ c.toNat = 45 then r else c :: r) = c :: r := if_neg hf
  unfold parseIntB
  simp only [e]
  cases hp : parseUintB 64 (c :: r) with
  | ok u =>
    obtain ⟨a, b, d, d2⟩ := (hu u).1 hp
    subst d2
    show (if ¬ c.toNat = 45 ∧ 2 ^ (64 - 1) ≤ dfold 0 (c :: r) then NumEnd.range else if c.toNat = 45 ∧ 2 ^ (64 - 1) < dfold 0 (c :: r) then NumEnd.range else NumEnd.ok (if c.toNat = 45 then -((dfold 0 (c :: r) : Nat) : Int) else ((dfold 0 (c :: r) : Nat) : Int))) = NumEnd.ok v ↔ _
    by_cases hq : 9223372036854775808 ≤ dfold 0 (c :: r)
    · rw [if_pos ⟨fun h => hf (.inr h), hq⟩]
      exact ⟨(fun h => by cases h), fun h => by have := h.2.1; omega⟩
    · rw [if_neg (fun h => hq h.2), if_neg (fun h => hf (.inr h.1)), if_neg (fun h => hf (.inr h))]
      exact ⟨(fun h => by injection h with h; exact ⟨b, by omega, h.symm⟩), (fun h => by rw [h.2.2])⟩
  | _ =>
    refine ⟨(fun h => by cases h), fun h => ?_⟩
    have := (hu _).2 ⟨by simp, h.1, by have := h.2.1; omega, rfl⟩
    rw [hp] at this; cases this
theorem item_i (s : List UInt8) : itemV false s = sgn s := by
  apply Option.ext
  intro v
  cases s with
  | nil => exact ⟨(fun h => by cases h), (fun h => by cases h)⟩
  | cons c r =>
    have e : itemV false (c :: r) = some v ↔ (numB (c :: r) = true ∧ parseIntB 64 (c :: r) = .ok v) := by
      unfold itemV
      by_cases hn : numB (c :: r) = true
      · rw [if_pos hn, if_neg (by simp), intV_iff]
        exact ⟨fun h => ⟨hn, h⟩, fun h => h.2⟩
      · rw [if_neg hn]
        exact ⟨(fun h => by cases h), (fun h => absurd h.1 hn)⟩
    rw [e]
    unfold sgn
    simp only
    by_cases h : c = 45
    · subst h
      rw [if_pos rfl, int_neg, numB_neg]
      constructor
      · rintro ⟨⟨a, b, d⟩, _, _, hm, rfl⟩
        have hpos : 1 ≤ dfold 0 r := (canon r.length r rfl a b d).2
        rw [if_pos ⟨⟨a, b, .inl d, hm⟩, by omega⟩]
      · intro h
        by_cases hc : Canon r 9223372036854775808 ∧ 0 < dfold 0 r
        · rw [if_pos hc] at h
          obtain ⟨⟨a, b, d, hm⟩, hp⟩ := hc
          have hd : r.head? ≠ some 48 := d.resolve_right (fun e => by rw [e, dfold_cons, dfold_nil, dstep_eq] at hp; revert hp; decide)
          exact ⟨⟨a, b, hd⟩, a, b, hm, (Option.some.inj h).symm⟩
        · rw [if_neg hc] at h; cases h
    · rw [if_neg h, numB_pos c r h]
      constructor
      · rintro ⟨hcs, hp⟩
        obtain ⟨_, hm, rfl⟩ := (int_pos c r (canS_first hcs).2 v).1 hp
        rw [if_pos ((canon_iff _ _).2 ⟨hcs, hm⟩)]
      · intro h
        by_cases hc : Canon (c :: r) 9223372036854775807
        · rw [if_pos hc] at h
          obtain ⟨hcs, hm⟩ := (canon_iff _ _).1 hc
          exact ⟨hcs, (int_pos c r (canS_first hcs).2 v).2 ⟨hcs.2.1, hm, (Option.some.inj h).symm⟩⟩
        · rw [if_neg hc] at h; cases h
theorem dom_is (n : Nat) (hn16 : n ≤ 16) (s : List UInt8) (hn : numB s = true) : domV n s = if Canon s 4611686018427387904 ∧ dfold 0 s < n then some (dfold 0 s) else none := by
  cases s with
  | nil => exact absurd hn (by decide)
  | cons c r =>
    by_cases h : c = 45
    · subst h
      obtain ⟨a, b, d⟩ := (numB_neg r).1 hn
      have hpos : 1 ≤ dfold 0 r := (canon r.length r rfl a b d).2
      rw [if_neg (fun h => by have := h.1.2.1 45 List.mem_cons_self; rw [dig45] at this; cases this)]
      unfold domV atoiAll
      simp only [show ((45 : UInt8).toNat = 43 ∨ (45 : UInt8).toNat = 45) = True from eq_true (.inr rfl), if_true]
      cases hp : parseMag r with
      | ok u =>
        have hu := ((mag_iff r u).1 hp).2.2.2
        simp only [show ((45 : UInt8).toNat = 45) = True from eq_true rfl, not_true, false_and, if_false, true_and, if_true]
        by_cases hq : 9223372036854775808 < u
        · rw [if_pos hq]
        · rw [if_neg hq]
          simp only
          rw [if_neg (by omega)]
      | _ => rfl
    · have hcs := (numB_pos c r h).1 hn
      have hf := canS_first hcs
      have hneg : ¬ c.toNat = 45 := fun e => hf.2 (.inr e)
      unfold domV atoiAll
      simp only [if_neg hf.2]
      by_cases hb : dfold 0 (c :: r) ≤ 18446744073709551615
      · rw [(mag_iff _ _).2 ⟨hcs.1, hcs.2.1, hb, rfl⟩]
        simp only [eq_false hneg, not_false_eq_true, true_and, false_and, if_false]
        by_cases hq : 9223372036854775808 ≤ dfold 0 (c :: r)
        · rw [if_pos hq, if_neg (fun h => by have := h.1.2.2.2; omega)]
        · rw [if_neg hq]
          simp only
          by_cases hl : dfold 0 (c :: r) < n
          · rw [if_pos ⟨by omega, by omega⟩, if_pos ⟨(canon_iff _ _).2 ⟨hcs, by omega⟩, hl⟩, Int.toNat_natCast]
          · rw [if_neg (fun h => hl (by omega)), if_neg (fun h => hl h.2)]
      · rw [if_neg (fun h => by have := h.1.2.2.2; omega)]
        cases hp : parseMag (c :: r) with
        | ok u => exact absurd ((mag_iff _ u).1 hp).2.2.1 hb
        | _ => rfl
theorem wrap_neg (u : Nat) (h : u ≤ 9223372036854775808) : wrap64 (IntKind.u64.wrap (-(u : Int))) = -(u : Int) := by
  rw [IntKind.wrap_u64]
  unfold wrap64
  omega
theorem signedF (s : ByteArray) (hs : s.size ≤ 1000000) (k : Nat) (hk : 2 * s.size + 5 ≤ k) : ∃ v, rotaref19_signed.f k s = some (v, (sgn s.data.toList).isSome) ∧ ∀ x, sgn s.data.toList = some x → v = x := by
  obtain ⟨k, rfl⟩ : ∃ j, k = j + 1 := ⟨k - 1, by omega⟩
  have hz := sz_len s
  unfold rotaref19_signed.f
  have pos : ∀ (h : ∀ c r, s.data.toList = c :: r → c ≠ 45), ∃ v, rotaref19_signed.j0 (k + 1) s false = some (v, (sgn s.data.toList).isSome) ∧ ∀ x, sgn s.data.toList = some x → v = x := fun h => by
    have hd := digitsF s 9223372036854775807 (by omega) (by omega) hs k (by omega)
    rw [show ((9223372036854775807 : Nat) : Int) = 9223372036854775807 from rfl] at hd
    rw [rotaref19_signed.j0, if_neg (by simp), hd, Option.bind_some]
    have e : sgn s.data.toList = if Canon s.data.toList 9223372036854775807 then some ((dfold 0 s.data.toList : Nat) : Int) else none := by
      cases hl : s.data.toList with
      | nil => rw [if_neg (fun h => h.1 rfl)]; rfl
      | cons c r => unfold sgn; simp only; rw [if_neg (h c r hl)]
    rw [e]
    by_cases hc : Canon s.data.toList 9223372036854775807
    · have := hc.2.2.2
      simp only [if_pos hc, decide_eq_true hc]
      exact ⟨_, rfl, fun x hx => by rw [← Option.some.inj hx]; exact IntWalk.wrap64_in _ (by omega)⟩
    · simp only [if_neg hc, decide_eq_false hc]
      exact ⟨_, rfl, fun x hx => by cases hx⟩
  cases hl : s.data.toList with
  | nil =>
    rw [hl] at hz
    simp at hz
    rw [if_neg (by omega)]
    have := pos (fun c r e => by rw [hl] at e; cases e)
    rwa [hl] at this
  | cons c r =>
    have hz2 := hz
    rw [hl] at hz2
    simp only [List.length_cons] at hz2
    have hb := bt_get s 0 (by rw [hl]; simp)
    simp only [hl, List.getElem_cons_zero] at hb
    rw [show ((0 : Nat) : Int) = 0 from rfl] at hb
    rw [if_pos (by omega), if_pos (by omega), hb]
    by_cases h : c = 45
    · subst h
      have hext : (s.extract 1 s.size).data.toList = r := by rw [ext_one s (by omega), hl, List.drop_one, List.tail_cons]
      have hsz : (s.extract 1 s.size).size ≤ s.size := by rw [ByteArray.size_extract]; omega
      have hd := digitsF (s.extract 1 s.size) 9223372036854775808 (by omega) (by omega) (by omega) k (by omega)
      rw [hext, show ((9223372036854775808 : Nat) : Int) = 9223372036854775808 from rfl] at hd
      rw [show (((45 : UInt8).toNat : Int) == 45) = true from rfl, rotaref19_signed.j0, if_pos rfl, if_pos (by omega), hd, Option.bind_some]
      unfold sgn
      simp only [if_true]
      by_cases hc : Canon r 9223372036854775808
      · have h4 := hc.2.2.2
        simp only [if_pos hc, decide_eq_true hc, if_true, hc, true_and]
        by_cases hp : 0 < dfold 0 r
        · rw [if_pos hp, decide_eq_true (show ((dfold 0 r : Nat) : Int) > 0 by omega)]
          exact ⟨_, rfl, fun x hx => by rw [← Option.some.inj hx]; exact wrap_neg _ h4⟩
        · rw [if_neg hp, decide_eq_false (show ¬ ((dfold 0 r : Nat) : Int) > 0 by omega)]
          exact ⟨_, rfl, fun x hx => by cases hx⟩
      · simp only [if_neg hc, decide_eq_false hc, hc, false_and, if_false, Bool.false_eq_true]
        exact ⟨_, rfl, fun x hx => by cases hx⟩
    · have : (((c.toNat : Nat) : Int) == 45) = false := beq_eq_false_iff_ne.mpr (fun e => h (UInt8.toNat_inj.1 (by show _ = 45; omega)))
      rw [this]
      have := pos (fun c' r' e => by rw [hl] at e; injection e with e _; rw [← e]; exact h)
      rwa [hl] at this
end Go.Proofs.YtonnlkpmfmknlaaDoor.Q
end

section
/-
  The frozen reader's memory, its calls, and the events of its regions that draw.
-/
set_option linter.unusedVariables false
set_option linter.unusedSimpArgs false
namespace Go.Proofs.YtonnlkpmfmknlaaDoor.Hctx
open Go.RowKit Go.Proofs.YtonnlkpmfmknlaaDoorW.PrintWords Go.Proofs.YtonnlkpmfmknlaaDoorW.PrintLast Go.Proofs.YtonnlkpmfmknlaaDoorW.PrintMore
section
variable {P : Program} {ops : Array Oper} {md : Region.Mode} {o : Oper} {a : Act} {Q : Exit → Act → World → Prop} {e : List TypeId} {w0 w W : World} {l L : List (Nat × Array Value × TypeId)} {T : List (Addr × Value)} {rows : List Row} {fuel : Nat} {listed : Array Bool} {ds : List Nat}
/-- A slice of one element is built. -/
theorem qBs (M : Aside0 (Mem e w0 w l rows)) (i : Nat) (N : Tmp) (u : Value) (t : TypeId) {rs : List Nat}
    (h : wpAnyLast P md ops Q (Held L T) ds fuel (listed.setIfInBounds i true) (a.put (some N) (.slice (some ⟨w.heap.size, 0, none⟩) 1 1)) (w.alloc (.cells #[u] t)))
    (hrest : AllReadyL P md ops Q (Held L T) ds fuel listed a w rs)
    (hoi : ops[i]? = some o := by rfl) (hN : o.dst = some N := by rfl) (hw : Region.wanted o (yielded ops a.tmps) = true := by rfl) (hd : i ∉ ds := by decide)
    (hrun : (execOp a.eval o).run P w = .ok (.value (.slice (some ⟨w.heap.size, 0, none⟩) 1 1)) (w.alloc (.cells #[u] t)) := by first | (go_simp; done) | (go_simp; rfl))
    (hl : l.take L.length = L := by rfl) (hT : Cells w0 T := by first | exact Cells.nil _ | assumption) : AllReadyL P md ops Q (Held L T) ds fuel listed a w (i :: rs) := by
  refine AllReadyL.cons hoi hd (fun K hK => ?_) hrest
  rw [if_pos hw]
  unfold Oper.wp
  rw [hrun]
  show K (a.put o.dst _) _
  rw [hN]
  exact hK.out _ _ ((M.out.call (below_alloc (Below.refl _ _) _)).held hT hl) (fun _ => h)
/-- It is appended to the first row. -/
theorem qAp {ik : IntKind} {te : TypeId} {v : Value} {xs : List Int} (M : Aside0 (Mem e w0 w l (⟨Kd.int ik, te, v, xs⟩ :: rows))) (i : Nat) (N : Tmp) (p : Int) (bytes : Nat) {rs : List Nat} (hl64 : (xs.length + 1) * bytes ≤ 140737488355328)
    (h : ∀ v' w1, Aside0 (Mem e w0 w1 l (⟨Kd.int ik, te, v', xs ++ [p]⟩ :: rows)) → wpAnyLast P md ops Q (Held L T) ds fuel (listed.setIfInBounds i true) (a.put (some N) v') w1)
    (hrest : AllReadyL P md ops Q (Held L T) ds fuel listed a (w.alloc (.cells #[.int ik p] te)) rs)
    {s x : Operand} {t : TypeId} (hoi : ops[i]? = some o := by rfl) (hN : o.dst = some N := by rfl) (ho : o.op = .call { callee := .builtin .append, args := #[s, x], argTypes := #[t, t] } := by rfl) (hw : Region.wanted o (yielded ops a.tmps) = true := by rfl) (hd : i ∉ ds := by decide)
    (ht : P.underlying t = some (.slice te) := by kernel_rfl) (hinfo : (P.info? te).map (fun i => (i.zero, i.size, i.bytes)) = some (some (.int ik 0), 1, bytes) := by kernel_rfl)
    (hb0 : 0 < bytes := by decide) (hs : a.eval s = v := by rfl) (hx : a.eval x = .slice (some ⟨w.heap.size, 0, none⟩) 1 1 := by rfl) (hl : l.take L.length = L := by rfl) (hT : Cells w0 T := by first | exact Cells.nil _ | assumption) : AllReadyL P md ops Q (Held L T) ds fuel listed a (w.alloc (.cells #[.int ik p] te)) (i :: rs) := by
  have M0 := M.out
  refine AllReadyL.cons hoi hd (fun K hK => ?_) hrest
  refine Kd.R_append_step (Kd.int ik) (w0 := w0) w0.heap.size hw s x t te (.int ik 0) bytes ho ht hinfo rfl (by show 0 < 1; decide) hb0 v xs p [.int ik p] (okOf (⟨Kd.int ik, te, v, xs⟩ :: rows) 0) (fun _ => False) hs hx rfl (fun _ hk => hk.elim)
    (fun k hk => M0.okFresh 0 k hk) (M0.owns 0 _ rfl) M0.below M0.below.size hl64 (fun v1 w1 hR hB hg hat => ?_)
  have M1 := M0.written hB hg hR hat
  rw [hN]
  exact hK.out _ _ (M1.held hT hl) (fun _ => h v1 w1 ⟨M1⟩)
theorem cell_run {t : TypeId} {p : Tmp} {v : Operand} (ho : o.op = .store t (.tmp p) v) (g j : Nat) {tb : TypeId} (cs : Array Value) (u : Value)
    (hp : a.eval (.tmp p) = .pointer (some ⟨g, j, none⟩)) (hv : a.eval v = u) (hb : w.heap[g]? = some (.cells cs tb (0, 0))) (hj : (cs[j]?).isSome = true) (hi : (P.info? t).map (·.size) = some 1) (h1 : u.oneCell' = true) :
    (execOp a.eval o).run P w = .ok .skip (w.setCell ⟨g, j, none⟩ u) := by
  obtain ⟨z, hz⟩ := Option.isSome_iff_exists.1 hj
  have hc : w.cell? ⟨g, j, none⟩ = some z := (blk_cell hb j).trans hz
  have hf : w.frozen? ⟨g, j, none⟩ = false := blk_frozen hb j
  have hs : (store (⟨g, j, none⟩ : Addr) u).run P w = .ok () (w.setCell ⟨g, j, none⟩ u) := by
    rw [run_store P w _ u _ h1, hc]
    simp [hf]
  have hcells : u.cells = #[u] := by cases u <;> first | rfl | simp [Value.oneCell'] at h1
  have hsv : (storeVar t ⟨g, j, none⟩ u).run P w = .ok () (w.setCell ⟨g, j, none⟩ u) := by
    cases hq : P.info? t with
    | none => simp [hq] at hi
    | some i =>
      have hz : i.size = 1 := by simpa [hq] using hi
      have ha : (⟨g, j, none⟩ : Addr).add 0 = ⟨g, j, none⟩ := by unfold Addr.add; simp
      have hs' : (store ((⟨g, j, none⟩ : Addr).add 0) u).run P w = .ok () (w.setCell ⟨g, j, none⟩ u) := by rw [ha]; exact hs
      simp [storeVar, sizeOf, typeInfo, hq, hcells, hz, storeCells, hs']
  unfold execOp
  simp only [ho, hp, hv, Instr.storeAt, Instr.sureAddr, Sem.run_bind, Sem.run_pure, Result.andThen_ok, hsv]
/-- A cell of a box is stored (one of ds). -/
theorem qC (M : Aside0 (Mem e w0 w l rows)) (i : Nat) (t : TypeId) (p : Tmp) (k j : Nat) (u : Value) (new : Array Value) {g : Nat} {cs : Array Value} {tb : TypeId} {x : Operand} {rs : List Nat}
    (h : ∀ w', Aside0 (Mem e w0 w' (l.set k (g, new, tb)) rows) → wpAnyLast P md ops Q (Held L T) ds fuel (listed.setIfInBounds i true) a w')
    (hk : l[k]? = some (g, cs, tb)) (hj : (cs[j]?).isSome = true) (h1 : u.oneCell' = true) (hnew : cs.setIfInBounds j u = new)
    (hrest : AllReadyL P md ops Q (Held L T) ds fuel listed a w rs)
    (hoi : ops[i]? = some o := by rfl) (hn : o.dst = none := by rfl) (hw : Region.wanted o (yielded ops a.tmps) = true := by rfl) (hd : i ∈ ds := by decide) (ho : o.op = .store t (.tmp p) x := by rfl)
    (hx : a.eval (.tmp p) = .pointer (some ⟨g, j, none⟩) := by rfl) (hv : a.eval x = u := by rfl) (hs : (P.info? t).map (·.size) = some 1 := by kernel_rfl) : AllReadyL P md ops Q (Held L T) ds fuel listed a w (i :: rs) := by
  refine AllReadyL.cons_last hoi hd (fun K hK => ?_) hrest
  rw [if_pos hw]
  unfold Oper.wp
  rw [cell_run ho g j cs u hx hv (M.out.at k hk) hj hs h1]
  show K (a.put o.dst undef) _
  rw [hn]
  have M1 := M.out.set k hk j u
  rw [hnew] at M1
  exact hK.out _ _ (h _ ⟨M1⟩)
/-- A row of zeros is made: a box. -/
theorem qMk (M : Aside0 (Mem e w0 w l rows)) (i : Nat) (N : Tmp) (n : Nat) (cs : Array Value) (t : TypeId) {rs : List Nat}
    (h : ∀ g w', Aside0 (Mem e w0 w' (l ++ [(g, cs, t)]) rows) → wpAnyLast P md ops Q (Held L T) ds fuel (listed.setIfInBounds i true) (a.put (some N) (.slice (some ⟨g, 0, none⟩) n n)) w')
    (hrest : AllReadyL P md ops Q (Held L T) ds fuel listed a w rs)
    (hrun : (execOp a.eval o).run P w = .ok (.value (.slice (some ⟨w.heap.size, 0, none⟩) n n)) (w.alloc (.cells cs t)))
    (hoi : ops[i]? = some o := by rfl) (hN : o.dst = some N := by rfl) (hw : Region.wanted o (yielded ops a.tmps) = true := by rfl) (hd : i ∉ ds := by decide) (he : t ∉ e := by decide)
    (hl : ∀ g, (l ++ [(g, cs, t)]).take L.length = L := by intro _; rfl) (hT : Cells w0 T := by first | exact Cells.nil _ | assumption) : AllReadyL P md ops Q (Held L T) ds fuel listed a w (i :: rs) := by
  refine AllReadyL.cons hoi hd (fun K hK => ?_) hrest
  rw [if_pos hw]
  unfold Oper.wp
  rw [hrun]
  show K (a.put o.dst _) _
  rw [hN]
  have M1 := Aside0.mk (Mem.box (cs := cs) M.out rfl (blk_new w (.cells cs t (0, 0))) (below_alloc (Below.refl _ _) _) he)
  exact hK.out _ _ (M1.out.held hT (hl _)) (fun _ => h _ _ M1)
end
section
variable {P : Program} {ops : Array Oper} {rest : List Oper} {o : Oper} {a : Act} {Q : Exit → Act → World → Prop} {es : List TypeId} {w0 W : World} {l : List (Nat × Array Value × TypeId)} {rows : List Row}
/-- A cell of a box is stored, at a place that is told. -/
theorem eSn (M : Aside0 (Mem es w0 W l rows)) (t : TypeId) (p : Tmp) (i j : Nat) (u : Value) (new : Array Value) {b : Nat} {cs : Array Value} {tb : TypeId} {x : Operand}
    (h : ∀ w', Aside0 (Mem es w0 w' (l.set i (b, new, tb)) rows) → wpList P ops Q rest a w')
    (hi : l[i]? = some (b, cs, tb)) (hj : cs[j]?.isSome = true) (h1 : u.oneCell' = true) (hnew : cs.setIfInBounds j u = new)
    (ho : o.op = .store t (.tmp p) x := by with_reducible rfl) (hn : o.dst = none := by with_reducible rfl) (hgd : o.guard = none := by with_reducible rfl)
    (hx : a.eval (.tmp p) = .pointer (some ⟨b, j, none⟩) := by first | rfl | (go_simp; done) | (go_simp; rfl)) (hv : a.eval x = u := by first | rfl | (go_simp; done) | (go_simp; rfl))
    (hs : (P.info? t).map (·.size) = some 1 := by kernel_rfl) :
    wpList P ops Q (o :: rest) a W :=
  cell_event hgd ho hn b j cs u hx hv (M.out.at i hi) hj hs h1 fun w' hn' hk hb => h w' ⟨Mem.keep M.out i hi (hnew ▸ hn') hk (hb w0 M.out.below (M.out.ge i hi))⟩
end
end Go.Proofs.YtonnlkpmfmknlaaDoor.Hctx
namespace Go.Proofs.YtonnlkpmfmknlaaDoor.Hof
open Go.RowKit Go.Shelf Go.Proofs.YtonnlkpmfmknlaaDoorW.PrintWords Go.Proofs.YtonnlkpmfmknlaaDoorW.PrintLast Go.Proofs.YtonnlkpmfmknlaaDoorW.PrintMore Hctx GA
/-- Flags. -/
def bc (S : List Bool) : Array Value := (S.map Value.bool).toArray
theorem bc_get (S : List Bool) (d : Nat) (h : d < S.length) : (bc S)[d]? = some (.bool (S.getD d false)) := by
  unfold bc
  rw [List.getElem?_toArray, List.getElem?_map, List.getD_eq_getElem?_getD, List.getElem?_eq_getElem h]; rfl
theorem bc_set (S : List Bool) (d : Nat) (b : Bool) : (bc S).setIfInBounds d (.bool b) = bc (S.set d b) := by
  unfold bc
  rw [List.setIfInBounds_toArray, List.map_set]
/-- Both rows of flags, as one. -/
structure HadS (n : Nat) (S I hd : List Bool) : Prop where
  ls : S.length = n
  li : I.length = n
  lh : hd.length = 2 * n
  s : ∀ d, d < n → hd.getD (Q.slot d true) false = S.getD d false
  i : ∀ d, d < n → hd.getD (Q.slot d false) false = I.getD d false
theorem getD_set (l : List Bool) (i j : Nat) (h : i < l.length) : (l.set i true).getD j false = if i = j then true else l.getD j false := by
  rw [List.getD_eq_getElem?_getD, List.getD_eq_getElem?_getD, List.getElem?_set]
  by_cases e : i = j
  · subst e; simp [h]
  · simp [e]
theorem HadS.put_s {n : Nat} {S I hd : List Bool} (h : HadS n S I hd) {d : Nat} (hd' : d < n) : HadS n (S.set d true) I (hd.set (Q.slot d true) true) := by
  have hl := Q.slot_lt hd' true
  refine ⟨by rw [List.length_set]; exact h.ls, h.li, by rw [List.length_set]; exact h.lh, fun d2 h2 => ?_, fun d2 h2 => ?_⟩
  · rw [getD_set _ _ _ (by rw [h.lh]; exact hl), getD_set _ _ _ (by rw [h.ls]; exact hd'), h.s d2 h2]
    by_cases e : d = d2
    · rw [if_pos e, if_pos (by rw [e])]
    · rw [if_neg e, if_neg (fun e2 => e (Q.slot_inj e2).1)]
  · rw [getD_set _ _ _ (by rw [h.lh]; exact hl), if_neg (fun e2 => by have := (Q.slot_inj e2).2; cases this), h.i d2 h2]
theorem HadS.put_i {n : Nat} {S I hd : List Bool} (h : HadS n S I hd) {d : Nat} (hd' : d < n) : HadS n S (I.set d true) (hd.set (Q.slot d false) true) := by
  have hl := Q.slot_lt hd' false
  refine ⟨h.ls, by rw [List.length_set]; exact h.li, by rw [List.length_set]; exact h.lh, fun d2 h2 => ?_, fun d2 h2 => ?_⟩
  · rw [getD_set _ _ _ (by rw [h.lh]; exact hl), if_neg (fun e2 => by have := (Q.slot_inj e2).2; cases this), h.s d2 h2]
  · rw [getD_set _ _ _ (by rw [h.lh]; exact hl), getD_set _ _ _ (by rw [h.li]; exact hd'), h.i d2 h2]
    by_cases e : d = d2
    · rw [if_pos e, if_pos (by rw [e])]
    · rw [if_neg e, if_neg (fun e2 => e (Q.slot_inj e2).1)]
/-! the calls -/
theorem number_ref (s : ByteArray) (hs : s.size ≤ 262144) (W : World) : Calls Tryd.prog 58 #[.string s] W fun e W' => e = .returned (.bool (Q.numB s.data.toList)) ∧ Below W.heap.size W W' :=
  (rotaref19_number.calls 1000000 s _ W (Q.numberF s (by omega) _ (by omega))).mono fun e W' ⟨he, hd⟩ => ⟨he, hd.below⟩
theorem digits_ref (s : ByteArray) (hs : s.size ≤ 262144) (m : Nat) (hm : 9 ≤ m) (hm2 : m ≤ 18446744073709551615) (W : World) :
    Calls Tryd.prog 59 #[.string s, .int .u64 (m : Int)] W fun e W' => e = .returned (.tuple #[.int .u64 (if Q.Canon s.data.toList m then ((Num.dfold 0 s.data.toList : Nat) : Int) else 0), .bool (decide (Q.Canon s.data.toList m))]) ∧ Below W.heap.size W W' :=
  (rotaref19_digits.calls 1000000 s (m : Int) _ _ W (Q.digitsF s m hm hm2 (by omega) _ (by omega))).mono fun e W' ⟨he, hd⟩ => ⟨he, hd.below⟩
theorem signed_ref (s : ByteArray) (hs : s.size ≤ 262144) (W : World) :
    Calls Tryd.prog 60 #[.string s] W fun e W' => ∃ v : Int, e = .returned (.tuple #[.int .i64 v, .bool (Q.sgn s.data.toList).isSome]) ∧ (∀ x, Q.sgn s.data.toList = some x → v = x) ∧ Below W.heap.size W W' := by
  obtain ⟨v, h1, h2⟩ := Q.signedF s (by omega) 1000000 (by omega)
  exact (rotaref19_signed.calls 1000000 s v _ W h1).mono fun e W' ⟨he, hd⟩ => ⟨v, he, h2, hd.below⟩
end Go.Proofs.YtonnlkpmfmknlaaDoor.Hof
end
