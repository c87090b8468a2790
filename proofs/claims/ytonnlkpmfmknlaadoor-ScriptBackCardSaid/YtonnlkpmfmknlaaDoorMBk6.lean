import Derived.Test.YtonnlkpmfmknlaaDoorMBk3
import Derived.Test.YtonnlkpmfmknlaaDoorMBk4
import Derived.Test.YtonnlkpmfmknlaaDoorMB3
import Derived.Test.YtonnlkpmfmknlaaDoorMBk5
import Derived.IntWalk
import Derived.Test.YtonnlkpmfmknlaaDoorMB6
section
/-
  The frozen lines and words, byte by byte: plain Lean.
-/
set_option linter.unusedVariables false
set_option linter.unusedSimpArgs false
namespace Go.Proofs.YtonnlkpmfmknlaaDoor.Q
open Go.RowKit Go.Lib Num Go.Proofs.YtonnlkpmfmknlaaDoorW.PrintWords Go.Proofs.YtonnlkpmfmknlaaDoorW.PrintLast Go.Proofs.YtonnlkpmfmknlaaDoorW.PrintMore Go.Proofs.YtonnlkpmfmknlaaDoor.GA
/-- Parted at each c; cur: what stands before. -/
def spl (c : UInt8) (cur : List UInt8) : List UInt8 → List (List UInt8)
  | [] => [cur]
  | b :: r => if b = c then cur :: spl c [] r else spl c (cur ++ [b]) r
theorem spl_ne (c : UInt8) : ∀ (l cur : List UInt8), spl c cur l ≠ []
  | [], cur => by simp [spl]
  | b :: r, cur => by
    rw [spl]; split
    · simp
    · exact spl_ne c r _
theorem spl_no (c : UInt8) : ∀ (l cur : List UInt8), c ∉ cur → ∀ p ∈ spl c cur l, c ∉ p
  | [], cur, h, p, hp => by rw [spl, List.mem_singleton] at hp; rw [hp]; exact h
  | b :: r, cur, h, p, hp => by
    rw [spl] at hp
    split at hp
    · rcases List.mem_cons.1 hp with rfl | hp
      · exact h
      · exact spl_no c r [] (by simp) p hp
    · rename_i hb
      exact spl_no c r _ (fun hm => by
        rcases List.mem_append.1 hm with hm | hm
        · exact h hm
        · rw [List.mem_singleton] at hm; exact hb hm.symm) p hp
theorem joinC_cons (c : UInt8) (p : List UInt8) : ∀ (t : List (List UInt8)), t ≠ [] → joinC c (p :: t) = p ++ c :: joinC c t
  | [], h => absurd rfl h
  | q :: t, _ => by rw [joinC]
theorem join_spl (c : UInt8) : ∀ (l cur : List UInt8), joinC c (spl c cur l) = cur ++ l
  | [], cur => by rw [spl, joinC, List.append_nil]
  | b :: r, cur => by
    rw [spl]; split
    · rename_i hb
      rw [joinC_cons c cur _ (spl_ne c r []), join_spl c r [], List.nil_append, hb]
    · rw [join_spl c r _, List.append_assoc, List.singleton_append]
theorem pcs_join (ps : List (List UInt8)) (c : UInt8) (h0 : ps ≠ []) (h : ∀ p ∈ ps, c ∉ p) : (Hof.pcs ⟨(joinC c ps).toArray⟩ c).map (·.data.toList) = ps := by
  unfold Hof.pcs
  rw [Lib.splitB_data]
  have e : Lib.countB ⟨(joinC c ps).toArray⟩ ⟨#[c]⟩ = ps.length - 1 := by
    show Lib.count (joinC c ps) [c] = _
    rw [Lib.count_one, count_join c ps h0 h]
  rw [e]
  exact split_join c ps h0 h
theorem pcs_spl (s : ByteArray) (c : UInt8) : (Hof.pcs s c).map (·.data.toList) = spl c [] s.data.toList := by
  have h := pcs_join (spl c [] s.data.toList) c (spl_ne _ _ _) (spl_no _ _ _ (by simp))
  rw [join_spl, List.nil_append] at h
  exact h
/-- The frozen lines: the last may end at the text's end. -/
def lnR (cur : List UInt8) : List UInt8 → List (List UInt8)
  | [] => if cur = [] then [] else [cur]
  | b :: r => if b = 10 then cur :: lnR [] r else lnR (cur ++ [b]) r
theorem lnR_spl : ∀ (l cur : List UInt8), spl 10 cur l = lnR cur l ∨ spl 10 cur l = lnR cur l ++ [[]]
  | [], cur => by
    rw [spl, lnR]
    by_cases h : cur = []
    · rw [if_pos h, h]; exact .inr rfl
    · rw [if_neg h]; exact .inl rfl
  | b :: r, cur => by
    rw [spl, lnR]
    split
    · rcases lnR_spl r [] with h | h
      · exact .inl (by rw [h])
      · exact .inr (by rw [h]; rfl)
    · exact lnR_spl r _
theorem lnR_len : ∀ (l cur : List UInt8), (lnR cur l).length ≤ l.length + 1
  | [], cur => by rw [lnR]; split <;> simp
  | b :: r, cur => by
    rw [lnR]; split
    · have := lnR_len r []; simp only [List.length_cons]; omega
    · have := lnR_len r (cur ++ [b]); simp only [List.length_cons]; omega
/-- A list of bytes as a string. -/
abbrev sb (m : List UInt8) : ByteArray := ⟨m.toArray⟩
theorem ext_sb (s : ByteArray) (a b : Nat) : s.extract a b = sb ((s.data.toList.drop a).take (b - a)) := by
  apply ByteArray.ext
  apply Array.toList_inj.1
  simp [sb, ByteArray.data_extract, Array.toList_extract, List.extract]
theorem take_next (l : List UInt8) (st i : Nat) (b : UInt8) (h1 : st ≤ i) (h : l[i]? = some b) : (l.drop st).take (i + 1 - st) = (l.drop st).take (i - st) ++ [b] := by
  rw [show i + 1 - st = (i - st) + 1 by omega, List.take_add_one, List.getElem?_drop, show st + (i - st) = i by omega, h]
  rfl
theorem head_drop {l : List UInt8} {i : Nat} {b : UInt8} {r : List UInt8} (h : l.drop i = b :: r) : l[i]? = some b ∧ l.drop (i + 1) = r ∧ i < l.length := by
  have h1 : l[i]? = some b := by
    have := congrArg List.head? h
    rw [List.head?_drop] at this
    exact this
  have h2 : l.drop (i + 1) = r := by
    have := congrArg List.tail h
    rwa [List.tail_drop] at this
  exact ⟨h1, h2, (List.getElem?_eq_some_iff.1 h1).1⟩
theorem bt_nat {s : ByteArray} {i : Nat} {b : UInt8} (h : s.data.toList[i]? = some b) : bt s (i : Int) = (b.toNat : Int) := by
  obtain ⟨h1, h2⟩ := List.getElem?_eq_some_iff.1 h
  rw [bt_get s i h1, h2]
theorem toNat_ne {b c : UInt8} (h : ¬ b = c) : ¬ (b.toNat : Int) = (c.toNat : Int) := fun e => h (UInt8.toNat_inj.1 (by omega))
theorem lines_is (s : ByteArray) (hs : s.size ≤ 262144) : ∀ (l : List UInt8) (k i st : Nat) (done : List ByteArray), st ≤ i → i ≤ s.size → s.data.toList.drop i = l → done.length ≤ i → l.length + 1 < k →
    rotaref19_lines.l0 k s done (st : Int) (i : Int) = some (done ++ (lnR ((s.data.toList.drop st).take (i - st)) l).map sb)
  | [], k, i, st, done, h1, h2, h, hd, hk => by
    obtain ⟨k, rfl⟩ : ∃ j, k = j + 1 := ⟨k - 1, by simp at hk; omega⟩
    have hsz := sz_len s
    have hi : i = s.size := by
      have := List.drop_eq_nil_iff.1 h
      omega
    rw [rotaref19_lines.l0, if_neg (by omega), lnR]
    by_cases hst : st < s.size
    · rw [if_pos (by omega), if_pos (by omega), if_pos (by omega), if_pos (by omega), if_neg (fun e => by
        have := congrArg List.length e
        rw [List.length_take, List.length_drop, hsz] at this
        simp at this; omega), Int.toNat_natCast, ext_sb, hi]
      rfl
    · rw [if_neg (by omega), if_pos (by
        rw [List.drop_eq_nil_of_le (by omega), List.take_nil])]
      simp
  | b :: r, k, i, st, done, h1, h2, h, hd, hk => by
    obtain ⟨k, rfl⟩ : ∃ j, k = j + 1 := ⟨k - 1, by omega⟩
    have hsz := sz_len s
    obtain ⟨hb, hr, hi⟩ := head_drop h
    have hk' : r.length + 1 < k := by rw [List.length_cons] at hk; omega
    rw [rotaref19_lines.l0, if_pos (by omega), if_pos (by omega), bt_nat hb, lnR]
    by_cases c : b = 10
    · subst c
      rw [if_pos (by rfl), if_pos rfl, if_pos (by omega), if_pos (by omega), if_pos (by omega), if_pos (by omega), wr_succ i s.size (by omega) (by omega), Int.toNat_natCast, Int.toNat_natCast, ext_sb, lines_is s hs r k (i + 1) (i + 1) _ (Nat.le_refl _) (by omega) hr (by simp; omega) hk']
      simp
    · rw [if_neg (fun e => c (UInt8.toNat_inj.1 (by show _ = 10; omega))), if_neg c, wr_succ i s.size (by omega) (by omega), lines_is s hs r k (i + 1) st done (by omega) (by omega) hr (by omega) hk', take_next _ _ _ _ h1 hb]
theorem lines_f (s : ByteArray) (hs : s.size ≤ 262144) (k : Nat) (hk : s.size + 1 < k) : rotaref19_lines.f k s = some ((lnR [] s.data.toList).map sb) := by
  have hsz := sz_len s
  have := lines_is s hs s.data.toList k 0 0 [] (Nat.le_refl _) (Nat.zero_le _) rfl (Nat.le_refl _) (by omega)
  unfold rotaref19_lines.f
  simpa using this
/-- From where a word began. -/
def frI (fr : Option Nat) : Int := match fr with | none => -1 | some st => (st : Int)
def curO (l : List UInt8) (fr : Option Nat) (i : Nat) : List UInt8 := match fr with | none => [] | some st => (l.drop st).take (i - st)
theorem words_is (s : ByteArray) (hs : s.size ≤ 262144) : ∀ (l : List UInt8) (k i : Nat) (fr : Option Nat) (done : List ByteArray), (∀ st, fr = some st → st < i) → i ≤ s.size → s.data.toList.drop i = l → done.length ≤ i → 2 * l.length + 3 < k →
    rotaref19_words.l0 k s done (frI fr) (i : Int) = some (done ++ (Fld.fld (fun b => b.toNat == 32) (curO s.data.toList fr i) l).map sb)
  | [], k, i, fr, done, h1, h2, h, hd, hk => by
    obtain ⟨k, rfl⟩ : ∃ j, k = j + 1 + 1 + 1 := ⟨k - 3, by simp at hk; omega⟩
    have hsz := sz_len s
    have hi : i = s.size := by
      have := List.drop_eq_nil_iff.1 h
      omega
    rw [rotaref19_words.l0, if_pos (by omega), if_neg (by omega), rotaref19_words.j1, if_neg (by simp), wr_succ i (s.size + 1) (by omega) (by omega), Fld.fld]
    cases fr with
    | none =>
      simp only [frI, curO]
      have b1 : ¬ (((i + 1 : Nat) : Int) ≤ (s.size : Int)) := by omega
      have b2 : ¬ ((-1 : Int) ≥ 0) := by omega
      simp only [b2, if_false, rotaref19_words.l0, b1, if_true, List.map_nil, List.append_nil]
    | some st =>
      have hst := h1 st rfl
      simp only [frI, curO]
      have b1 : ¬ (((i + 1 : Nat) : Int) ≤ (s.size : Int)) := by omega
      have a1 : (st : Int) ≥ 0 := by omega
      have a2 : 0 ≤ (st : Int) := by omega
      have a3 : (st : Int) ≤ (i : Int) := by omega
      have a4 : (i : Int) ≤ (s.size : Int) := by omega
      have a5 : done.length < 8796093022208 := by omega
      have ne : ¬ (s.data.toList.drop st).take (i - st) = [] := fun e => by
        have := congrArg List.length e
        rw [List.length_take, List.length_drop, hsz] at this
        simp at this; omega
      simp only [a1, a2, a3, a4, a5, if_true, rotaref19_words.l0, b1, if_false, Int.toNat_natCast, ext_sb, ne, List.map_cons, List.map_nil]
  | b :: r, k, i, fr, done, h1, h2, h, hd, hk => by
    obtain ⟨k, rfl⟩ : ∃ j, k = j + 1 + 1 := ⟨k - 2, by omega⟩
    have hsz := sz_len s
    obtain ⟨hb, hr, hi⟩ := head_drop h
    have hk' : 2 * r.length + 3 < k := by rw [List.length_cons] at hk; omega
    rw [rotaref19_words.l0, if_pos (by omega), if_pos (by omega), if_pos (by omega), bt_nat hb, rotaref19_words.j1, wr_succ i s.size (by omega) (by omega), Fld.fld]
    by_cases c : b.toNat = 32
    · have e1 : ((b.toNat : Int) != 32) = false := by rw [c]; rfl
      have e2 : (b.toNat == 32) = true := by rw [c]; rfl
      rw [e1, if_neg (by simp)]
      simp only [e2, if_true]
      cases fr with
      | none =>
        have b2 : ¬ ((-1 : Int) ≥ 0) := by omega
        simp only [frI, curO, if_true, b2, if_false]
        exact words_is s hs r k (i + 1) none done (fun st h => by cases h) (by omega) hr (by omega) hk'
      | some st =>
        have hst := h1 st rfl
        simp only [frI, curO]
        have a1 : (st : Int) ≥ 0 := by omega
        have a2 : 0 ≤ (st : Int) := by omega
        have a3 : (st : Int) ≤ (i : Int) := by omega
        have a4 : (i : Int) ≤ (s.size : Int) := by omega
        have a5 : done.length < 8796093022208 := by omega
        have ne : ¬ (s.data.toList.drop st).take (i - st) = [] := fun e => by
          have := congrArg List.length e
          rw [List.length_take, List.length_drop, hsz] at this
          simp at this; omega
        simp only [a1, a2, a3, a4, a5, if_true, if_false, Int.toNat_natCast, ext_sb, ne]
        have := words_is s hs r k (i + 1) none (done ++ [sb ((s.data.toList.drop st).take (i - st))]) (fun st h => by cases h) (by omega) hr (by simp; omega) hk'
        simp only [frI, curO] at this
        rw [this]
        simp
    · have e1 : ((b.toNat : Int) != 32) = true := bne_iff_ne.mpr (by omega)
      have e2 : (b.toNat == 32) = false := beq_eq_false_iff_ne.mpr c
      rw [e1, if_pos rfl]
      simp only [e2, Bool.false_eq_true, if_false]
      cases fr with
      | none =>
        have b2 : (-1 : Int) < 0 := by omega
        simp only [frI, curO, b2, if_true]
        have := words_is s hs r k (i + 1) (some i) done (fun st h => by injection h with h; omega) (by omega) hr (by omega) hk'
        simp only [frI, curO] at this
        rw [this, take_next _ i i b (Nat.le_refl _) hb]
        simp
      | some st =>
        have hst := h1 st rfl
        have b2 : ¬ ((st : Int) < 0) := by omega
        simp only [frI, curO, b2, if_false]
        have := words_is s hs r k (i + 1) (some st) done (fun st' h => by injection h with h; omega) (by omega) hr (by omega) hk'
        simp only [frI, curO] at this
        rw [this, take_next _ st i b (by omega) hb]
theorem words_f (s : ByteArray) (hs : s.size ≤ 262144) (k : Nat) (hk : 2 * s.size + 3 < k) : rotaref19_words.f k s = some ((Fld.fld (fun b => b.toNat == 32) [] s.data.toList).map sb) := by
  have hsz := sz_len s
  have := words_is s hs s.data.toList k 0 none [] (fun st h => by cases h) (Nat.zero_le _) rfl (Nat.le_refl _) (by omega)
  unfold rotaref19_words.f
  simpa [frI, curO] using this
end Go.Proofs.YtonnlkpmfmknlaaDoor.Q
end

section
/-
  What the frozen reader's numbers say of a line: the program's words. Plain Lean.
-/
set_option linter.unusedVariables false
set_option linter.unusedSimpArgs false
namespace Go.Proofs.YtonnlkpmfmknlaaDoor.Q
open Go.RowKit Go.Lib Num Go.Proofs.YtonnlkpmfmknlaaDoorW.PrintWords Go.Proofs.YtonnlkpmfmknlaaDoorW.PrintLast Go.Proofs.YtonnlkpmfmknlaaDoorW.PrintMore Go.Proofs.YtonnlkpmfmknlaaDoor.GA
theorem dig45 : dig 45 = false := by decide
theorem dig43 : dig 43 = false := by decide
/-- Digits in their one form. -/
def CanS (l : List UInt8) : Prop := l ≠ [] ∧ (∀ b ∈ l, dig b = true) ∧ (l.head? ≠ some 48 ∨ l = [48])
theorem canon_iff (l : List UInt8) (M : Nat) : Canon l M ↔ CanS l ∧ dfold 0 l ≤ M := ⟨fun ⟨a, b, c, d⟩ => ⟨⟨a, b, c⟩, d⟩, fun ⟨⟨a, b, c⟩, d⟩ => ⟨a, b, c, d⟩⟩
theorem numB_pos (c : UInt8) (r : List UInt8) (h : c ≠ 45) : numB (c :: r) = true ↔ CanS (c :: r) := by
  constructor
  · intro hn
    have := numB_parts hn
    rw [trimP_cons, if_neg h] at this
    exact this
  · rintro ⟨_, b, d⟩
    unfold numB
    rw [trimP_cons, if_neg h]
    have h1 : (c :: r : List UInt8).all dig = true := List.all_eq_true.2 b
    rw [h1]
    rcases d with d | d
    · have : ((c :: r : List UInt8).head? != some 48) = true := by simpa using d
      rw [this]; rfl
    · rw [d]; rfl
theorem numB_neg (r : List UInt8) : numB (45 :: r) = true ↔ (r ≠ [] ∧ (∀ b ∈ r, dig b = true) ∧ r.head? ≠ some 48) := by
  constructor
  · intro hn
    have := numB_parts hn
    rw [trimP_cons, if_pos rfl] at this
    exact ⟨this.1, this.2.1, this.2.2.resolve_right (fun e => by simp at e)⟩
  · rintro ⟨a, b, d⟩
    unfold numB
    rw [trimP_cons, if_pos rfl]
    have h1 : r.all dig = true := List.all_eq_true.2 b
    have h2 : (r.head? != some 48) = true := by simpa using d
    have h3 : r.isEmpty = false := by cases r with | nil => exact absurd rfl a | cons => rfl
    rw [h1, h2, h3]; rfl
theorem canS_first {c : UInt8} {r : List UInt8} (h : CanS (c :: r)) : c ≠ 45 ∧ ¬ (c.toNat = 43 ∨ c.toNat = 45) := by
  have := (dig_iff c).1 (h.2.1 c List.mem_cons_self)
  exact ⟨fun e => by rw [e] at this; simp at this, by omega⟩
theorem item_u (s : List UInt8) : itemV true s = if Canon s 4294967295 then some ((dfold 0 s : Nat) : Int) else none := by
  unfold itemV
  have hu : ∀ v, parseUintB 32 s = .ok v ↔ (s ≠ [] ∧ (∀ b ∈ s, dig b = true) ∧ dfold 0 s ≤ 4294967295 ∧ v = dfold 0 s) := uintB_iff 32 (by decide) s
  by_cases hc : Canon s 4294967295
  · rw [if_pos hc]
    obtain ⟨h1, h2⟩ := (canon_iff _ _).1 hc
    cases s with
    | nil => exact absurd rfl h1.1
    | cons c r =>
      rw [if_pos ((numB_pos c r (canS_first h1).1).2 h1)]
      unfold uintV
      rw [(hu (dfold 0 (c :: r))).2 ⟨h1.1, h1.2.1, h2, rfl⟩]; rfl
  · rw [if_neg hc]
    by_cases hn : numB s = true
    · rw [if_pos hn]
      unfold uintV
      cases hp : parseUintB 32 s with
      | ok v =>
        exfalso
        obtain ⟨a, b, d, _⟩ := (hu v).1 hp
        cases s with
        | nil => exact a rfl
        | cons c r =>
          have h45 : c ≠ 45 := fun e => by have := b c List.mem_cons_self; rw [e, dig45] at this; cases this
          exact hc ((canon_iff _ _).2 ⟨(numB_pos c r h45).1 hn, d⟩)
      | _ => rfl
    · rw [if_neg hn]
/-- A signed number. -/
def sgn (s : List UInt8) : Option Int := match s with
  | [] => none
  | c :: r => if c = 45 then (if Canon r 9223372036854775808 ∧ 0 < dfold 0 r then some (-((dfold 0 r : Nat) : Int)) else none) else (if Canon (c :: r) 9223372036854775807 then some ((dfold 0 (c :: r) : Nat) : Int) else none)
theorem intV_iff (s : List UInt8) (v : Int) : intV s = some v ↔ parseIntB 64 s = .ok v := by
  unfold intV
  cases parseIntB 64 s <;> simp
theorem int_neg (r : List UInt8) (v : Int) : parseIntB 64 (45 :: r) = .ok v ↔ (r ≠ [] ∧ (∀ b ∈ r, dig b = true) ∧ dfold 0 r ≤ 9223372036854775808 ∧ v = -((dfold 0 r : Nat) : Int)) := by
  have hu : ∀ v, parseUintB 64 r = .ok v ↔ (r ≠ [] ∧ (∀ b ∈ r, dig b = true) ∧ dfold 0 r ≤ 18446744073709551615 ∧ v = dfold 0 r) := uintB_iff 64 (by decide) r
  have e : (if (45 : UInt8).toNat = 43 ∨ (45 : UInt8).toNat = 45 then r else 45 :: r) = r := if_pos (.inr rfl)
  unfold parseIntB
  simp only [e]
  cases hp : parseUintB 64 r with
  | ok u =>
    obtain ⟨a, b, c, d⟩ := (hu u).1 hp
    subst d
    show (if ¬ (45 : UInt8).toNat = 45 ∧ 2 ^ (64 - 1) ≤ dfold 0 r then NumEnd.range else if (45 : UInt8).toNat = 45 ∧ 2 ^ (64 - 1) < dfold 0 r then NumEnd.range else NumEnd.ok (if (45 : UInt8).toNat = 45 then -((dfold 0 r : Nat) : Int) else ((dfold 0 r : Nat) : Int))) = NumEnd.ok v ↔ _
    rw [if_neg (fun h => h.1 rfl)]
    by_cases hq : 9223372036854775808 < dfold 0 r
    · rw [if_pos ⟨rfl, hq⟩]
      exact ⟨(fun h => by cases h), fun h => by have := h.2.2.1; omega⟩
    · rw [if_neg (fun h => hq h.2), if_pos (show (45 : UInt8).toNat = 45 from rfl)]
      exact ⟨(fun h => by injection h with h; exact ⟨a, b, by omega, h.symm⟩), (fun h => by rw [h.2.2.2])⟩
  | _ =>
    refine ⟨(fun h => by cases h), fun h => ?_⟩
    have := (hu _).2 ⟨h.1, h.2.1, by have := h.2.2.1; omega, rfl⟩
    rw [hp] at this; cases this
theorem int_pos (c : UInt8) (r : List UInt8) (hf : ¬ (c.toNat = 43 ∨ c.toNat = 45)) (v : Int) : parseIntB 64 (c :: r) = .ok v ↔ ((∀ b ∈ c :: r, dig b = true) ∧ dfold 0 (c :: r) ≤ 9223372036854775807 ∧ v = ((dfold 0 (c :: r) : Nat) : Int)) := by
  have hu : ∀ v, parseUintB 64 (c :: r) = .ok v ↔ (c :: r ≠ [] ∧ (∀ b ∈ c :: r, dig b = true) ∧ dfold 0 (c :: r) ≤ 18446744073709551615 ∧ v = dfold 0 (c :: r)) := uintB_iff 64 (by decide) _
  have e : (if c.toNat = 43 ∨ c.toNat = 45 then r else c :: r) = c :: r := if_neg hf
  unfold parseIntB
  simp only [e]
  cases hp : parseUintB 64 (c :: r) with
  | ok u =>
    obtain ⟨a, b, d, d2⟩ := (hu u).1 hp
    subst d2
    show (if ¬ c.toNat = 45 ∧ 2 ^ (64 - 1) ≤ dfold 0 (c :: r) then NumEnd.range else if c.toNat = 45 ∧ 2 ^ (64 - 1) < dfold 0 (c :: r) then NumEnd.range else NumEnd.ok (if c.toNat = 45 then -((dfold 0 (c :: r) : Nat) : Int) else ((dfold 0 (c :: r) : Nat) : Int))) = NumEnd.ok v ↔ _
    by_cases hq : 9223372036854775808 ≤ dfold 0 (c :: r)
    · rw [if_pos ⟨fun h => hf (.inr h), hq⟩]
      exact ⟨(fun h => by cases h), fun h => by have := h.2.1; omega⟩
    · rw [if_neg (fun h => hq h.2), if_neg (fun h => hf (.inr h.1)), if_neg (fun h => hf (.inr h))]
      exact ⟨(fun h => by injection h with h; exact ⟨b, by omega, h.symm⟩), (fun h => by rw [h.2.2])⟩
  | _ =>
    refine ⟨(fun h => by cases h), fun h => ?_⟩
    have := (hu _).2 ⟨by simp, h.1, by have := h.2.1; omega, rfl⟩
    rw [hp] at this; cases this
theorem item_i (s : List UInt8) : itemV false s = sgn s := by
  apply Option.ext
  intro v
  cases s with
  | nil => exact ⟨(fun h => by cases h), (fun h => by cases h)⟩
  | cons c r =>
    have e : itemV false (c :: r) = some v ↔ (numB (c :: r) = true ∧ parseIntB 64 (c :: r) = .ok v) := by
      unfold itemV
      by_cases hn : numB (c :: r) = true
      · rw [if_pos hn, if_neg (by simp), intV_iff]
        exact ⟨fun h => ⟨hn, h⟩, fun h => h.2⟩
      · rw [if_neg hn]
        exact ⟨(fun h => by cases h), (fun h => absurd h.1 hn)⟩
    rw [e]
    unfold sgn
    simp only
    by_cases h : c = 45
    · subst h
      rw [if_pos rfl, int_neg, numB_neg]
      constructor
      · rintro ⟨⟨a, b, d⟩, _, _, hm, rfl⟩
        have hpos : 1 ≤ dfold 0 r := (canon r.length r rfl a b d).2
        rw [if_pos ⟨⟨a, b, .inl d, hm⟩, by omega⟩]
      · intro h
        by_cases hc : Canon r 9223372036854775808 ∧ 0 < dfold 0 r
        · rw [if_pos hc] at h
          obtain ⟨⟨a, b, d, hm⟩, hp⟩ := hc
          have hd : r.head? ≠ some 48 := d.resolve_right (fun e => by rw [e, dfold_cons, dfold_nil, dstep_eq] at hp; revert hp; decide)
          exact ⟨⟨a, b, hd⟩, a, b, hm, (Option.some.inj h).symm⟩
        · rw [if_neg hc] at h; cases h
    · rw [if_neg h, numB_pos c r h]
      constructor
      · rintro ⟨hcs, hp⟩
        obtain ⟨_, hm, rfl⟩ := (int_pos c r (canS_first hcs).2 v).1 hp
        rw [if_pos ((canon_iff _ _).2 ⟨hcs, hm⟩)]
      · intro h
        by_cases hc : Canon (c :: r) 9223372036854775807
        · rw [if_pos hc] at h
          obtain ⟨hcs, hm⟩ := (canon_iff _ _).1 hc
          exact ⟨hcs, (int_pos c r (canS_first hcs).2 v).2 ⟨hcs.2.1, hm, (Option.some.inj h).symm⟩⟩
        · rw [if_neg hc] at h; cases h
theorem dom_is (n : Nat) (hn16 : n ≤ 16) (s : List UInt8) (hn : numB s = true) : domV n s = if Canon s 4611686018427387904 ∧ dfold 0 s < n then some (dfold 0 s) else none := by
  cases s with
  | nil => exact absurd hn (by decide)
  | cons c r =>
    by_cases h : c = 45
    · subst h
      obtain ⟨a, b, d⟩ := (numB_neg r).1 hn
      have hpos : 1 ≤ dfold 0 r := (canon r.length r rfl a b d).2
      rw [if_neg (fun h => by have := h.1.2.1 45 List.mem_cons_self; rw [dig45] at this; cases this)]
      unfold domV atoiAll
      simp only [show ((45 : UInt8).toNat = 43 ∨ (45 : UInt8).toNat = 45) = True from eq_true (.inr rfl), if_true]
      cases hp : parseMag r with
      | ok u =>
        have hu := ((mag_iff r u).1 hp).2.2.2
        simp only [show ((45 : UInt8).toNat = 45) = True from eq_true rfl, not_true, false_and, if_false, true_and, if_true]
        by_cases hq : 9223372036854775808 < u
        · rw [if_pos hq]
        · rw [if_neg hq]
          simp only
          rw [if_neg (by omega)]
      | _ => rfl
    · have hcs := (numB_pos c r h).1 hn
      have hf := canS_first hcs
      have hneg : ¬ c.toNat = 45 := fun e => hf.2 (.inr e)
      unfold domV atoiAll
      simp only [if_neg hf.2]
      by_cases hb : dfold 0 (c :: r) ≤ 18446744073709551615
      · rw [(mag_iff _ _).2 ⟨hcs.1, hcs.2.1, hb, rfl⟩]
        simp only [eq_false hneg, not_false_eq_true, true_and, false_and, if_false]
        by_cases hq : 9223372036854775808 ≤ dfold 0 (c :: r)
        · rw [if_pos hq, if_neg (fun h => by have := h.1.2.2.2; omega)]
        · rw [if_neg hq]
          simp only
          by_cases hl : dfold 0 (c :: r) < n
          · rw [if_pos ⟨by omega, by omega⟩, if_pos ⟨(canon_iff _ _).2 ⟨hcs, by omega⟩, hl⟩, Int.toNat_natCast]
          · rw [if_neg (fun h => hl (by omega)), if_neg (fun h => hl h.2)]
      · rw [if_neg (fun h => by have := h.1.2.2.2; omega)]
        cases hp : parseMag (c :: r) with
        | ok u => exact absurd ((mag_iff _ u).1 hp).2.2.1 hb
        | _ => rfl
theorem wrap_neg (u : Nat) (h : u ≤ 9223372036854775808) : wrap64 (IntKind.u64.wrap (-(u : Int))) = -(u : Int) := by
  rw [IntKind.wrap_u64]
  unfold wrap64
  omega
theorem signedF (s : ByteArray) (hs : s.size ≤ 1000000) (k : Nat) (hk : 2 * s.size + 5 ≤ k) : ∃ v, rotaref19_signed.f k s = some (v, (sgn s.data.toList).isSome) ∧ ∀ x, sgn s.data.toList = some x → v = x := by
  obtain ⟨k, rfl⟩ : ∃ j, k = j + 1 := ⟨k - 1, by omega⟩
  have hz := sz_len s
  unfold rotaref19_signed.f
  have pos : ∀ (h : ∀ c r, s.data.toList = c :: r → c ≠ 45), ∃ v, rotaref19_signed.j0 (k + 1) s false = some (v, (sgn s.data.toList).isSome) ∧ ∀ x, sgn s.data.toList = some x → v = x := fun h => by
    have hd := digitsF s 9223372036854775807 (by omega) (by omega) hs k (by omega)
    rw [show ((9223372036854775807 : Nat) : Int) = 9223372036854775807 from rfl] at hd
    rw [rotaref19_signed.j0, if_neg (by simp), hd, Option.bind_some]
    have e : sgn s.data.toList = if Canon s.data.toList 9223372036854775807 then some ((dfold 0 s.data.toList : Nat) : Int) else none := by
      cases hl : s.data.toList with
      | nil => rw [if_neg (fun h => h.1 rfl)]; rfl
      | cons c r => unfold sgn; simp only; rw [if_neg (h c r hl)]
    rw [e]
    by_cases hc : Canon s.data.toList 9223372036854775807
    · have := hc.2.2.2
      simp only [if_pos hc, decide_eq_true hc]
      exact ⟨_, rfl, fun x hx => by rw [← Option.some.inj hx]; exact IntWalk.wrap64_in _ (by omega)⟩
    · simp only [if_neg hc, decide_eq_false hc]
      exact ⟨_, rfl, fun x hx => by cases hx⟩
  cases hl : s.data.toList with
  | nil =>
    rw [hl] at hz
    simp at hz
    rw [if_neg (by omega)]
    have := pos (fun c r e => by rw [hl] at e; cases e)
    rwa [hl] at this
  | cons c r =>
    have hz2 := hz
    rw [hl] at hz2
    simp only [List.length_cons] at hz2
    have hb := bt_get s 0 (by rw [hl]; simp)
    simp only [hl, List.getElem_cons_zero] at hb
    rw [show ((0 : Nat) : Int) = 0 from rfl] at hb
    rw [if_pos (by omega), if_pos (by omega), hb]
    by_cases h : c = 45
    · subst h
      have hext : (s.extract 1 s.size).data.toList = r := by rw [ext_one s (by omega), hl, List.drop_one, List.tail_cons]
      have hsz : (s.extract 1 s.size).size ≤ s.size := by rw [ByteArray.size_extract]; omega
      have hd := digitsF (s.extract 1 s.size) 9223372036854775808 (by omega) (by omega) (by omega) k (by omega)
      rw [hext, show ((9223372036854775808 : Nat) : Int) = 9223372036854775808 from rfl] at hd
      rw [show (((45 : UInt8).toNat : Int) == 45) = true from rfl, rotaref19_signed.j0, if_pos rfl, if_pos (by omega), hd, Option.bind_some]
      unfold sgn
      simp only [if_true]
      by_cases hc : Canon r 9223372036854775808
      · have h4 := hc.2.2.2
        simp only [if_pos hc, decide_eq_true hc, if_true, hc, true_and]
        by_cases hp : 0 < dfold 0 r
        · rw [if_pos hp, decide_eq_true (show ((dfold 0 r : Nat) : Int) > 0 by omega)]
          exact ⟨_, rfl, fun x hx => by rw [← Option.some.inj hx]; exact wrap_neg _ h4⟩
        · rw [if_neg hp, decide_eq_false (show ¬ ((dfold 0 r : Nat) : Int) > 0 by omega)]
          exact ⟨_, rfl, fun x hx => by cases hx⟩
      · simp only [if_neg hc, decide_eq_false hc, hc, false_and, if_false, Bool.false_eq_true]
        exact ⟨_, rfl, fun x hx => by cases hx⟩
    · have : (((c.toNat : Nat) : Int) == 45) = false := beq_eq_false_iff_ne.mpr (fun e => h (UInt8.toNat_inj.1 (by show _ = 45; omega)))
      rw [this]
      have := pos (fun c' r' e => by rw [hl] at e; injection e with e _; rw [← e]; exact h)
      rwa [hl] at this
end Go.Proofs.YtonnlkpmfmknlaaDoor.Q
end

section
/-
  What Print tells is read as these choices: plain Lean.
-/
set_option linter.unusedVariables false
set_option linter.unusedSimpArgs false
namespace Go.Proofs.YtonnlkpmfmknlaaDoor.Q
open Go.RowKit Go.Lib Num Go.Proofs.YtonnlkpmfmknlaaDoor.GA
theorem spl_hit (c : UInt8) : ∀ (p r cur : List UInt8), c ∉ p → spl c cur (p ++ c :: r) = (cur ++ p) :: spl c [] r
  | [], r, cur, _ => by rw [List.nil_append, spl, if_pos rfl, List.append_nil]
  | b :: p, r, cur, h => by
    have hb : ¬ b = c := fun e => h (by rw [e]; exact List.mem_cons_self)
    rw [List.cons_append, spl, if_neg hb, spl_hit c p r (cur ++ [b]) (fun e => h (List.mem_cons_of_mem _ e)), List.append_assoc, List.singleton_append]
/-! words of a line -/
def blank : UInt8 → Bool := fun b => b.toNat == 32
theorem fld_word : ∀ (w r cur : List UInt8), (∀ b ∈ w, blank b = false) → cur ++ w ≠ [] → Fld.fld blank cur (w ++ 32 :: r) = (cur ++ w) :: Fld.fld blank [] r
  | [], r, cur, _, h => by
    rw [List.append_nil] at h
    rw [List.nil_append, Fld.fld, show blank 32 = true from rfl, if_pos rfl, if_neg h, List.append_nil]
  | b :: w, r, cur, hb, h => by
    rw [List.cons_append, Fld.fld, hb b List.mem_cons_self, if_neg (by simp), fld_word w r (cur ++ [b]) (fun x hx => hb x (List.mem_cons_of_mem _ hx)) (by simp), List.append_assoc, List.singleton_append]
theorem fld_last : ∀ (w cur : List UInt8), (∀ b ∈ w, blank b = false) → cur ++ w ≠ [] → Fld.fld blank cur w = [cur ++ w]
  | [], cur, _, h => by
    rw [List.append_nil] at h
    rw [Fld.fld, if_neg h, List.append_nil]
  | b :: w, cur, hb, h => by
    rw [Fld.fld, hb b List.mem_cons_self, if_neg (by simp), fld_last w (cur ++ [b]) (fun x hx => hb x (List.mem_cons_of_mem _ hx)) (by simp), List.append_assoc, List.singleton_append]
/-- Words with a blank ahead of each but the first. -/
theorem fld_words : ∀ (ws : List (List UInt8)) (w : List UInt8), (∀ p ∈ w :: ws, p ≠ [] ∧ ∀ b ∈ p, blank b = false) → Fld.fld blank [] (w ++ ws.flatMap (fun p => 32 :: p)) = w :: ws
  | [], w, h => by
    rw [List.flatMap_nil, List.append_nil, fld_last w [] (h w List.mem_cons_self).2 (by simpa using (h w List.mem_cons_self).1), List.nil_append]
  | p :: ws, w, h => by
    rw [List.flatMap_cons, List.cons_append, fld_word w _ [] (h w List.mem_cons_self).2 (by simpa using (h w List.mem_cons_self).1), List.nil_append, fld_words ws p (fun q hq => h q (List.mem_cons_of_mem _ hq))]
/-! numerals -/
theorem dfold_digits (u : Nat) : dfold 0 (decDigits u) = u := by
  have := dfold_dec u u (Nat.le_refl _) []
  rwa [List.append_nil, dfold_nil] at this
theorem dec_dig (u : Nat) : ∀ b ∈ decDigits u, dig b = true := fun b hb => (dig_iff b).2 (dec_all u u (Nat.le_refl _) b hb)
theorem dec_ne (u : Nat) : decDigits u ≠ [] := by obtain ⟨c, r, h, _⟩ := dec_head u; rw [h]; simp
theorem dec_first : ∀ (n u : Nat), u ≤ n → 1 ≤ u → (decDigits u).head? ≠ some 48
  | 0, u, h, h1 => by omega
  | n + 1, u, h, h1 => by
    by_cases c : u < 10
    · rw [decDigits_one c]
      simp only [List.head?_cons]
      intro e
      have e2 := congrArg UInt8.toNat (Option.some.inj e)
      rw [digit_nat u c] at e2
      have : (48 : UInt8).toNat = 48 := rfl
      omega
    · rw [dec_step c, List.head?_append]
      have := dec_first n (u / 10) (by omega) (by omega)
      cases hh : (decDigits (u / 10)).head? with
      | none =>
        have := dec_ne (u / 10)
        rw [List.head?_eq_none_iff] at hh
        exact absurd hh this
      | some c => rw [hh] at this; simpa using this
theorem dec_canS (u : Nat) : CanS (decDigits u) := by
  refine ⟨dec_ne u, dec_dig u, ?_⟩
  by_cases h : u = 0
  · exact .inr (by rw [h]; exact dec_zero)
  · exact .inl (dec_first u u (Nat.le_refl _) (by omega))
theorem dec_canon (u M : Nat) (h : u ≤ M) : Canon (decDigits u) M := (canon_iff _ _).2 ⟨dec_canS u, by rw [dfold_digits]; exact h⟩
theorem dec_num (u : Nat) : numB (decDigits u) = true := by
  have h := dec_canS u
  obtain ⟨c, r, e, _⟩ := dec_head u
  rw [e] at h ⊢
  exact (numB_pos c r (canS_first h).1).2 h
theorem dec_dom (n d : Nat) (hn : n ≤ 16) (hd : d < n) : domV n (decDigits d) = some d := by
  rw [dom_is n hn _ (dec_num d), dfold_digits, if_pos ⟨dec_canon d _ (by omega), hd⟩]
theorem dec_item (u : Nat) (h : u < 4294967296) : itemV true (decDigits u) = some (u : Int) := by
  rw [item_u, if_pos (dec_canon u _ (by omega)), dfold_digits]
theorem itoa_item (n : Int) (h0 : -9223372036854775808 ≤ n) (h1 : n ≤ 9223372036854775807) : itemV false (itoa n) = some n := by
  rw [item_i]
  by_cases h : n < 0
  · obtain ⟨u, rfl⟩ : ∃ u : Nat, n = -(u : Int) := ⟨n.natAbs, by omega⟩
    rw [itoa_neg u (by omega)]
    unfold sgn
    simp only [if_true]
    rw [dfold_digits, if_pos ⟨dec_canon u _ (by omega), by omega⟩]
  · obtain ⟨u, rfl⟩ : ∃ u : Nat, n = u := ⟨n.toNat, by omega⟩
    rw [itoa_nonneg]
    obtain ⟨c, r, e, _⟩ := dec_head u
    have hc := canS_first (e ▸ dec_canS u : CanS (c :: r))
    rw [e]
    unfold sgn
    simp only
    rw [if_neg hc.1, ← e, dfold_digits, if_pos (dec_canon u _ (by omega))]
theorem dec_blank (u : Nat) : ∀ b ∈ decDigits u, blank b = false := fun b hb => by
  have := dec_all u u (Nat.le_refl _) b hb
  exact beq_eq_false_iff_ne.mpr (by omega)
theorem itoa_word (n : Int) : itoa n ≠ [] ∧ ∀ b ∈ itoa n, blank b = false := by
  by_cases h : n < 0
  · obtain ⟨u, rfl⟩ : ∃ u : Nat, n = -(u : Int) := ⟨n.natAbs, by omega⟩
    rw [itoa_neg u (by omega)]
    exact ⟨by simp, fun b hb => by rcases List.mem_cons.1 hb with rfl | hb; rfl; exact dec_blank u b hb⟩
  · obtain ⟨u, rfl⟩ : ∃ u : Nat, n = u := ⟨n.toNat, by omega⟩
    rw [itoa_nonneg]
    exact ⟨dec_ne u, dec_blank u⟩
/-! a line's items -/
theorem set_app (a b : List (List Int)) (x y : List Int) : (a ++ x :: b).set a.length y = a ++ y :: b := by
  rw [List.set_append_right _ _ (Nat.le_refl _), Nat.sub_self]; rfl
theorem get_app (a b : List (List Int)) (x : List Int) : (a ++ x :: b).getD a.length [] = x := by
  rw [List.getD_eq_getElem?_getD, List.getElem?_append_right (Nat.le_refl _), Nat.sub_self]; rfl
theorem items_all (b : Bool) (f : Int → List UInt8) (A B : List (List Int)) : ∀ (l done : List Int), (∀ n ∈ l, itemV b (f n) = some n) → items b A.length (A ++ done :: B) (l.map f) = (0, A ++ (done ++ l) :: B)
  | [], done, _ => by rw [List.map_nil, items, List.append_nil]
  | n :: l, done, h => by
    rw [List.map_cons, items, h n List.mem_cons_self]
    simp only
    rw [get_app, set_app, items_all b f A B l _ (fun x hx => h x (List.mem_cons_of_mem _ hx)), List.append_assoc, List.singleton_append]
theorem step_line (n d : Nat) (hn : n ≤ 16) (hd : d < n) (steal : Bool) (A B : List (List Int)) (hd0 : List Bool) (l : List Int) (f : Int → List UInt8) (hf : ∀ x ∈ l, itemV steal (f x) = some x) (hA : A.length = slot d steal) (hh : hd0.getD (slot d steal) false = false) :
    step n (A ++ [] :: B) hd0 ((if steal then stealW else inputW) :: decDigits d :: l.map f) = (0, A ++ l :: B, hd0.set (slot d steal) true) := by
  have h1 : decide ((if steal then stealW else inputW) = stealW) = steal := by cases steal <;> rfl
  unfold step
  simp only
  rw [if_pos ⟨by cases steal <;> simp, dec_num d⟩, dec_dom n d hn hd]
  simp only [h1]
  rw [if_neg (by rw [hh]; simp), ← hA, items_all steal f A B l [] hf, List.nil_append]
/-- The text's lines. -/
def lineS (d : Nat) (l : List Int) : List UInt8 := stealW ++ (decDigits d :: l.map (fun n => decDigits n.toNat)).flatMap (fun p => 32 :: p)
def lineI (d : Nat) (l : List Int) : List UInt8 := inputW ++ (decDigits d :: l.map itoa).flatMap (fun p => 32 :: p)
theorem stealL_line (d : Nat) (l : List Int) (h : l.length ≠ 0) : stealL d l = lineS d l ++ [10] := by
  unfold stealL lineS itemsU stealW
  rw [if_neg h, itoa_nonneg, List.flatMap_cons]
  simp [List.flatMap_map]
theorem inputL_line (d : Nat) (l : List Int) (h : l.length ≠ 0) : inputL d l = lineI d l ++ [10] := by
  unfold inputL lineI itemsI inputW
  rw [if_neg h, itoa_nonneg, List.flatMap_cons]
  simp [List.flatMap_map]
theorem lineS_words (d : Nat) (l : List Int) : Fld.fld blank [] (lineS d l) = stealW :: decDigits d :: l.map (fun n => decDigits n.toNat) :=
  fld_words _ _ (fun p hp => by
    rcases List.mem_cons.1 hp with rfl | hp
    · exact ⟨by decide, by decide⟩
    rcases List.mem_cons.1 hp with rfl | hp
    · exact ⟨dec_ne d, dec_blank d⟩
    · obtain ⟨n, _, rfl⟩ := List.mem_map.1 hp
      exact ⟨dec_ne _, dec_blank _⟩)
theorem lineI_words (d : Nat) (l : List Int) : Fld.fld blank [] (lineI d l) = inputW :: decDigits d :: l.map itoa :=
  fld_words _ _ (fun p hp => by
    rcases List.mem_cons.1 hp with rfl | hp
    · exact ⟨by decide, by decide⟩
    rcases List.mem_cons.1 hp with rfl | hp
    · exact ⟨dec_ne d, dec_blank d⟩
    · obtain ⟨n, _, rfl⟩ := List.mem_map.1 hp
      exact itoa_word n)
theorem no_ten_of : ∀ (ps : List (List UInt8)), (∀ p ∈ ps, (10 : UInt8) ∉ p) → (10 : UInt8) ∉ ps.flatMap (fun p => 32 :: p) := fun ps h hm => by
  obtain ⟨p, hp, hx⟩ := List.mem_flatMap.1 hm
  rcases List.mem_cons.1 hx with hx | hx
  · revert hx; decide
  · exact h p hp hx
theorem lineS_ten (d : Nat) (l : List Int) : (10 : UInt8) ∉ lineS d l := fun hm => by
  rcases List.mem_append.1 hm with hm | hm
  · revert hm; decide
  · exact no_ten_of _ (fun p hp => by
      rcases List.mem_cons.1 hp with rfl | hp
      · exact dec_no d 10 (by decide)
      · obtain ⟨n, _, rfl⟩ := List.mem_map.1 hp
        exact dec_no _ 10 (by decide)) hm
theorem lineI_ten (d : Nat) (l : List Int) : (10 : UInt8) ∉ lineI d l := fun hm => by
  rcases List.mem_append.1 hm with hm | hm
  · revert hm; decide
  · exact no_ten_of _ (fun p hp => by
      rcases List.mem_cons.1 hp with rfl | hp
      · exact dec_no d 10 (by decide)
      · obtain ⟨n, _, rfl⟩ := List.mem_map.1 hp
        exact itoa_no _ 10 (by decide)) hm
theorem lines_next' (n i : Nat) (st st' : List (List Int)) (hd hd' : List Bool) (l : List UInt8) (r : List (List UInt8)) (w : List (List UInt8)) (hw : Fld.fld blank [] l = w) (h0 : w ≠ []) (h1 : l.head? ≠ some 35) (h2 : step n st hd w = (0, st', hd')) : lines19 n i st hd (l :: r) = lines19 n (i + 1) st' hd' r := by
  subst hw
  exact lines_next n i st st' hd hd' l r (fun h => by rcases h with h | h; exact h0 h; exact h1 h) h2
/-- The rows of choices. -/
def flat : List S32 → List (List Int)
  | [] => []
  | x :: t => x.f0 :: x.f1 :: flat t
theorem flat_len : ∀ (l : List S32), (flat l).length = 2 * l.length
  | [] => rfl
  | x :: t => by rw [flat, List.length_cons, List.length_cons, flat_len t, List.length_cons]; omega
theorem flat_app : ∀ (a b : List S32), flat (a ++ b) = flat a ++ flat b
  | [], b => rfl
  | x :: t, b => by rw [List.cons_append, flat, flat, flat_app t b]; rfl
theorem pairs_flat : ∀ (l : List S32), Hof.pairs (flat l) = l
  | [] => rfl
  | x :: t => by rw [flat, Hof.pairs, pairs_flat t]
theorem rep_two (m : Nat) : List.replicate (2 * (m + 1)) ([] : List Int) = [] :: [] :: List.replicate (2 * m) [] := by
  rw [show 2 * (m + 1) = 2 * m + 1 + 1 by omega]; rfl
theorem get_set_ne (h : List Bool) (i j : Nat) (hij : i ≠ j) : (h.set i true).getD j false = h.getD j false := by
  rw [List.getD_eq_getElem?_getD, List.getD_eq_getElem?_getD, List.getElem?_set_ne hij]
theorem back_l (n : Nat) (hn : n ≤ 16) : ∀ (t : List S32) (done : List S32) (i : Nat) (hd : List Bool), InR t → done.length + t.length = n → (∀ j, 2 * done.length ≤ j → hd.getD j false = false) →
    lines19 n i (flat done ++ List.replicate (2 * t.length) []) hd (spl 10 [] (prn done.length t)) = (flat (done ++ t), 0, 0)
  | [], done, i, hd, _, hl, _ => by
    rw [prn, spl, List.length_nil, Nat.mul_zero, List.replicate_zero, List.append_nil, List.append_nil, lines19, if_pos (.inl rfl), lines19]
  | x :: t, done, i, hd, hin, hl, hh => by
    rw [List.length_cons] at hl
    have hx := hin x List.mem_cons_self
    have IH : ∀ (i : Nat) (hd' : List Bool), (∀ j, 2 * done.length + 2 ≤ j → hd'.getD j false = false) → lines19 n i (flat done ++ x.f0 :: x.f1 :: List.replicate (2 * t.length) []) hd' (spl 10 [] (prn (done.length + 1) t)) = (flat (done ++ x :: t), 0, 0) := fun i hd' hh' => by
      have := back_l n hn t (done ++ [x]) i hd' (fun y hy => hin y (List.mem_cons_of_mem _ hy)) (by rw [List.length_append, List.length_singleton]; omega) (by rw [List.length_append, List.length_singleton]; exact fun j hj => hh' j (by omega))
      rw [flat_app, List.length_append, List.length_singleton, List.append_assoc, List.append_assoc] at this
      exact this
    have mid : ∀ (i : Nat) (hd' : List Bool), (∀ j, 2 * done.length + 1 ≤ j → hd'.getD j false = false) → lines19 n i (flat done ++ x.f0 :: [] :: List.replicate (2 * t.length) []) hd' (spl 10 [] (inputL done.length x.f1 ++ prn (done.length + 1) t)) = (flat (done ++ x :: t), 0, 0) := fun i hd' hh' => by
      by_cases h1 : x.f1.length = 0
      · have e : inputL done.length x.f1 = [] := if_pos h1
        have e2 : x.f1 = [] := List.length_eq_zero_iff.1 h1
        rw [e, List.nil_append]
        have := IH i hd' (fun j hj => hh' j (by omega))
        rwa [e2] at this
      · rw [inputL_line _ _ h1, List.append_assoc, List.singleton_append, spl_hit 10 _ _ [] (lineI_ten _ _), List.nil_append]
        have hs := step_line n done.length hn (by omega) false (flat done ++ [x.f0]) (List.replicate (2 * t.length) []) hd' x.f1 itoa (fun y hy => itoa_item y (hx.2 y hy).1 (hx.2 y hy).2) (by rw [List.length_append, flat_len]; rfl) (hh' _ (by unfold slot; simp))
        rw [List.append_assoc, List.singleton_append, List.append_assoc, List.singleton_append] at hs
        rw [lines_next' n i _ _ hd' _ _ _ _ (lineI_words _ _) (by simp) (by unfold lineI inputW; simp) hs]
        exact IH (i + 1) _ (fun j hj => by rw [get_set_ne _ _ _ (by unfold slot; simp; omega)]; exact hh' j (by omega))
    rw [List.length_cons, rep_two, prn, List.append_assoc]
    by_cases h0 : x.f0.length = 0
    · have e : stealL done.length x.f0 = [] := if_pos h0
      have e2 : x.f0 = [] := List.length_eq_zero_iff.1 h0
      rw [e, List.nil_append]
      have := mid i hd (fun j hj => hh j (by omega))
      rwa [e2] at this
    · rw [stealL_line _ _ h0, List.append_assoc, List.singleton_append, spl_hit 10 _ _ [] (lineS_ten _ _), List.nil_append]
      have hs := step_line n done.length hn (by omega) true (flat done) ([] :: List.replicate (2 * t.length) []) hd x.f0 (fun n => decDigits n.toNat) (fun y hy => by
        have := hx.1 y hy
        have h := dec_item y.toNat (by omega)
        rwa [Int.toNat_of_nonneg this.1] at h) (by rw [flat_len]; rfl) (hh _ (by unfold slot; simp))
      rw [lines_next' n i _ _ hd _ _ _ _ (lineS_words _ _) (by simp) (by unfold lineS stealW; simp) hs]
      exact mid (i + 1) _ (fun j hj => by rw [get_set_ne _ _ _ (by unfold slot; simp; omega)]; exact hh j (by omega))
/-- What is printed of choices for some domains is read as these. -/
theorem parse_print (l : List S32) (hin : InR l) (h1 : 1 ≤ l.length) (h2 : l.length ≤ 16) : Hof.parse19 (l.length : Int) (sB (prn 0 l)) = if 262144 < (prn 0 l).length then ([], 2, 0) else (flat l, 0, 0) := by
  unfold Hof.parse19
  rw [if_neg (by omega), sB_size]
  by_cases h : 262144 < (prn 0 l).length
  · rw [if_pos h, if_pos h]
  · rw [if_neg h, if_neg h, Int.toNat_natCast, pcs_spl]
    have := back_l l.length h2 l [] 0 (List.replicate (2 * l.length) false) hin (by simp) (fun j _ => by
      rw [List.getD_eq_getElem?_getD, List.getElem?_replicate]; split <;> rfl)
    exact this
end Go.Proofs.YtonnlkpmfmknlaaDoor.Q
end
