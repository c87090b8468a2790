import Derived.Lib.FieldsP
import Derived.Lib.AtoiAll
import Derived.Lib.ParseIntB
import Derived.Lib.Strings
import Derived.Lib.SlTrimSet
section
/-
  strings.FieldsFunc at a predicate on ASCII characters: the words, byte by byte. Plain Lean.
-/
set_option linter.unusedVariables false
namespace Go.Proofs.YtonnlkpmfmknlaaDoor.Fld
open Go.Lib
/-- The words of a line; cur: the word's bytes so far. -/
def fld (q : UInt8 → Bool) (cur : List UInt8) : List UInt8 → List (List UInt8)
  | [] => if cur = [] then [] else [cur]
  | b :: r => if q b then (if cur = [] then fld q [] r else cur :: fld q [] r) else fld q (cur ++ [b]) r
def spB (q : UInt8 → Bool) : Nat → Option Nat → List (Nat × Nat) → List UInt8 → List (Nat × Nat) × Option Nat
  | _, st, acc, [] => (acc, st)
  | pos, st, acc, b :: r => if q b then spB q (pos + 1) none (st.elim acc (fun a => acc ++ [(a, pos)])) r
    else spB q (pos + 1) (some (st.getD pos)) acc r
theorem spB_run (q : UInt8 → Bool) : ∀ (w : List UInt8) (pos : Nat) (st : Option Nat) (acc : List (Nat × Nat)) (r : List UInt8), w ≠ [] → (∀ b ∈ w, q b = false) → spB q pos st acc (w ++ r) = spB q (pos + w.length) (some (st.getD pos)) acc r
  | [], _, _, _, _, h, _ => absurd rfl h
  | [b], pos, st, acc, r, _, h => by
    have hb := h b (by simp)
    show spB q pos st acc (b :: r) = _
    rw [spB, hb]; simp
  | b :: c :: w, pos, st, acc, r, _, h => by
    have hb := h b (by simp)
    show spB q pos st acc (b :: ((c :: w) ++ r)) = _
    rw [spB, hb]
    simp only [Bool.false_eq_true, if_false]
    rw [spB_run q (c :: w) (pos + 1) _ acc r (by simp) (fun x hx => h x (List.mem_cons_of_mem _ hx))]
    simp only [List.length_cons, Option.getD_some]
    congr 1
    omega
theorem get_at (s : ByteArray) (i : Nat) (h : i < s.size) : (s.get! i) = s.data.toList[i]'(by rw [Array.length_toList]; exact h) := by
  rw [Array.getElem_toList]
  unfold ByteArray.get!
  exact getElem!_pos s.data i h
theorem high (n : Nat) (h : n / 64 = 2) (h2 : n < 256) : 128 ≤ n := by omega
/-- What a rune is: a byte below 128, or bytes from 128 on. -/
theorem decode_cases (s : ByteArray) (i : Nat) (hi : i < s.size) :
    ((s.get! i).toNat < 128 ∧ Utf8.decode s i = ((s.get! i).toNat, 1)) ∨
    (128 ≤ (Utf8.decode s i).1 ∧ 1 ≤ (Utf8.decode s i).2 ∧ ∀ k, k < (Utf8.decode s i).2 → i + k < s.size ∧ 128 ≤ (s.get! (i + k)).toNat) := by
  by_cases h0 : (s.get! i).toNat < 128
  · left
    refine ⟨h0, ?_⟩
    unfold Utf8.decode
    simp only [Nat.add_zero, h0, if_true]
  · right
    have key : ∀ (c w : Nat), Utf8.decode s i = (c, w) → 128 ≤ c ∧ 1 ≤ w ∧ ∀ k, k < w → i + k < s.size ∧ 128 ≤ (s.get! (i + k)).toNat := by
      intro c w hd
      unfold Utf8.decode at hd
      simp only [Nat.add_zero, h0, if_false, Utf8.runeError] at hd
      have one : ∀ k, k < 1 → i + k < s.size ∧ 128 ≤ (s.get! (i + k)).toNat := fun k hk => by
        obtain rfl : k = 0 := by omega
        exact ⟨hi, by rw [Nat.add_zero]; omega⟩
      have bnd : ∀ k, (s.get! (i + k)).toNat < 256 := fun k => UInt8.toNat_lt _
      have cont : ∀ k, (decide (i + k < s.size) && ((s.get! (i + k)).toNat / 64 == 2)) = true → i + k < s.size ∧ 128 ≤ (s.get! (i + k)).toNat := fun k hk => by
        simp only [Bool.and_eq_true, decide_eq_true_eq, beq_iff_eq] at hk
        exact ⟨hk.1, high _ hk.2 (bnd k)⟩
      split at hd
      · rename_i h1
        simp only [Bool.and_eq_true] at h1
        have c1 := cont 1 (by simp only [Bool.and_eq_true]; exact h1.2)
        split at hd
        · rename_i h2
          injection hd with e1 e2; subst e1; subst e2
          refine ⟨h2, by omega, fun k hk => ?_⟩
          rcases (by omega : k = 0 ∨ k = 1) with rfl | rfl
          · exact one 0 (by omega)
          · exact c1
        · injection hd with e1 e2; subst e1; subst e2
          exact ⟨by omega, by omega, one⟩
      · split at hd
        · rename_i h1
          simp only [Bool.and_eq_true] at h1
          have c1 := cont 1 (by simp only [Bool.and_eq_true]; exact h1.1.2)
          have c2 := cont 2 (by simp only [Bool.and_eq_true]; exact h1.2)
          split at hd
          · rename_i h2
            simp only [Bool.and_eq_true, decide_eq_true_eq] at h2
            injection hd with e1 e2; subst e1; subst e2
            refine ⟨by omega, by omega, fun k hk => ?_⟩
            rcases (by omega : k = 0 ∨ k = 1 ∨ k = 2) with rfl | rfl | rfl
            · exact one 0 (by omega)
            · exact c1
            · exact c2
          · injection hd with e1 e2; subst e1; subst e2
            exact ⟨by omega, by omega, one⟩
        · split at hd
          · rename_i h1
            simp only [Bool.and_eq_true] at h1
            have c1 := cont 1 (by simp only [Bool.and_eq_true]; exact h1.1.1.2)
            have c2 := cont 2 (by simp only [Bool.and_eq_true]; exact h1.1.2)
            have c3 := cont 3 (by simp only [Bool.and_eq_true]; exact h1.2)
            split at hd
            · rename_i h2
              simp only [Bool.and_eq_true, decide_eq_true_eq] at h2
              injection hd with e1 e2; subst e1; subst e2
              refine ⟨by omega, by omega, fun k hk => ?_⟩
              rcases (by omega : k = 0 ∨ k = 1 ∨ k = 2 ∨ k = 3) with rfl | rfl | rfl | rfl
              · exact one 0 (by omega)
              · exact c1
              · exact c2
              · exact c3
            · injection hd with e1 e2; subst e1; subst e2
              exact ⟨by omega, by omega, one⟩
          · injection hd with e1 e2; subst e1; subst e2
            exact ⟨by omega, by omega, one⟩
    exact key _ _ rfl
theorem spans_bytes (p : Nat → Bool) (hp : ∀ x, p x = true → x < 128) (s : ByteArray) : ∀ (f pos : Nat) (st : Option Nat) (acc : List (Nat × Nat)), s.size ≤ pos + f → pos ≤ s.size →
    spansFromP p s f pos st acc = spB (fun b => p b.toNat) pos st acc (s.data.toList.drop pos)
  | 0, pos, st, acc, h, hle => by
    rw [List.drop_eq_nil_of_le (by rw [Array.length_toList]; show s.size ≤ pos; omega)]; rfl
  | f + 1, pos, st, acc, h, hle => by
    unfold spansFromP
    by_cases hpos : pos < s.size
    · rw [if_pos hpos]
      have hl : pos < s.data.toList.length := by rw [Array.length_toList]; exact hpos
      rcases decode_cases s pos hpos with ⟨h0, hd⟩ | ⟨hc, hw, hb⟩
      · rw [hd, List.drop_eq_getElem_cons hl, spB, get_at s pos hpos]
        simp only
        cases hq : p (s.data.toList[pos]).toNat
        · simp only [Bool.false_eq_true, if_false]
          cases st with
          | none => exact spans_bytes p hp s f (pos + 1) _ acc (by omega) (by omega)
          | some a => exact spans_bytes p hp s f (pos + 1) _ acc (by omega) (by omega)
        · simp only [if_true]
          cases st with
          | none => exact spans_bytes p hp s f (pos + 1) _ _ (by omega) (by omega)
          | some a => exact spans_bytes p hp s f (pos + 1) _ _ (by omega) (by omega)
      · have hpf : p (Utf8.decode s pos).1 = false := by
          cases hq : p (Utf8.decode s pos).1
          · rfl
          · have := hp _ hq; omega
        rw [hpf]
        generalize hwd : (Utf8.decode s pos).2 = w at *
        have hlast := (hb (w - 1) (by omega)).1
        have hsplit : s.data.toList.drop pos = (s.data.toList.drop pos).take w ++ s.data.toList.drop (pos + w) := by
          rw [← List.drop_drop]; exact (List.take_append_drop w _).symm
        have hlen : ((s.data.toList.drop pos).take w).length = w := by
          rw [List.length_take, List.length_drop, Array.length_toList]
          have : s.data.size = s.size := rfl
          omega
        have hall : ∀ b ∈ (s.data.toList.drop pos).take w, (fun b : UInt8 => p b.toNat) b = false := by
          intro b hbm
          obtain ⟨k, hk, rfl⟩ := List.getElem_of_mem hbm
          rw [hlen] at hk
          have h1 := (hb k hk)
          rw [List.getElem_take, List.getElem_drop]
          have h2 := get_at s (pos + k) h1.1
          cases hq : p (s.data.toList[pos + k]'(by rw [Array.length_toList]; exact h1.1)).toNat
          · exact hq
          · have h3 := hp _ hq
            rw [← h2] at h3
            omega
        rw [hsplit, spB_run _ _ pos st acc _ (by intro e; rw [e] at hlen; simp at hlen; omega) hall, hlen]
        simp only [Bool.false_eq_true, if_false]
        cases st with
        | none => exact spans_bytes p hp s f (pos + w) _ acc (by omega) (by omega)
        | some a => exact spans_bytes p hp s f (pos + w) _ acc (by omega) (by omega)
    · rw [if_neg hpos, List.drop_eq_nil_of_le (by rw [Array.length_toList]; show s.size ≤ pos; omega)]; rfl
/-- The word that is open. -/
def opn (l : List UInt8) (st : Option Nat) (pos : Nat) : List UInt8 := match st with | some a => (l.drop a).take (pos - a) | none => []
theorem pieces_bytes (q : UInt8 → Bool) (l : List UInt8) : ∀ (r : List UInt8) (pos : Nat) (st : Option Nat) (acc : List (Nat × Nat)), l.drop pos = r → pos ≤ l.length → (∀ a, st = some a → a < pos) →
    ((spB q pos st acc r).2.elim (spB q pos st acc r).1 (fun a => (spB q pos st acc r).1 ++ [(a, l.length)])).map (fun x : Nat × Nat => (l.drop x.1).take (x.2 - x.1)) = acc.map (fun x : Nat × Nat => (l.drop x.1).take (x.2 - x.1)) ++ fld q (opn l st pos) r
  | [], pos, st, acc, h, hle, hst => by
    have hp : pos = l.length := by
      have := List.drop_eq_nil_iff.1 h
      omega
    subst hp
    rw [spB]
    cases st with
    | none => simp only [Option.elim, opn, fld, if_true, List.append_nil]
    | some a =>
      have ha := hst a rfl
      have hne : (l.drop a).take (l.length - a) ≠ [] := by
        intro e
        have := congrArg List.length e
        simp at this; omega
      simp only [Option.elim, opn, List.map_append, List.map_cons, List.map_nil]
      rw [fld, if_neg hne]
  | b :: r, pos, st, acc, h, hle, hst => by
    have hlt : pos < l.length := by
      rcases Nat.lt_or_ge pos l.length with h1 | h1
      · exact h1
      · rw [List.drop_eq_nil_of_le h1] at h; cases h
    have hb : l[pos]? = some b := by
      have := congrArg List.head? h
      rw [List.head?_drop] at this; exact this
    have hr : l.drop (pos + 1) = r := by
      have := congrArg List.tail h
      rwa [List.tail_drop] at this
    have grow : ∀ a, a < pos → (l.drop a).take (pos + 1 - a) = (l.drop a).take (pos - a) ++ [b] := fun a ha => by
      rw [show pos + 1 - a = (pos - a) + 1 by omega, List.take_add_one, List.getElem?_drop, show a + (pos - a) = pos by omega, hb]; rfl
    rw [spB, fld]
    cases hq : q b
    · simp only [Bool.false_eq_true, if_false]
      have ho : opn l (some (st.getD pos)) (pos + 1) = opn l st pos ++ [b] := by
        cases st with
        | none =>
          show (l.drop pos).take (pos + 1 - pos) = [] ++ [b]
          rw [h, show pos + 1 - pos = 1 by omega]; rfl
        | some a => exact grow a (hst a rfl)
      rw [pieces_bytes q l r (pos + 1) _ acc hr (by omega) (fun a ha => by
        cases st with
        | none => injection ha with ha; subst ha; simp
        | some c => injection ha with ha; subst ha; have := hst c rfl; simp; omega), ho]
    · simp only [if_true]
      cases st with
      | none =>
        have e : opn l none pos = [] := rfl
        rw [e, if_pos rfl]
        exact pieces_bytes q l r (pos + 1) none acc hr (by omega) (fun a ha => by cases ha)
      | some a =>
        have ha := hst a rfl
        have hne : opn l (some a) pos ≠ [] := by
          intro e
          have := congrArg List.length e
          simp [opn] at this; omega
        rw [if_neg hne]
        have := pieces_bytes q l r (pos + 1) none (acc ++ [(a, pos)]) hr (by omega) (fun a ha => by cases ha)
        have e : (some a).elim acc (fun a => acc ++ [(a, pos)]) = acc ++ [(a, pos)] := rfl
        have e2 : opn l none (pos + 1) = [] := rfl
        rw [e, this, e2, List.map_append, List.append_assoc]
        rfl
/-- strings.FieldsFunc's pieces are the words. -/
theorem fields_bytes (p : Nat → Bool) (hp : ∀ x, p x = true → x < 128) (s : ByteArray) : (goFieldsP p s).map (·.data.toList) = fld (fun b => p b.toNat) [] s.data.toList := by
  have h1 := spans_bytes p hp s s.size 0 none [] (by omega) (by omega)
  have h2 := pieces_bytes (fun b => p b.toNat) s.data.toList s.data.toList 0 none [] rfl (by omega) (fun a ha => by cases ha)
  have hx : ∀ a b : Nat, (s.extract a b).data.toList = (s.data.toList.drop a).take (b - a) := fun a b => by
    simp [ByteArray.data_extract, Array.toList_extract, List.extract]
  rw [List.drop_zero] at h1
  unfold goFieldsP spansOfP closeSpans
  rw [h1, List.map_map]
  have hz : s.data.toList.length = s.size := Array.length_toList
  rw [hz] at h2
  simp only [List.map_nil, List.nil_append] at h2
  have ho : opn s.data.toList none 0 = [] := rfl
  rw [ho] at h2
  rw [← h2]
  have e : (((·.data.toList) : ByteArray → List UInt8) ∘ fun x : Nat × Nat => s.extract x.1 x.2) = fun x => (s.data.toList.drop x.1).take (x.2 - x.1) := funext fun x => hx x.1 x.2
  rw [e]
  cases h3 : spB (fun b => p b.toNat) 0 none [] s.data.toList with
  | mk x y => cases y <;> rfl
end Go.Proofs.YtonnlkpmfmknlaaDoor.Fld
end

section
/-
  What a script's line says: plain Lean.
-/
set_option linter.unusedVariables false
set_option linter.unusedSimpArgs false
namespace Go.Proofs.YtonnlkpmfmknlaaDoor.Q
open Go.Lib
def dig (b : UInt8) : Bool := decide (48 ≤ b.toNat ∧ b.toNat ≤ 57)
def digs : List UInt8 := [48, 49, 50, 51, 52, 53, 54, 55, 56, 57]
theorem dig_mem (b : UInt8) : digs.contains b = dig b := by
  have h : ∀ n, n < 256 → digs.contains (UInt8.ofNat n) = dig (UInt8.ofNat n) := by decide +kernel
  have := h b.toNat (UInt8.toNat_lt _)
  rwa [UInt8.ofNat_toNat] at this
theorem dropWhile_nil {α : Type} (p : α → Bool) : ∀ (l : List α), l.dropWhile p = [] ↔ ∀ x ∈ l, p x = true
  | [] => by simp
  | a :: l => by
    rw [List.dropWhile_cons]
    cases h : p a
    · simp only [Bool.false_eq_true, if_false]
      exact ⟨(fun e => by cases e), (fun e => by have := e a List.mem_cons_self; rw [h] at this; cases this)⟩
    · simp only [if_true]
      rw [dropWhile_nil p l]
      simp [h]
theorem trim_nil (l : List UInt8) : trimS l digs = [] ↔ l.all dig = true := by
  unfold trimS trimLeftS trimRightS
  rw [dropWhile_nil, List.all_eq_true]
  constructor
  · intro h
    have h1 : ∀ x ∈ l.reverse, digs.contains x = true := by
      by_cases hd : l.reverse.dropWhile (digs.contains ·) = []
      · exact (dropWhile_nil _ _).1 hd
      · exfalso
        obtain ⟨a, t, e⟩ := List.exists_cons_of_ne_nil hd
        have h2 := h a (by rw [e]; simp)
        have h3 := List.head?_dropWhile_not (p := (digs.contains ·)) l.reverse
        rw [e] at h3
        simp at h3
        rw [← List.contains_iff_mem] at h3
        rw [h2] at h3
        exact absurd rfl h3
    intro x hx
    rw [← dig_mem]; exact h1 x (by simpa using hx)
  · intro h x hx
    have h1 := List.mem_reverse.1 hx
    have h2 : x ∈ l.reverse := (List.dropWhile_sublist _).subset h1
    rw [dig_mem]; exact h x (by simpa using h2)
/-- Is a word a number? -/
def numB (l : List UInt8) : Bool := !(trimPrefix l [45]).isEmpty && (trimPrefix l [45]).all dig && ((trimPrefix l [45]).head? != some 48 || l == [48])
def stealW : List UInt8 := [115, 116, 101, 97, 108]
def inputW : List UInt8 := [105, 110, 112, 117, 116]
def uintV (s : List UInt8) : Option Nat := match parseUintB 32 s with | .ok u => some u | _ => none
def intV (s : List UInt8) : Option Int := match parseIntB 64 s with | .ok v => some v | _ => none
/-- A number of a line. -/
def itemV (steal : Bool) (s : List UInt8) : Option Int := if numB s then (if steal then (uintV s).map (fun u => (u : Int)) else intV s) else none
/-- Which domain. -/
def domV (n : Nat) (s : List UInt8) : Option Nat := match atoiAll s with | .ok v => if 0 ≤ v ∧ v < n then some v.toNat else none | _ => none
def items (steal : Bool) (k : Nat) : List (List Int) → List (List UInt8) → Int × List (List Int)
  | st, [] => (0, st)
  | st, s :: r => match itemV steal s with
    | none => (190, st)
    | some v => items steal k (st.set k (st.getD k [] ++ [v])) r
/-- Where a line's numbers go. -/
def slot (d : Nat) (steal : Bool) : Nat := 2 * d + (if steal then 0 else 1)
/-- A line. -/
def step (n : Nat) (st : List (List Int)) (hd : List Bool) (ws : List (List UInt8)) : Int × List (List Int) × List Bool :=
  match ws with
  | w0 :: w1 :: r =>
    if (w0 = stealW ∨ w0 = inputW) ∧ numB w1 = true then
      (match domV n w1 with
      | none => (191, st, hd)
      | some d => if hd.getD (slot d (decide (w0 = stealW))) false = true then (191, st, hd)
        else ((items (decide (w0 = stealW)) (slot d (decide (w0 = stealW))) st r).1, (items (decide (w0 = stealW)) (slot d (decide (w0 = stealW))) st r).2, hd.set (slot d (decide (w0 = stealW))) true))
    else (190, st, hd)
  | _ => (190, st, hd)
/-- The lines of a text. -/
def lines19 (n : Nat) : Nat → List (List Int) → List Bool → List (List UInt8) → List (List Int) × Int × Int
  | _, st, _, [] => (st, 0, 0)
  | i, st, hd, l :: r =>
    if Fld.fld (fun b => b.toNat == 32) [] l = [] ∨ l.head? = some 35 then lines19 n (i + 1) st hd r
    else (match step n st hd (Fld.fld (fun b => b.toNat == 32) [] l) with
      | (0, st', hd') => lines19 n (i + 1) st' hd' r
      | (c, _, _) => ([], c, (i : Int) + 1))
end Go.Proofs.YtonnlkpmfmknlaaDoor.Q
end
