import Derived.Lib.ItoaMem
import Derived.Lib.ItoaLen
import Derived.Lib.AtoiAll
import Derived.Lib.ParseIntB
import Derived.Lib.SplitLaws
import Derived.Test.YtphbepddhhdhmaaDoorMAg0
import Derived.Test.YtphbepddhhdhmaaDoorMAg1
import Derived.Lib.SmallJoins
import Derived.IntWalk
import Derived.Test.YtphbepddhhdhmaaDoorWWords
import Derived.Laws.Tables
import Derived.Laws.Rows
import Derived.WalkKit
import Derived.Test.YtphbepddhhdhmaaDoorWMore
import Derived.Deep.MidRow
section
/-
  What is told in digits reads back; what is joined by one byte splits back. Plain Lean.
-/
set_option linter.unusedVariables false
set_option linter.unusedSimpArgs false
namespace Go.Proofs.YtphbepddhhdhmaaDoor.Num
open Go.Lib
theorem digit_nat (d : Nat) (h : d < 10) : (UInt8.ofNat (48 + d)).toNat = 48 + d := by
  rw [UInt8.toNat_ofNat']
  omega
theorem dec_step {u : Nat} (h : ¬ u < 10) : decDigits u = decDigits (u / 10) ++ [UInt8.ofNat (48 + u % 10)] := by conv => lhs; rw [decDigits, dif_neg h]
theorem uintM_digits (M : Nat) : ∀ (n u : Nat), u ≤ n → u ≤ M → u < 18446744073709551616 → ∀ r, parseUintM M 0 (decDigits u ++ r) = parseUintM M u r
  | n, u, hn, h1, h2, r => by
    by_cases c : u < 10
    · rw [decDigits_one c, List.singleton_append, parseUintM, digit_nat u c, if_pos (by omega), if_neg (by omega), if_neg (by omega)]
      congr 1
      omega
    · obtain ⟨n, rfl⟩ : ∃ m, n = m + 1 := ⟨n - 1, by omega⟩
      rw [dec_step c, List.append_assoc, List.singleton_append, uintM_digits M n (u / 10) (by omega) (by omega) (by omega), parseUintM, digit_nat _ (by omega), if_pos (by omega), if_neg (by omega), if_neg (by omega)]
      congr 1
      omega
theorem uint10_digits : ∀ (n u : Nat), u ≤ n → u < 18446744073709551616 → ∀ r, parseUint10 0 (decDigits u ++ r) = parseUint10 u r
  | n, u, hn, h2, r => by
    by_cases c : u < 10
    · rw [decDigits_one c, List.singleton_append, parseUint10, digit_nat u c, if_pos (by omega), if_neg (by omega), if_neg (by omega)]
      congr 1
      omega
    · obtain ⟨n, rfl⟩ : ∃ m, n = m + 1 := ⟨n - 1, by omega⟩
      rw [dec_step c, List.append_assoc, List.singleton_append, uint10_digits n (u / 10) (by omega) (by omega), parseUint10, digit_nat _ (by omega), if_pos (by omega), if_neg (by omega), if_neg (by omega)]
      congr 1
      omega
theorem dec_all : ∀ (n u : Nat), u ≤ n → ∀ b ∈ decDigits u, 48 ≤ b.toNat ∧ b.toNat ≤ 57
  | n, u, hn, b, hb => by
    by_cases c : u < 10
    · rw [decDigits_one c, List.mem_singleton] at hb
      subst hb
      rw [digit_nat u c]; omega
    · obtain ⟨n, rfl⟩ : ∃ m, n = m + 1 := ⟨n - 1, by omega⟩
      rw [dec_step c, List.mem_append, List.mem_singleton] at hb
      rcases hb with hb | rfl
      · exact dec_all n (u / 10) (by omega) b hb
      · rw [digit_nat _ (by omega)]; omega
theorem dec_head (u : Nat) : ∃ c r, decDigits u = c :: r ∧ 48 ≤ c.toNat ∧ c.toNat ≤ 57 := by
  cases h : decDigits u with
  | nil =>
    have := decDigits_length u
    rw [h] at this
    have h2 : 1 ≤ nDigits u := by unfold nDigits; split <;> omega
    simp at this
    omega
  | cons c r => exact ⟨c, r, rfl, dec_all u u (Nat.le_refl _) c (by rw [h]; exact List.mem_cons_self)⟩
theorem uintB_digits (u : Nat) (h : u < 18446744073709551616) : parseUintB 64 (decDigits u) = .ok u := by
  obtain ⟨c, r, e, _⟩ := dec_head u
  unfold parseUintB
  rw [if_neg (by rw [e]; simp)]
  have := uintM_digits (2 ^ 64 - 1) u u (Nat.le_refl _) (by omega) h []
  rw [List.append_nil] at this
  rw [this]; rfl
theorem mag_digits (u : Nat) (h : u < 18446744073709551616) : parseMag (decDigits u) = .ok u := by
  obtain ⟨c, r, e, _⟩ := dec_head u
  unfold parseMag
  rw [if_neg (by rw [e]; simp)]
  have := uint10_digits u u (Nat.le_refl _) h []
  rw [List.append_nil] at this
  rw [this]; rfl
theorem atoi_itoa (n : Int) (h0 : -9223372036854775808 ≤ n) (h1 : n ≤ 9223372036854775807) : atoiAll (itoa n) = .ok n := by
  unfold itoa
  by_cases c : n < 0
  · rw [if_pos c]
    unfold atoiAll
    have e45 : (45 : UInt8).toNat = 45 := rfl
    simp only [e45, or_true, if_true, mag_digits n.natAbs (by omega), true_and, not_true, false_and, if_false]
    rw [if_neg (by omega)]
    congr 1
    omega
  · rw [if_neg c]
    obtain ⟨d, r, e, e1, e2⟩ := dec_head n.toNat
    have hm := mag_digits n.toNat (by omega)
    rw [e] at hm ⊢
    unfold atoiAll
    have n3 : ¬ d.toNat = 43 := by omega
    have n2 : ¬ d.toNat = 45 := by omega
    simp only [n3, n2, or_self, if_false, hm, not_false_eq_true, true_and, false_and]
    rw [if_neg (by omega)]
    congr 1
    omega
theorem int_itoa (n : Int) (h0 : -9223372036854775808 ≤ n) (h1 : n ≤ 9223372036854775807) : parseIntB 64 (itoa n) = .ok n := by
  unfold itoa
  by_cases c : n < 0
  · rw [if_pos c]
    unfold parseIntB
    have e45 : (45 : UInt8).toNat = 45 := rfl
    simp only [e45, or_true, if_true, uintB_digits n.natAbs (by omega), true_and, not_true, false_and, if_false]
    rw [if_neg (by omega)]
    congr 1
    omega
  · rw [if_neg c]
    obtain ⟨d, r, e, e1, e2⟩ := dec_head n.toNat
    have hm := uintB_digits n.toNat (by omega)
    rw [e] at hm ⊢
    unfold parseIntB
    have n3 : ¬ d.toNat = 43 := by omega
    have n2 : ¬ d.toNat = 45 := by omega
    simp only [n3, n2, or_self, if_false, hm, not_false_eq_true, true_and, false_and]
    rw [if_neg (by omega)]
    congr 1
    omega
theorem itoa_no (n : Int) (c : UInt8) (h1 : c.toNat < 45) : c ∉ itoa n := by
  intro h
  unfold itoa at h
  split at h
  · rcases List.mem_cons.1 h with rfl | h
    · exact absurd h1 (by decide)
    · have := dec_all _ _ (Nat.le_refl _) c h; omega
  · have := dec_all _ _ (Nat.le_refl _) c h; omega
theorem dec_no (u : Nat) (c : UInt8) (h1 : c.toNat < 45) : c ∉ decDigits u := fun h => by
  have := dec_all _ _ (Nat.le_refl _) c h; omega
/-- Pieces, a byte between each two. -/
def joinC (c : UInt8) : List (List UInt8) → List UInt8
  | [] => []
  | [p] => p
  | p :: q :: t => p ++ c :: joinC c (q :: t)
theorem index_hit1 (c : UInt8) : ∀ (p r : List UInt8), c ∉ p → index (p ++ c :: r) [c] = p.length
  | [], r, _ => by simp [index, List.isPrefixOf]
  | b :: p, r, h => by
    have hb : b ≠ c := fun e => h (by rw [e]; exact List.mem_cons_self)
    have hp : c ∉ p := fun e => h (List.mem_cons_of_mem _ e)
    have e : ([c] : List UInt8).isPrefixOf (b :: (p ++ c :: r)) = false := by simp [List.isPrefixOf, Ne.symm hb]
    rw [List.cons_append, index, e, index_hit1 c p r hp]
    have : ¬ ((p.length : Int) == -1) = true := by simp
    simp [this]
theorem index_miss1 (c : UInt8) : ∀ (p : List UInt8), c ∉ p → index p [c] = -1
  | [], _ => by simp [index]
  | b :: p, h => by
    have hb : b ≠ c := fun e => h (by rw [e]; exact List.mem_cons_self)
    have hp : c ∉ p := fun e => h (List.mem_cons_of_mem _ e)
    have e : ([c] : List UInt8).isPrefixOf (b :: p) = false := by simp [List.isPrefixOf, Ne.symm hb]
    rw [index, e, index_miss1 c p hp]
    simp
theorem cut_hit1 (c : UInt8) (p r : List UInt8) (h : c ∉ p) : cut (p ++ c :: r) [c] = (p, r, true) := by
  unfold cut
  rw [index_hit1 c p r h, if_pos (by omega)]
  simp
theorem cut_miss1 (c : UInt8) (p : List UInt8) (h : c ∉ p) : cut p [c] = (p, [], false) := by
  unfold cut
  rw [index_miss1 c p h, if_neg (by omega)]
theorem count_join (c : UInt8) : ∀ (ps : List (List UInt8)), ps ≠ [] → (∀ p ∈ ps, c ∉ p) → (joinC c ps).count c = ps.length - 1
  | [], h, _ => absurd rfl h
  | [p], _, h => by simp [joinC, List.count_eq_zero.2 (h p (by simp))]
  | p :: q :: t, _, h => by
    rw [joinC, List.count_append, List.count_cons_self, count_join c (q :: t) (by simp) (fun x hx => h x (List.mem_cons_of_mem _ hx)), List.count_eq_zero.2 (h p List.mem_cons_self)]
    simp
theorem split_join (c : UInt8) : ∀ (ps : List (List UInt8)), ps ≠ [] → (∀ p ∈ ps, c ∉ p) → splitK [c] 0 (ps.length - 1) (joinC c ps) = ps
  | [], h, _ => absurd rfl h
  | [p], _, h => by simp [joinC, splitK]
  | p :: q :: t, _, h => by
    have hp := h p List.mem_cons_self
    have ih := split_join c (q :: t) (by simp) (fun x hx => h x (List.mem_cons_of_mem _ hx))
    have e : (p :: q :: t).length - 1 = ((q :: t).length - 1) + 1 := by simp
    rw [e, joinC, splitK, index_hit1 c p _ hp]
    have : ¬ ((p.length : Int) == -1) = true := by simp
    rw [if_neg this]
    simp only [Int.toNat_natCast, Nat.add_zero, List.take_left', List.length_singleton]
    congr 1
    rw [show p ++ c :: joinC c (q :: t) = (p ++ [c]) ++ joinC c (q :: t) by simp, List.drop_left' (by simp)]
    exact ih
/-- The number that digits tell. -/
@[irreducible] def dstep (acc : Nat) (b : UInt8) : Nat := acc * 10 + (b.toNat - 48)
def dfold (acc : Nat) (l : List UInt8) : Nat := l.foldl dstep acc
theorem dfold_nil (acc : Nat) : dfold acc [] = acc := rfl
theorem dfold_cons (acc : Nat) (b : UInt8) (r : List UInt8) : dfold acc (b :: r) = dfold (dstep acc b) r := by unfold dfold; rw [List.foldl_cons]
theorem dfold_le (l : List UInt8) : ∀ (acc : Nat), acc ≤ dfold acc l := by
  induction l with
  | nil => intro acc; exact Nat.le_refl _
  | cons b r ih =>
    intro acc
    have := ih (dstep acc b)
    rw [dfold_cons]
    have h : acc ≤ dstep acc b := by unfold dstep; omega
    omega
theorem dfold_dec : ∀ (n u : Nat), u ≤ n → ∀ r, dfold 0 (decDigits u ++ r) = dfold u r
  | n, u, hn, r => by
    by_cases c : u < 10
    · have e : dstep 0 (UInt8.ofNat (48 + u)) = u := by unfold dstep; rw [digit_nat u c]; omega
      rw [decDigits_one c, List.singleton_append, dfold_cons, e]
    · obtain ⟨n, rfl⟩ : ∃ m, n = m + 1 := ⟨n - 1, by omega⟩
      have e : dstep (u / 10) (UInt8.ofNat (48 + u % 10)) = u := by unfold dstep; rw [digit_nat _ (by omega)]; omega
      rw [dec_step c, List.append_assoc, List.singleton_append, dfold_dec n (u / 10) (by omega), dfold_cons, e]
end Go.Proofs.YtphbepddhhdhmaaDoor.Num
end

section
/-
  What the readers call in the library, in short words; the world's standing facts.
-/
set_option linter.unusedVariables false
set_option linter.unusedSimpArgs false
namespace Go.Proofs.YtphbepddhhdhmaaDoor.Hof
open Go.RowKit Go.Shelf Go.Proofs.YtphbepddhhdhmaaDoorW.PrintWords Go.Proofs.YtphbepddhhdhmaaDoorW.PrintLast Go.Proofs.YtphbepddhhdhmaaDoorW.PrintMore Num
/-- What stands in the listed variables. -/
structure Std (w : World) : Prop where
  size : 8 < w.heap.size
  max : ∃ m, w.cell? ⟨1, 0, none⟩ = some (.int .i64 m)
  esyn : ∃ te pe, w.cell? ⟨3, 0, none⟩ = some (.iface te pe)
  erng : ∃ te pe, w.cell? ⟨4, 0, none⟩ = some (.iface te pe)
  tab : TabB w.heap.size w
  names : Laid.LaidNames w
theorem Std.below {w W : World} (h : Std w) (hb : Below w.heap.size w W) : Std W := by
  have hc : ∀ a : Addr, a.block ≤ 8 → W.cell? a = w.cell? a := fun a ha => hb.cell (Nat.lt_of_le_of_lt ha h.size)
  refine ⟨Nat.lt_of_lt_of_le h.size hb.size, ?_, ?_, ?_, fun w' hb' => h.tab w' (below_step hb hb'), h.names.below hb⟩
  · obtain ⟨m, hm⟩ := h.max; exact ⟨m, (hc _ (by decide)).trans hm⟩
  · obtain ⟨m, p, hm⟩ := h.esyn; exact ⟨m, p, (hc _ (by decide)).trans hm⟩
  · obtain ⟨m, p, hm⟩ := h.erng; exact ⟨m, p, (hc _ (by decide)).trans hm⟩
theorem below_bw {w w' : World} (h : w' = w ∨ ∃ t, w' = Lib.bytesWorld w 5 t) : Below w.heap.size w w' := by
  rcases h with rfl | ⟨t, rfl⟩
  · exact Below.refl _ _
  · exact Lib.bytesWorld_below _ _ _
section
variable {w : World}
theorem uint_ok (S : Std w) (s : ByteArray) (hs : s.size ≤ 268435457) (u : Nat) (h : Lib.parseUintB 64 s.data.toList = .ok u) :
    Calls Tryd.prog 53 #[.string s, .int .i64 10, .int .i64 64] w fun e w' => e = .returned (.tuple #[.int .u64 u, .nilIface]) ∧ Below w.heap.size w w' :=
  (Tryd.strconv_ParseUint_10_at64_ok s (by omega) u h w).mono fun e w' ⟨he, hw⟩ => ⟨he, below_bw (hw.imp id fun h => ⟨s, h⟩)⟩
theorem uint_bad (S : Std w) (s : ByteArray) (hs : s.size ≤ 268435457) (h : ¬ ∃ u, Lib.parseUintB 64 s.data.toList = .ok u) :
    Calls Tryd.prog 53 #[.string s, .int .i64 10, .int .i64 64] w fun e w' => ∃ (u : Int) (te : TypeId) (pe : Value), e = .returned (.tuple #[.int .u64 u, .iface te pe]) ∧ (0 ≤ u ∧ u < 18446744073709551616) ∧ Below w.heap.size w w' := by
  rcases hc : Lib.parseUintB 64 s.data.toList with u | _ | _
  · exact absurd ⟨u, hc⟩ h
  · obtain ⟨te, pe, hv⟩ := S.esyn
    exact (Tryd.strconv_ParseUint_10_at64_syntax s (by omega) hc _ w hv (.inr ⟨te, pe, rfl⟩)).mono fun e w' ⟨N, he, _, _, hb⟩ => ⟨_, _, _, he, by omega, hb⟩
  · obtain ⟨te, pe, hv⟩ := S.erng
    exact (Tryd.strconv_ParseUint_10_at64_range s (by omega) hc _ w hv (.inr ⟨te, pe, rfl⟩)).mono fun e w' ⟨N, he, _, _, hb⟩ => ⟨_, _, _, he, by omega, hb⟩
theorem sat_in (l : List UInt8) : I64 (Lib.atoiSat l) := by unfold Lib.atoiSat I64; split <;> omega
theorem isat_in (l : List UInt8) : I64 (Lib.intSat 64 l) := by unfold Lib.intSat I64; split <;> omega
theorem atoi_in {l : List UInt8} {v : Int} (h : Lib.atoiAll l = .ok v) : I64 v := by
  unfold I64
  unfold Lib.atoiAll at h
  split at h
  · exact absurd h (by simp)
  · simp only at h
    split at h
    · exact absurd h (by simp)
    · exact absurd h (by simp)
    · split at h
      · exact absurd h (by simp)
      · split at h
        · exact absurd h (by simp)
        · injection h with h
          subst h
          split <;> omega
theorem int_in {l : List UInt8} {v : Int} (h : Lib.parseIntB 64 l = .ok v) : I64 v := by
  unfold I64
  unfold Lib.parseIntB at h
  split at h
  · exact absurd h (by simp)
  · simp only at h
    split at h
    · exact absurd h (by simp)
    · exact absurd h (by simp)
    · split at h
      · exact absurd h (by simp)
      · split at h
        · exact absurd h (by simp)
        · injection h with h
          subst h
          split <;> omega
theorem uint_in {l : List UInt8} {u : Nat} (h : Lib.parseUintB 64 l = .ok u) : u < 18446744073709551616 := by
  have key : ∀ (l : List UInt8) (acc u : Nat), acc < 18446744073709551616 → Lib.parseUintM (2 ^ 64 - 1) acc l = .ok u → u < 18446744073709551616 := by
    intro l
    induction l with
    | nil => intro acc u ha h; rw [Lib.parseUintM] at h; injection h with h; omega
    | cons c r ih =>
      intro acc u ha h
      rw [Lib.parseUintM] at h
      split at h
      · split at h
        · exact absurd h (by simp)
        · split at h
          · exact absurd h (by simp)
          · exact ih _ _ (by omega) h
      · exact absurd h (by simp)
  unfold Lib.parseUintB at h
  split at h
  · exact absurd h (by simp)
  · exact key l 0 u (by omega) h
theorem atoi_ok (S : Std w) (s : ByteArray) (hs : s.size ≤ 268435457) (v : Int) (h : Lib.atoiAll s.data.toList = .ok v) :
    Calls Tryd.prog 54 #[.string s] w fun e w' => e = .returned (.tuple #[.int .i64 v, .nilIface]) ∧ Below w.heap.size w w' :=
  (Tryd.strconv_Atoi_ok s (by omega) v h w).mono fun e w' ⟨he, hw⟩ => ⟨he, below_bw hw⟩
theorem atoi_bad (S : Std w) (s : ByteArray) (hs : s.size ≤ 268435457) (h : ¬ ∃ u, Lib.atoiAll s.data.toList = .ok u) :
    Calls Tryd.prog 54 #[.string s] w fun e w' => ∃ (u : Int) (te : TypeId) (pe : Value), e = .returned (.tuple #[.int .i64 u, .iface te pe]) ∧ I64 u ∧ Below w.heap.size w w' := by
  rcases hc : Lib.atoiAll s.data.toList with u | _ | _
  · exact absurd ⟨u, hc⟩ h
  · obtain ⟨te, pe, hv⟩ := S.esyn
    exact (Tryd.strconv_Atoi_syntax s (by omega) hc _ w hv (.inr ⟨te, pe, rfl⟩)).mono fun e w' ⟨N, he, _, _, hb⟩ => ⟨_, _, _, he, by unfold I64; omega, hb⟩
  · obtain ⟨te, pe, hv⟩ := S.erng
    exact (Tryd.strconv_Atoi_range s (by omega) hc _ w hv (.inr ⟨te, pe, rfl⟩)).mono fun e w' ⟨N, he, _, _, hb⟩ => ⟨_, _, _, he, sat_in _, hb⟩
theorem pint_ok (S : Std w) (s : ByteArray) (hs : s.size ≤ 268435457) (v : Int) (h : Lib.parseIntB 64 s.data.toList = .ok v) :
    Calls Tryd.prog 55 #[.string s, .int .i64 10, .int .i64 64] w fun e w' => e = .returned (.tuple #[.int .i64 v, .nilIface]) ∧ Below w.heap.size w w' :=
  (Tryd.strconv_ParseInt_10_at64_ok s (by omega) v h w).mono fun e w' ⟨he, hw⟩ => ⟨he, below_bw hw⟩
theorem pint_bad (S : Std w) (s : ByteArray) (hs : s.size ≤ 268435457) (h : ¬ ∃ u, Lib.parseIntB 64 s.data.toList = .ok u) :
    Calls Tryd.prog 55 #[.string s, .int .i64 10, .int .i64 64] w fun e w' => ∃ (u : Int) (te : TypeId) (pe : Value), e = .returned (.tuple #[.int .i64 u, .iface te pe]) ∧ I64 u ∧ Below w.heap.size w w' := by
  rcases hc : Lib.parseIntB 64 s.data.toList with u | _ | _
  · exact absurd ⟨u, hc⟩ h
  · obtain ⟨te, pe, hv⟩ := S.esyn
    exact (Tryd.strconv_ParseInt_10_at64_syntax s (by omega) hc _ w hv (.inr ⟨te, pe, rfl⟩)).mono fun e w' ⟨N, he, _, _, hb⟩ => ⟨_, _, _, he, by unfold I64; omega, hb⟩
  · obtain ⟨te, pe, hv⟩ := S.erng
    exact (Tryd.strconv_ParseInt_10_at64_range s (by omega) hc _ w hv (.inr ⟨te, pe, rfl⟩)).mono fun e w' ⟨N, he, _, _, hb⟩ => ⟨_, _, _, he, isat_in _, hb⟩
/-- strings.Split by one byte: the pieces, in a new block. -/
def pcs (s : ByteArray) (c : UInt8) : List ByteArray := Lib.splitB ⟨#[c]⟩ 0 (Lib.countB s ⟨#[c]⟩) s
theorem pcs_len (s : ByteArray) (c : UInt8) : (pcs s c).length = Lib.countB s ⟨#[c]⟩ + 1 := Lib.splitB_all ⟨#[c]⟩ (by simp [ByteArray.size]) 0 _ s rfl
theorem split_calls (S : Std w) (s : ByteArray) (c : UInt8) (hs : s.size ≤ 268435457) :
    Calls Tryd.prog 52 #[.string s, .string ⟨#[c]⟩] w fun e w' => e = .returned (.slice (some ⟨w.heap.size, 0, none⟩) (pcs s c).length (pcs s c).length) ∧ w' = w.alloc (.cells ((pcs s c).map Value.string).toArray 9) := by
  obtain ⟨m, hm⟩ := S.max
  rw [pcs_len]
  exact Tryd.strings_Split s ⟨#[c]⟩ m w (by omega) hm (by simp [ByteArray.size])
/-- strings.Cut by one byte. -/
theorem cut_calls (S : Std w) (s : ByteArray) (c : UInt8) (hs : s.size ≤ 268435457) :
    Calls Tryd.prog 42 #[.string s, .string ⟨#[c]⟩] w fun e w' => e = .returned (.tuple #[.string ⟨(Lib.cut s.data.toList [c]).1.toArray⟩, .string ⟨(Lib.cut s.data.toList [c]).2.1.toArray⟩, .bool (Lib.cut s.data.toList [c]).2.2]) ∧ Below w.heap.size w w' := by
  obtain ⟨m, hm⟩ := S.max
  refine (Tryd.strings_Cut s ⟨#[c]⟩ m w (by omega) hm).mono ?_
  rintro e w' ⟨he, n, rfl⟩
  exact ⟨he, pw_below_drewN (Below.refl _ _) n⟩
end
theorem pcs_join (ps : List (List UInt8)) (c : UInt8) (h0 : ps ≠ []) (h : ∀ p ∈ ps, c ∉ p) : (pcs ⟨(joinC c ps).toArray⟩ c).map (·.data.toList) = ps := by
  unfold pcs
  rw [Lib.splitB_data]
  have e : Lib.countB ⟨(joinC c ps).toArray⟩ ⟨#[c]⟩ = ps.length - 1 := by
    show Lib.count (joinC c ps) [c] = _
    rw [Lib.count_one, count_join c ps h0 h]
  rw [e]
  exact split_join c ps h0 h
end Go.Proofs.YtphbepddhhdhmaaDoor.Hof
end

section
/-
  trace.line: a line's bytes behind the row that came in.
-/
set_option linter.unusedVariables false
set_option linter.unusedSimpArgs false
namespace Go.Proofs.YtphbepddhhdhmaaDoor.Hof
open Go.RowKit Go.Shelf Go.Proofs.YtphbepddhhdhmaaDoorW.PrintWords Go.Proofs.YtphbepddhhdhmaaDoorW.PrintLast Go.Proofs.YtphbepddhhdhmaaDoorW.PrintMore GA
theorem Grew.app0 {B n : Nat} {xs : List Value} {w wr w2 : World} {v v2 : Value} {m b : List UInt8} (h : Grew B n xs w wr v m) (hBw : B ≤ w.heap.size)
    (hown : w2.ownsRow B 5 1 v2 (n + m.length + b.length) (xs ++ Lib.byteCells m ++ Lib.byteCells b)) (hg : wr.grownBy w2 v.ownBlock) : Grew B n xs w w2 v2 (m ++ b) := by
  refine ⟨by rw [List.length_append, Lib.byteCells_append, ← List.append_assoc, ← Nat.add_assoc]; exact hown, ?_, ?_⟩
  · exact h.2.1.grown hg (Nat.le_trans hBw h.2.1.size) (fun k hk => (h.1.lt k hk).1)
  · exact h.2.2.grown hg (fun k hk => by
      rcases h.1.2 with ⟨rfl, _⟩ | ⟨g, cap, cur, rfl, hg2, hh, _⟩
      · simp [Value.ownBlock] at hk
      · obtain rfl : g = k := by simpa [Value.ownBlock] using hk
        exact ⟨_, _, hh⟩)
theorem Grew.keep0 {B n : Nat} {xs : List Value} {w wr w2 : World} {v : Value} {m : List UInt8} (h : Grew B n xs w wr v m) (hg : wr.grownBy w2 v.ownBlock)
    {k : Nat} {cs : Array Value} {t : TypeId} (hk : wr.heap[k]? = some (.cells cs t (0, 0))) (ht : t ≠ 5) : w2.heap[k]? = some (.cells cs t (0, 0)) :=
  blk_grown hk hg (fun e => by
    rcases h.1.2 with ⟨rfl, _⟩ | ⟨g, cap, cur, rfl, _, hh, _⟩
    · simp [Value.ownBlock] at e
    · obtain rfl : k = g := by simpa [Value.ownBlock] using e
      rw [hk] at hh
      injection hh with hh
      injection hh with _ hh
      exact ht hh)
theorem name_le : ∀ q < 36, (Laid.nameAt q).size ≤ 8 := by decide
set_option maxHeartbeats 8000000 in
set_option maxRecDepth 100000 in
theorem line_walk (B n u : Nat) (p g0 g1 : Int) (q : Nat) (a b c : Int) (hu64 : u < 18446744073709551616) (hp : I64 p) (hg0 : I64 g0) (hg1 : I64 g1) (ha : I64 a) (hb : I64 b) (hc : I64 c) (hk : q < 36)
    (sv : Value) (xs : List Value) (w : World) (hown : w.ownsRow B 5 1 sv n xs) (hBw : B ≤ w.heap.size) (hB0 : 0 < B) (hlim : n + 400 ≤ 140737488355328) (htab : TabB B w) (hLN : Laid.LaidNames w) :
    Calls Tryd.prog 40 #[sv, .agg #[.int .u64 u, .int .i64 p, .int .i64 g0, .int .i64 g1, .int .i64 ((q : Int) + 1), .int .i64 a, .int .i64 b, .int .i64 c]] w fun x w' => ∃ v', x = .returned v' ∧ w'.ownsRow B 5 1 v' (n + (lineOf u p g0 g1 q a b c).length) (xs ++ Lib.byteCells (lineOf u p g0 g1 q a b c)) ∧ Below B w w' ∧ Lib.OthersKept 5 none w w' := by
  obtain ⟨i0, hi, hz0, hz1, hz2⟩ := info_parts info5
  have lu : (Lib.decDigits u).length ≤ 20 := by rw [Lib.decDigits_length]; exact Lib.nDigits_le20 u hu64
  have lp := Lib.itoa_length_le p hp.1 hp.2
  have lg0 := Lib.itoa_length_le g0 hg0.1 hg0.2
  have lg1 := Lib.itoa_length_le g1 hg1.1 hg1.2
  have bE := blk_new w (.cells #[.int .u64 u, .int .i64 p, .int .i64 g0, .int .i64 g1, .int .i64 ((q : Int) + 1), .int .i64 a, .int .i64 b, .int .i64 c] 36)
  have G0 : Grew B n xs w (w.alloc (.cells #[.int .u64 u, .int .i64 p, .int .i64 g0, .int .i64 g1, .int .i64 ((q : Int) + 1), .int .i64 a, .int .i64 b, .int .i64 c] 36)) sv [] := Grew.alloc ⟨by simpa [Lib.byteCells] using hown, Below.refl _ _, Lib.OthersKept.refl _ _ _⟩ hBw _
  go_enter Tryd.func40, Tryd.ntmps40
  go_wp2_with (go_at_call 47; refine (appendUint_calls B n u hu64 sv xs _ (hown.alloc _) (Nat.le_trans hBw G0.2.1.size) (by omega) (htab.on G0.2.1).here).mono ?_; rintro x w1 ⟨v1, rfl, hown1, hnx1, hok1⟩; refine Hid.out ?_)
  refine Lib.hid ?_
  have bE1 := hok1 _ _ bE (by simp) (by intro c fz e; cases e)
  have G1 : Grew B n xs w w1 v1 (Lib.decDigits u) := G0.call (by simpa [Lib.byteCells] using hown1) hnx1 hok1
  clear hok1 hnx1 hown1 bE G0
  have y1 : w1.cell? ⟨w.heap.size, 1, none⟩ = _ := (blk_cell bE1 1).trans rfl
  have y2 : w1.cell? ⟨w.heap.size, 2, none⟩ = _ := (blk_cell bE1 2).trans rfl
  have y3 : w1.cell? ⟨w.heap.size, 3, none⟩ = _ := (blk_cell bE1 3).trans rfl
  go_wp2
  have bS := blk_new w1 (.cells #[.int .i64 p, .int .i64 g0, .int .i64 g1] 3)
  have bE2 := blk_alloc bE1 (.cells #[.int .i64 p, .int .i64 g0, .int .i64 g1] 3)
  have G2 := G1.alloc hBw (.cells #[.int .i64 p, .int .i64 g0, .int .i64 g1] 3)
  obtain ⟨Bs, hBs⟩ : ∃ Bs, Bs = w1.heap.size := ⟨_, rfl⟩
  have HBs := Lib.hid hBs
  rw [← hBs] at bS ⊢
  clear hBs bE1 G1 y1 y2 y3
  go_loopw [0, 6, 23] (fun v0 v6 v23 wr => ∃ k : Int, (k = 0 ∨ k = 1 ∨ k = 2 ∨ k = 3) ∧ v23 = .int .i64 k ∧ Grew B n xs w wr v0 (Lib.decDigits u ++ numsB ([p, g0, g1].take k.toNat)) ∧ wr.heap[Bs]? = some (.cells #[.int .i64 p, .int .i64 g0, .int .i64 g1] 3 (0, 0)) ∧
      wr.heap[w.heap.size]? = some (.cells #[.int .u64 u, .int .i64 p, .int .i64 g0, .int .i64 g1, .int .i64 ((q : Int) + 1), .int .i64 a, .int .i64 b, .int .i64 c] 36 (0, 0)))
    (fun v0 v6 v23 _ => 3 - (intOf v23).toNat)
  case atStart => exact ⟨0, .inl rfl, rfl, by simpa [numsB] using G2, bS, bE2⟩
  case round =>
    obtain ⟨k, hk4, rfl, G, bS3, bE3⟩ := hrel
    rcases hk4 with rfl | rfl | rfl | rfl
    · -- round 0
      have c0 : wr.cell? ⟨Bs, 0, none⟩ = _ := (blk_cell bS3 0).trans rfl
      go_wp2_with (at_builtin; refine wpList_append_own _ rfl _ _ 58 rfl B 5 i0 (.int .u8 0) 1 1 Tryd.underlying58 hi hz0 hz1 hz2 rfl (by decide) _ _ _ rfl (G.1.alloc _) ⟨wr.heap.size, 0, none⟩ 1 1 [Value.int .u8 32] rfl rfl (cell_one_new wr _ 5) (by simp [Value.oneCell']) (by simp [numsB]; unfold maxLen; omega) (by simp [numsB]; omega) (by have := G.2.1.size; simp; omega) ?_; intro v2 w2 hown2 hgrow _; refine Hid.out ?_)
      refine Lib.hid ?_
      have G4 := Grew.app (b := [32]) G hBw hown2 hgrow
      have bS4 := Grew.keep G hgrow bS3 (by decide)
      have bE4 := Grew.keep G hgrow bE3 (by decide)
      clear hown2 hgrow G bS3 bE3 c0
      go_wp2_with (go_at_call 48; refine (Tryd.strconv_AppendInt_10 B _ p hp.1 hp.2 v2 _ w2 G4.1 (Nat.le_trans hBw G4.2.1.size) (by simp [numsB]; omega) (htab.on G4.2.1)).mono ?_; rintro x w3 ⟨v3, rfl, hown3, hnx3, hok3⟩; refine Hid.out ?_)
      refine Lib.hid ?_
      have G5 := Grew.call G4 hown3 hnx3 hok3
      have bS5 := hok3 _ _ bS4 (by simp) (by intro c fz e; cases e)
      have bE5 := hok3 _ _ bE4 (by simp) (by intro c fz e; cases e)
      go_wp2
      go_roundw
      case rel => exact ⟨1, by simp, by simp, by simpa [numsB] using G5, bS5, bE5⟩
      case measure => simp [intOf]
    · -- round 1
      have c0 : wr.cell? ⟨Bs, 1, none⟩ = _ := (blk_cell bS3 1).trans rfl
      go_wp2_with (at_builtin; refine wpList_append_own _ rfl _ _ 58 rfl B 5 i0 (.int .u8 0) 1 1 Tryd.underlying58 hi hz0 hz1 hz2 rfl (by decide) _ _ _ rfl (G.1.alloc _) ⟨wr.heap.size, 0, none⟩ 1 1 [Value.int .u8 32] rfl rfl (cell_one_new wr _ 5) (by simp [Value.oneCell']) (by simp [numsB]; unfold maxLen; omega) (by simp [numsB]; omega) (by have := G.2.1.size; simp; omega) ?_; intro v2 w2 hown2 hgrow _; refine Hid.out ?_)
      refine Lib.hid ?_
      have G4 := Grew.app (b := [32]) G hBw hown2 hgrow
      have bS4 := Grew.keep G hgrow bS3 (by decide)
      have bE4 := Grew.keep G hgrow bE3 (by decide)
      clear hown2 hgrow G bS3 bE3 c0
      go_wp2_with (go_at_call 48; refine (Tryd.strconv_AppendInt_10 B _ g0 hg0.1 hg0.2 v2 _ w2 G4.1 (Nat.le_trans hBw G4.2.1.size) (by simp [numsB]; omega) (htab.on G4.2.1)).mono ?_; rintro x w3 ⟨v3, rfl, hown3, hnx3, hok3⟩; refine Hid.out ?_)
      refine Lib.hid ?_
      have G5 := Grew.call G4 hown3 hnx3 hok3
      have bS5 := hok3 _ _ bS4 (by simp) (by intro c fz e; cases e)
      have bE5 := hok3 _ _ bE4 (by simp) (by intro c fz e; cases e)
      go_wp2
      go_roundw
      case rel => exact ⟨2, by simp, by simp, by simpa [numsB] using G5, bS5, bE5⟩
      case measure => simp [intOf]
    · -- round 2
      have c0 : wr.cell? ⟨Bs, 2, none⟩ = _ := (blk_cell bS3 2).trans rfl
      go_wp2_with (at_builtin; refine wpList_append_own _ rfl _ _ 58 rfl B 5 i0 (.int .u8 0) 1 1 Tryd.underlying58 hi hz0 hz1 hz2 rfl (by decide) _ _ _ rfl (G.1.alloc _) ⟨wr.heap.size, 0, none⟩ 1 1 [Value.int .u8 32] rfl rfl (cell_one_new wr _ 5) (by simp [Value.oneCell']) (by simp [numsB]; unfold maxLen; omega) (by simp [numsB]; omega) (by have := G.2.1.size; simp; omega) ?_; intro v2 w2 hown2 hgrow _; refine Hid.out ?_)
      refine Lib.hid ?_
      have G4 := Grew.app (b := [32]) G hBw hown2 hgrow
      have bS4 := Grew.keep G hgrow bS3 (by decide)
      have bE4 := Grew.keep G hgrow bE3 (by decide)
      clear hown2 hgrow G bS3 bE3 c0
      go_wp2_with (go_at_call 48; refine (Tryd.strconv_AppendInt_10 B _ g1 hg1.1 hg1.2 v2 _ w2 G4.1 (Nat.le_trans hBw G4.2.1.size) (by simp [numsB]; omega) (htab.on G4.2.1)).mono ?_; rintro x w3 ⟨v3, rfl, hown3, hnx3, hok3⟩; refine Hid.out ?_)
      refine Lib.hid ?_
      have G5 := Grew.call G4 hown3 hnx3 hok3
      have bS5 := hok3 _ _ bS4 (by simp) (by intro c fz e; cases e)
      have bE5 := hok3 _ _ bE4 (by simp) (by intro c fz e; cases e)
      go_wp2
      go_roundw
      case rel => exact ⟨3, by simp, by simp, by simpa [numsB] using G5, bS5, bE5⟩
      case measure => simp [intOf]
    · -- behind the first loop
      have hW0 := hLN q hk
      have e4 : wr.cell? ⟨w.heap.size, 4, none⟩ = _ := (blk_cell bE3 4).trans rfl
      have q0 : (0 : Int) ≤ q := by omega
      have q1 : (q : Int) < 36 := by omega
      clear bS3 hLN
      generalize hnm : Laid.nameAt q = nm at hW0
      have HNM := Lib.hid hnm
      clear hnm
      have lnm : nm.size ≤ 8 := by rw [← HNM.out]; exact name_le q hk
      have HW0 := Aside0.mk hW0
      have hN0 := (G.2.1.cell (p := ⟨0, q, none⟩) hB0).trans hW0
      clear hW0
      have Gd := G.drew
      go_wp2
      have sC : IntKind.i64.wrap (q : Int) = (q : Int) := IntWalk.i64_in _ (by omega)
      go_region_held_law (fun w' => w'.cell? ⟨w.heap.size, 4, none⟩ = some (.int .i64 ((q : Int) + 1)) ∧ w'.cell? ⟨0, q, none⟩ = some (.string nm)) (go_keep)
        (first
          | (refine step_byte rfl _ _ 58 rfl B i0 Tryd.underlying58 hi hz0 hz1 hz2 _ _ _ rfl Gd.1 (.int .u8 32) rfl rfl (by simp [numsB]; unfold maxLen; omega) (by simp [numsB]; omega) (Nat.le_trans hBw Gd.2.1.size) ?_
             intro v2 w2 hown2 hgrow
             have G4 := Grew.app (b := [32]) Gd hBw hown2 hgrow
             have bE4 := Grew.keep Gd hgrow bE3 (by decide)
             have z4 := (blk_cell bE4 4).trans (show _ = some (Value.int .i64 ((q : Int) + 1)) from rfl)
             have zN := (G4.2.1.cell (p := ⟨0, q, none⟩) hB0).trans HW0.out)
          | (refine step_str rfl _ _ 58 9 rfl B i0 Tryd.underlying58 Tryd.underlying9 hi hz0 hz1 hz2 _ _ _ rfl G4.1 nm rfl (by simp [numsB]; unfold maxLen; omega) (by simp [numsB]; omega) (Nat.le_trans hBw G4.2.1.size) ?_
             intro v5 w5 hown5 hgrow5
             have G6 := Grew.app0 (b := nm.data.toList) G4 hBw hown5 hgrow5
             have bE6 := Grew.keep0 G4 hgrow5 bE4 (by decide)
             have z6 := (blk_cell bE6 4).trans (show _ = some (Value.int .i64 ((q : Int) + 1)) from rfl)
             have zN6 := (G6.2.1.cell (p := ⟨0, q, none⟩) hB0).trans HW0.out))
      clear Gd bE3 e4 hN0 HW0 q0 q1 sC
      have lc0 := Lib.itoa_length_le a ha.1 ha.2
      have lc1 := Lib.itoa_length_le b hb.1 hb.2
      have lc2 := Lib.itoa_length_le c hc.1 hc.2
      clear bE4 z4 zN G4 hgrow hown2 hgrow5 hown5 z6 zN6
      have y5 : w5.cell? ⟨w.heap.size, 5, none⟩ = _ := (blk_cell bE6 5).trans rfl
      have y6 : w5.cell? ⟨w.heap.size, 6, none⟩ = _ := (blk_cell bE6 6).trans rfl
      have y7 : w5.cell? ⟨w.heap.size, 7, none⟩ = _ := (blk_cell bE6 7).trans rfl
      generalize hP : Lib.decDigits u ++ numsB (List.take (Int.toNat 3) [p, g0, g1]) ++ [32] ++ nm.data.toList = P at G6
      have HP := Lib.hid hP
      clear hP
      have lP : P.length ≤ 20 + 66 + 1 + 8 := by
        rw [← HP.out]; simp [numsB]; omega
      go_wp2
      have cS := blk_new w5 (.cells #[.int .i64 a, .int .i64 b, .int .i64 c] 2)
      have G7 := G6.alloc hBw (.cells #[.int .i64 a, .int .i64 b, .int .i64 c] 2)
      obtain ⟨Bc, hBc⟩ : ∃ Bc, Bc = w5.heap.size := ⟨_, rfl⟩
      have HBc := Lib.hid hBc
      rw [← hBc] at cS ⊢
      clear hBc bE6 G6 y5 y6 y7
      go_loopw [0, 8, 50] (fun v0 v8 v50 wr => ∃ k : Int, (k = 0 ∨ k = 1 ∨ k = 2 ∨ k = 3) ∧ v50 = .int .i64 k ∧ Grew B n xs w wr v0 (P ++ numsB ([a, b, c].take k.toNat)) ∧ wr.heap[Bc]? = some (.cells #[.int .i64 a, .int .i64 b, .int .i64 c] 2 (0, 0)))
        (fun v0 v8 v50 _ => 3 - (intOf v50).toNat)
      case atStart => exact ⟨0, .inl rfl, rfl, by simpa [numsB] using G7, cS⟩
      case round =>
        obtain ⟨k, hk4, rfl, G, cS3⟩ := hrel
        rcases hk4 with rfl | rfl | rfl | rfl
        · -- round 0
          have c0 : wr.cell? ⟨Bc, 0, none⟩ = _ := (blk_cell cS3 0).trans rfl
          go_wp2_with (at_builtin; refine wpList_append_own _ rfl _ _ 58 rfl B 5 i0 (.int .u8 0) 1 1 Tryd.underlying58 hi hz0 hz1 hz2 rfl (by decide) _ _ _ rfl (G.1.alloc _) ⟨wr.heap.size, 0, none⟩ 1 1 [Value.int .u8 32] rfl rfl (cell_one_new wr _ 5) (by simp [Value.oneCell']) (by simp [numsB]; unfold maxLen; omega) (by simp [numsB]; omega) (by have := G.2.1.size; simp; omega) ?_; intro v2 w2 hown2 hgrow _; refine Hid.out ?_)
          refine Lib.hid ?_
          have G4 := Grew.app (b := [32]) G hBw hown2 hgrow
          have cS4 := Grew.keep G hgrow cS3 (by decide)
          clear hown2 hgrow G cS3 c0
          go_wp2_with (go_at_call 48; refine (Tryd.strconv_AppendInt_10 B _ a ha.1 ha.2 v2 _ w2 G4.1 (Nat.le_trans hBw G4.2.1.size) (by simp [numsB]; omega) (htab.on G4.2.1)).mono ?_; rintro x w3 ⟨v3, rfl, hown3, hnx3, hok3⟩; refine Hid.out ?_)
          refine Lib.hid ?_
          have G5 := Grew.call G4 hown3 hnx3 hok3
          have cS5 := hok3 _ _ cS4 (by simp) (by intro c fz e; cases e)
          go_wp2
          go_roundw
          case rel => exact ⟨1, by simp, by simp, by simpa [numsB] using G5, cS5⟩
          case measure => simp [intOf]
        · -- round 1
          have c0 : wr.cell? ⟨Bc, 1, none⟩ = _ := (blk_cell cS3 1).trans rfl
          go_wp2_with (at_builtin; refine wpList_append_own _ rfl _ _ 58 rfl B 5 i0 (.int .u8 0) 1 1 Tryd.underlying58 hi hz0 hz1 hz2 rfl (by decide) _ _ _ rfl (G.1.alloc _) ⟨wr.heap.size, 0, none⟩ 1 1 [Value.int .u8 32] rfl rfl (cell_one_new wr _ 5) (by simp [Value.oneCell']) (by simp [numsB]; unfold maxLen; omega) (by simp [numsB]; omega) (by have := G.2.1.size; simp; omega) ?_; intro v2 w2 hown2 hgrow _; refine Hid.out ?_)
          refine Lib.hid ?_
          have G4 := Grew.app (b := [32]) G hBw hown2 hgrow
          have cS4 := Grew.keep G hgrow cS3 (by decide)
          clear hown2 hgrow G cS3 c0
          go_wp2_with (go_at_call 48; refine (Tryd.strconv_AppendInt_10 B _ b hb.1 hb.2 v2 _ w2 G4.1 (Nat.le_trans hBw G4.2.1.size) (by simp [numsB]; omega) (htab.on G4.2.1)).mono ?_; rintro x w3 ⟨v3, rfl, hown3, hnx3, hok3⟩; refine Hid.out ?_)
          refine Lib.hid ?_
          have G5 := Grew.call G4 hown3 hnx3 hok3
          have cS5 := hok3 _ _ cS4 (by simp) (by intro c fz e; cases e)
          go_wp2
          go_roundw
          case rel => exact ⟨2, by simp, by simp, by simpa [numsB] using G5, cS5⟩
          case measure => simp [intOf]
        · -- round 2
          have c0 : wr.cell? ⟨Bc, 2, none⟩ = _ := (blk_cell cS3 2).trans rfl
          go_wp2_with (at_builtin; refine wpList_append_own _ rfl _ _ 58 rfl B 5 i0 (.int .u8 0) 1 1 Tryd.underlying58 hi hz0 hz1 hz2 rfl (by decide) _ _ _ rfl (G.1.alloc _) ⟨wr.heap.size, 0, none⟩ 1 1 [Value.int .u8 32] rfl rfl (cell_one_new wr _ 5) (by simp [Value.oneCell']) (by simp [numsB]; unfold maxLen; omega) (by simp [numsB]; omega) (by have := G.2.1.size; simp; omega) ?_; intro v2 w2 hown2 hgrow _; refine Hid.out ?_)
          refine Lib.hid ?_
          have G4 := Grew.app (b := [32]) G hBw hown2 hgrow
          have cS4 := Grew.keep G hgrow cS3 (by decide)
          clear hown2 hgrow G cS3 c0
          go_wp2_with (go_at_call 48; refine (Tryd.strconv_AppendInt_10 B _ c hc.1 hc.2 v2 _ w2 G4.1 (Nat.le_trans hBw G4.2.1.size) (by simp [numsB]; omega) (htab.on G4.2.1)).mono ?_; rintro x w3 ⟨v3, rfl, hown3, hnx3, hok3⟩; refine Hid.out ?_)
          refine Lib.hid ?_
          have G5 := Grew.call G4 hown3 hnx3 hok3
          have cS5 := hok3 _ _ cS4 (by simp) (by intro c fz e; cases e)
          go_wp2
          go_roundw
          case rel => exact ⟨3, by simp, by simp, by simpa [numsB] using G5, cS5⟩
          case measure => simp [intOf]
        · -- behind the second loop
          have hfin : P ++ numsB (List.take (Int.toNat 3) [a, b, c]) = lineOf u p g0 g1 q a b c := by
            rw [← HP.out, ← HNM.out]; simp [lineOf]
          rw [hfin] at G
          have GF := Aside0.mk G
          clear G hfin
          go_wp2
          go_ret
          exact ⟨_, rfl, GF.out.1, GF.out.2.1, GF.out.2.2⟩
end Go.Proofs.YtphbepddhhdhmaaDoor.Hof
end

section
/-
  A whole struct stored into a variable of its own, as one event: the world gets a letter.
-/
namespace Go.Proofs.YtphbepddhhdhmaaDoor
open Go.RowKit Go.Proofs.YtphbepddhhdhmaaDoorW.PrintWords
section
variable {P : Program} {ops : Array Oper} {rest : List Oper} {o : Oper} {a : Act} {Q : Exit → Act → World → Prop}
theorem keepBut_setRow (W : World) (g : Nat) (cs : Array Value) : KeepBut W (W.setRow g cs) g none :=
  ⟨Nat.le_of_eq (size_setRow W g cs).symm, fun i _ hi _ => setRow_other W g i cs hi⟩
theorem below_setRow' {B : Nat} {w W : World} (h : Below B w W) {g : Nat} (hg : B ≤ g) (cs : Array Value) : Below B w (W.setRow g cs) :=
  ⟨h.os, h.tape, h.output, by rw [size_setRow]; exact h.size, fun i hi => by rw [setRow_other W g i cs (by omega)]; exact h.block i hi⟩
theorem row_event {W : World} (hgd : o.guard = none) {t : TypeId} {p : Tmp} {v : Operand} (ho : o.op = .store t (.tmp p) v) (hN : o.dst = none) (g : Nat) {tb : TypeId} (old cs : Array Value)
    (hp : a.eval (.tmp p) = .pointer (some ⟨g, 0, none⟩)) (hv : a.eval v = .agg cs) (hb : W.heap[g]? = some (.cells old tb (0, 0))) (hi : (P.info? t).map (·.size) = some cs.size) (hs : old.size = cs.size) (h1 : cs.all (·.oneCell') = true)
    (h : ∀ w', w'.heap[g]? = some (.cells cs tb (0, 0)) → KeepBut W w' g none → (∀ w0 : World, Below w0.heap.size w0 W → w0.heap.size ≤ g → Below w0.heap.size w0 w') → wpList P ops Q rest a w') : wpList P ops Q (o :: rest) a W := by
  refine wpList_store_row hgd t (.tmp p) v ho g cs hp hv tb old hb hi hs h1 ?_
  rw [hN]
  exact h _ (setRow_heap _ _ _ _ _ _ hb) (keepBut_setRow W g cs) (fun w0 hB hg => below_setRow' hB hg cs)
/-- A cell that is loaded. -/
theorem load_event {W : World} (hgd : o.guard = none) {N : Tmp} (_hd : o.dst = some N) {t : TypeId} {p : Tmp} (ho : o.op = .load t (.tmp p)) (ad : Addr) (v : Value)
    (hp : a.eval (.tmp p) = .pointer (some ad)) (hna : ∀ w, (isAgg t).run P w = .ok false w) (hc : W.cell? ad = some v)
    (h : wpList P ops Q rest (a.put o.dst v) W) : wpList P ops Q (o :: rest) a W := by
  refine Kd.event_run (v := v) (w1 := W) hgd ?_ h
  have hl : (loadVar t ad).run P W = .ok v W := by
    unfold loadVar
    rw [Sem.run_bind, hna W]
    show (load ad).run P W = _
    rw [run_load, hc]
  unfold execOp
  simp only [ho, hp, Instr.loadAt, Instr.sureAddr, Sem.run_bind, Sem.run_pure, Result.andThen_ok, hl]
/-- A cell that is stored. -/
theorem cell_event {W : World} (hgd : o.guard = none) {t : TypeId} {p : Tmp} {v : Operand} (ho : o.op = .store t (.tmp p) v) (hN : o.dst = none) (g j : Nat) {tb : TypeId} (cs : Array Value) (u : Value)
    (hp : a.eval (.tmp p) = .pointer (some ⟨g, j, none⟩)) (hv : a.eval v = u) (hb : W.heap[g]? = some (.cells cs tb (0, 0))) (hj : (cs[j]?).isSome = true) (hi : (P.info? t).map (·.size) = some 1) (h1 : u.oneCell' = true)
    (h : ∀ w', w'.heap[g]? = some (.cells (cs.setIfInBounds j u) tb (0, 0)) → KeepBut W w' g none → (∀ w0 : World, Below w0.heap.size w0 W → w0.heap.size ≤ g → Below w0.heap.size w0 w') → wpList P ops Q rest a w') : wpList P ops Q (o :: rest) a W := by
  refine store_event (w1 := W.setCell ⟨g, j, none⟩ u) hgd ho hN ?_ (fun w' hw => ?_)
  · obtain ⟨z, hz⟩ := Option.isSome_iff_exists.1 hj
    have hc : W.cell? ⟨g, j, none⟩ = some z := (blk_cell hb j).trans hz
    have hf : W.frozen? ⟨g, j, none⟩ = false := blk_frozen hb j
    have hs : (store (⟨g, j, none⟩ : Addr) u).run P W = .ok () (W.setCell ⟨g, j, none⟩ u) := by
      rw [run_store P W _ u _ h1, hc]
      simp [hf]
    have hcells : u.cells = #[u] := by cases u <;> first | rfl | simp [Value.oneCell'] at h1
    have hsv : (storeVar t ⟨g, j, none⟩ u).run P W = .ok () (W.setCell ⟨g, j, none⟩ u) := by
      cases hq : P.info? t with
      | none => simp [hq] at hi
      | some i =>
        have hz : i.size = 1 := by simpa [hq] using hi
        have ha : (⟨g, j, none⟩ : Addr).add 0 = ⟨g, j, none⟩ := by unfold Addr.add; simp
        have hs' : (store ((⟨g, j, none⟩ : Addr).add 0) u).run P W = .ok () (W.setCell ⟨g, j, none⟩ u) := by rw [ha]; exact hs
        simp [storeVar, sizeOf, typeInfo, hq, hcells, hz, storeCells, hs']
    unfold execOp
    simp only [ho, hp, hv, Instr.storeAt, Instr.sureAddr, Sem.run_bind, Sem.run_pure, Result.andThen_ok, hsv]
  · subst hw
    exact h _ (blk_set hb j u) ((KeepBut.refl W g none).set_ j u) (fun w0 hB hg => below_set hB hg)
end
end Go.Proofs.YtphbepddhhdhmaaDoor
end

section
/-
  The memory of a call's own as one record.
-/
set_option linter.unusedVariables false
set_option linter.unusedSimpArgs false
namespace Go.Proofs.YtphbepddhhdhmaaDoor.Hctx
open Go.RowKit Go.Proofs.YtphbepddhhdhmaaDoorW.PrintWords Go.Proofs.YtphbepddhhdhmaaDoorW.PrintLast Go.Proofs.YtphbepddhhdhmaaDoorW.PrintMore
/-- A row of the call's own. -/
structure Row where
  {α : Type}
  (d : Kd α) (e : TypeId) (v : Value) (xs : List α)
/-- What a row may hold: no other row's block. -/
def okOf (rows : List Row) (i k : Nat) : Prop := ∀ (j : Nat) (s : Row), rows[j]? = some s → j ≠ i → some k ≠ s.v.ownBlock
/-- The memory of a call's own: blocks known whole, and rows (es: the types of what lies in rows). -/
structure Mem (es : List TypeId) (w0 W : World) (l : List (Nat × Array Value × TypeId)) (rows : List Row) : Prop where
  below : Below w0.heap.size w0 W
  blk : ∀ x, x ∈ l → W.heap[x.1]? = some (.cells x.2.1 x.2.2 (0, 0)) ∧ w0.heap.size ≤ x.1 ∧ x.2.2 ∉ es
  apart : l.Pairwise (fun x y => x.1 ≠ y.1)
  typ : ∀ r, r ∈ rows → ∀ q, q ∈ r.e :: r.d.E → q ∈ es
  owns : ∀ (i : Nat) (r : Row), rows[i]? = some r → r.d.R r.e W w0.heap.size (okOf rows i) r.v r.xs
variable {es : List TypeId} {w0 W W1 : World} {l : List (Nat × Array Value × TypeId)} {rows : List Row} {α : Type} {d : Kd α} {e : TypeId} {v : Value} {xs : List α}
theorem Mem.start (es : List TypeId) (w0 : World) : Mem es w0 w0 [] [] := ⟨Below.refl _ _, (fun x hx => by cases hx), List.Pairwise.nil, (fun r hr => by cases hr), (fun i r hr => by simp at hr)⟩
theorem Mem.own (M : Mem es w0 W l (⟨d, e, v, xs⟩ :: rows)) : d.R e W w0.heap.size (fun _ => True) v xs := Kd.R_mono (M.owns 0 _ rfl) (fun _ _ => trivial)
theorem Mem.ownAt (M : Mem es w0 W l rows) (i : Nat) (h : rows[i]? = some ⟨d, e, v, xs⟩) : d.R e W w0.heap.size (fun _ => True) v xs := Kd.R_mono (M.owns i _ h) (fun _ _ => trivial)
theorem Mem.at (M : Mem es w0 W l rows) (i : Nat) {g : Nat} {cs : Array Value} {t : TypeId} (h : l[i]? = some (g, cs, t)) : W.heap[g]? = some (.cells cs t (0, 0)) :=
  (M.blk _ (List.mem_of_getElem? h)).1
theorem Mem.ge (M : Mem es w0 W l rows) (i : Nat) {g : Nat} {cs : Array Value} {t : TypeId} (h : l[i]? = some (g, cs, t)) : w0.heap.size ≤ g :=
  (M.blk _ (List.mem_of_getElem? h)).2.1
theorem Mem.ne (M : Mem es w0 W l rows) (i j : Nat) (hij : i < j) {g g' : Nat} {cs cs' : Array Value} {t t' : TypeId} (h : l[i]? = some (g, cs, t)) (h' : l[j]? = some (g', cs', t')) : g ≠ g' := by
  have hi := (List.getElem?_eq_some_iff.1 h)
  have hj := (List.getElem?_eq_some_iff.1 h')
  have := List.pairwise_iff_getElem.1 M.apart i j hi.1 hj.1 hij
  rw [hi.2, hj.2] at this
  exact this
theorem Mem.call (M : Mem es w0 W l rows) (hb : Below W.heap.size W W1) : Mem es w0 W1 l rows :=
  ⟨below_step M.below hb, fun x hx => ⟨blk_below (M.blk x hx).1 hb, (M.blk x hx).2⟩, M.apart, M.typ, fun i r hr => Kd.R_below (M.owns i r hr) hb⟩
theorem Mem.drewN (M : Mem es w0 W l rows) (n : Nat) : Mem es w0 (W.drewN n) l rows :=
  ⟨pw_below_drewN M.below n, fun x hx => ⟨blk_drewN (M.blk x hx).1 n, (M.blk x hx).2⟩, M.apart, M.typ, fun i r hr => Kd.R_drewN (M.owns i r hr) n⟩
theorem Mem.box (M : Mem es w0 W l rows) {g : Nat} {cs : Array Value} {t : TypeId} (hg : g = W.heap.size) (hbox : W1.heap[g]? = some (.cells cs t (0, 0))) (hb : Below W.heap.size W W1) (ht : t ∉ es) : Mem es w0 W1 (l ++ [(g, cs, t)]) rows := by
  have M1 := M.call hb
  refine ⟨M1.below, fun x hx => ?_, ?_, M1.typ, M1.owns⟩
  · rcases List.mem_append.1 hx with h | h
    · exact M1.blk x h
    · rw [List.mem_singleton] at h; subst h
      exact ⟨hbox, by rw [hg]; exact below_size M.below, ht⟩
  · refine List.pairwise_append.2 ⟨M1.apart, List.pairwise_singleton _ _, fun x hx y hy => ?_⟩
    rw [List.mem_singleton] at hy; subst hy
    have := blk_lt (M.blk x hx).1
    show x.1 ≠ g
    omega
theorem Mem.keep (M : Mem es w0 W l rows) (i : Nat) {g : Nat} {cs cs' : Array Value} {t : TypeId} (h : l[i]? = some (g, cs, t)) (hn : W1.heap[g]? = some (.cells cs' t (0, 0))) (hk : KeepBut W W1 g none) (hb : Below w0.heap.size w0 W1) : Mem es w0 W1 (l.set i (g, cs', t)) rows := by
  have hi := List.getElem?_eq_some_iff.1 h
  have ht := (M.blk _ (List.mem_of_getElem? h))
  refine ⟨hb, fun x hx => ?_, ?_, M.typ, ?_⟩
  · obtain ⟨j, hj⟩ := List.mem_iff_getElem?.1 hx
    rw [List.getElem?_set] at hj
    by_cases hij : i = j
    · subst hij
      rw [if_pos rfl, if_pos hi.1] at hj
      obtain rfl := Option.some.inj hj
      exact ⟨hn, ht.2⟩
    · rw [if_neg hij] at hj
      have hxl := List.mem_of_getElem? hj
      refine ⟨hk.blk (M.blk x hxl).1 ?_ (by simp), (M.blk x hxl).2⟩
      rcases Nat.lt_or_gt_of_ne hij with hlt | hlt
      · exact (M.ne i j hlt h (g' := x.1) (cs' := x.2.1) (t' := x.2.2) hj).symm
      · exact M.ne j i hlt (g := x.1) (cs := x.2.1) (t := x.2.2) hj h
  · rw [List.pairwise_iff_getElem]
    intro a b ha hb' hab
    rw [List.length_set] at ha hb'
    have := List.pairwise_iff_getElem.1 M.apart a b ha hb' hab
    rw [List.getElem_set, List.getElem_set]
    by_cases h1 : i = a
    · subst h1
      rw [if_pos rfl, if_neg (by omega)]
      rw [hi.2] at this
      exact this
    · rw [if_neg h1]
      by_cases h2 : i = b
      · subst h2
        rw [if_pos rfl]
        rw [hi.2] at this
        exact this
      · rw [if_neg h2]; exact this
  · intro j r hr
    exact Kd.R_mono (Kd.R_keep (Kd.R_types (M.owns j r hr) ht.1 (fun q hq hqt => ht.2.2 (by
      have := M.typ r (List.mem_of_getElem? hr) q hq
      rwa [hqt] at this))) hk (fun _ h_ => h_.2)) (fun _ h_ => h_.1)
theorem Mem.set (M : Mem es w0 W l rows) (i : Nat) {g : Nat} {cs : Array Value} {t : TypeId} (h : l[i]? = some (g, cs, t)) (j : Nat) (u : Value) : Mem es w0 (W.setCell ⟨g, j, none⟩ u) (l.set i (g, cs.setIfInBounds j u, t)) rows :=
  M.keep i h (blk_set (M.at i h) j u) ((KeepBut.refl W g none).set_ j u) (below_set M.below (M.ge i h))
/-- A new row, made by a callee. -/
theorem Mem.row (M : Mem es w0 W l rows) (hb : Below W.heap.size W W1) (h : d.R e W1 W.heap.size (fun _ => True) v xs) (ht : ∀ q, q ∈ e :: d.E → q ∈ es := by decide) : Mem es w0 W1 l (⟨d, e, v, xs⟩ :: rows) := by
  have M1 := M.call hb
  refine ⟨M1.below, M1.blk, M1.apart, fun r hr => ?_, fun i r hr => ?_⟩
  · rcases List.mem_cons.1 hr with rfl | hr
    · exact ht
    · exact M.typ r hr
  · cases i with
    | zero =>
      obtain rfl : _ = r := by simpa using hr
      refine Kd.R_lower (Kd.R_mono (Kd.R_bound h) (fun k hk j s hs hj hks => ?_)) (below_size M.below)
      obtain ⟨j, rfl⟩ : ∃ m, j = m + 1 := ⟨j - 1, by omega⟩
      have := Kd.R_lt (M.owns j s (by simpa using hs)) k hks.symm
      have := hk.2.1
      omega
    | succ i =>
      have hr' : rows[i]? = some r := by simpa using hr
      refine Kd.R_mono (Kd.R_below (Kd.R_bound (M.owns i r hr')) hb) (fun k hk j s hs hj hks => ?_)
      cases j with
      | zero =>
        obtain rfl : _ = s := by simpa using hs
        have := Kd.R_base h k hks.symm
        have := hk.2.2.1
        omega
      | succ j => exact hk.1 j s (by simpa using hs) (by omega) hks
theorem Mem.cell (M : Mem es w0 W l rows) (i : Nat) {g : Nat} {cs : Array Value} {t : TypeId} (h : l[i]? = some (g, cs, t)) (j : Nat) : W.cell? ⟨g, j, none⟩ = cs[j]? := blk_cell (M.at i h) j
theorem Mem.free (M : Mem es w0 W l rows) (i : Nat) {g : Nat} {cs : Array Value} {t : TypeId} (h : l[i]? = some (g, cs, t)) (j : Nat) : W.frozen? ⟨g, j, none⟩ = false := blk_frozen (M.at i h) j
theorem Mem.range (M : Mem es w0 W l rows) (i : Nat) {g : Nat} {cs : Array Value} {t : TypeId} (h : l[i]? = some (g, cs, t)) : W.rangeAt g 0 cs.toList := fun j u hu => by
  rw [Nat.zero_add, M.cell i h j]; simpa using hu
theorem Mem.there (M : Mem es w0 W l rows) (i : Nat) {g : Nat} {cs : Array Value} {t : TypeId} (h : l[i]? = some (g, cs, t)) : W.there g 0 cs.size := fun j hj => by
  rw [Nat.zero_add, M.cell i h j, M.free i h j]
  exact ⟨by rw [Array.getElem?_eq_getElem hj]; rfl, rfl⟩
theorem setCells_keep (g : Nat) : ∀ (us : List Value) (o : Nat) (W : World), KeepBut W (W.setCells g o us) g none
  | [], _, W => KeepBut.refl W g none
  | u :: us, o, W => by
    rw [World.setCells]
    exact KeepBut.trans ((KeepBut.refl W g none).set_ o u) (setCells_keep g us (o + 1) _) (.inl rfl)
theorem setCells_below {B : Nat} {w : World} (g : Nat) (hg : B ≤ g) : ∀ (us : List Value) (o : Nat) (W : World), Below B w W → Below B w (W.setCells g o us)
  | [], _, W, h => h
  | u :: us, o, W, h => by
    rw [World.setCells]
    exact setCells_below g hg us (o + 1) _ (h.setCell hg _)
theorem setCells_blk (g : Nat) {t : TypeId} : ∀ (us pre suf : List Value) (W : World), W.heap[g]? = some (.cells (pre ++ suf).toArray t (0, 0)) → us.length = suf.length → (W.setCells g pre.length us).heap[g]? = some (.cells (pre ++ us).toArray t (0, 0))
  | [], pre, suf, W, h, hl => by
    obtain rfl : suf = [] := List.length_eq_zero_iff.1 (by simpa using hl.symm)
    exact h
  | u :: us, pre, suf, W, h, hl => by
    obtain ⟨s, suf, rfl⟩ : ∃ s r, suf = s :: r := by cases suf with | nil => simp at hl | cons s r => exact ⟨s, r, rfl⟩
    rw [World.setCells]
    have h1 := blk_set h pre.length u
    have e : (pre ++ s :: suf).toArray.setIfInBounds pre.length u = ((pre ++ [u]) ++ suf).toArray := by simp
    rw [e] at h1
    have := setCells_blk g us (pre ++ [u]) suf _ h1 (by simpa using hl)
    simpa using this
theorem Mem.cells (M : Mem es w0 W l rows) (i : Nat) {g : Nat} {cs : Array Value} {t : TypeId} (h : l[i]? = some (g, cs, t)) (us : Array Value) (hl : us.size = cs.size) : Mem es w0 (W.setCells g 0 us.toList) (l.set i (g, us, t)) rows := by
  refine M.keep i h ?_ (setCells_keep g us.toList 0 W) (setCells_below g (M.ge i h) us.toList 0 W M.below)
  have := setCells_blk g (t := t) us.toList [] cs.toList W (by simpa using M.at i h) (by simpa using hl)
  simpa using this
/-- The first row has been written: a store into it, an append to it. -/
theorem Mem.written (M : Mem es w0 W l (⟨d, e, v, xs⟩ :: rows)) (hb : Below w0.heap.size w0 W1) (hg : W.grownBy W1 v.ownBlock) {v1 : Value} {ys : List α}
    (h : d.R e W1 w0.heap.size (okOf (⟨d, e, v, xs⟩ :: rows) 0) v1 ys) (hat : v1.ownBlock = v.ownBlock ∨ ∃ b, v1.ownBlock = some b ∧ W.heap.size ≤ b) : Mem es w0 W1 l (⟨d, e, v1, ys⟩ :: rows) := by
  refine ⟨hb, fun x hx => ?_, M.apart, fun r hr => ?_, fun i r hr => ?_⟩
  · have hx' := M.blk x hx
    refine ⟨blk_grown hx'.1 hg (fun he => ?_), hx'.2⟩
    obtain ⟨cells, hc⟩ := Kd.R_typed (M.owns 0 _ rfl) x.1 he.symm
    have h2 := hx'.1.symm.trans hc
    injection h2 with h2
    injection h2 with _ h3 _
    exact hx'.2.2 (by rw [h3]; exact M.typ _ List.mem_cons_self _ List.mem_cons_self)
  · rcases List.mem_cons.1 hr with rfl | hr
    · exact M.typ ⟨d, e, v, xs⟩ List.mem_cons_self
    · exact M.typ r (List.mem_cons_of_mem _ hr)
  · cases i with
    | zero =>
      obtain rfl : _ = r := by simpa using hr
      refine Kd.R_mono h (fun k hk j s hs hj => ?_)
      obtain ⟨j, rfl⟩ : ∃ m, j = m + 1 := ⟨j - 1, by omega⟩
      exact hk (j + 1) s (by simpa using hs) (by omega)
    | succ i =>
      have hr' : (⟨d, e, v, xs⟩ :: rows)[i + 1]? = some r := by simpa using hr
      have h0 := M.owns (i + 1) r hr'
      refine Kd.R_mono (Kd.R_grown (Kd.R_bound h0) hg (fun k hk => hk.1 0 _ rfl (by omega))) (fun k hk j s hs hj => ?_)
      cases j with
      | zero =>
        obtain rfl : _ = s := by simpa using hs
        rcases hat with he | ⟨b, he, hbb⟩
        · show some k ≠ v1.ownBlock
          rw [he]
          exact hk.1 0 _ rfl (by omega)
        · show some k ≠ v1.ownBlock
          rw [he]
          intro hkb
          injection hkb with hkb
          have := hk.2.2.1
          omega
      | succ j => exact hk.1 (j + 1) s (by simpa using hs) (by omega)
/-- Fresh blocks are no other row's. -/
theorem Mem.okFresh (M : Mem es w0 W l rows) (i k : Nat) (hk : W.heap.size ≤ k) : okOf rows i k := fun j s hs hj he => by
  have := Kd.R_lt (M.owns j s hs) k he.symm
  omega
theorem okOne (r : Row) (k : Nat) : okOf [r] 0 k := fun j s hs hj => by
  cases j with
  | zero => exact absurd rfl hj
  | succ j => simp at hs
theorem Mem.append (M : Mem es w0 W l [⟨d, e, v, xs⟩]) (hb : Below w0.heap.size w0 W1) (hg : W.grownBy W1 v.ownBlock) {v1 : Value} {ys : List α} (h : d.R e W1 w0.heap.size (fun _ => True) v1 ys)
    (hat : v1.ownBlock = v.ownBlock ∨ ∃ b, v1.ownBlock = some b ∧ W.heap.size ≤ b) : Mem es w0 W1 l [⟨d, e, v1, ys⟩] :=
  M.written hb hg (Kd.R_mono h (fun k _ => okOne _ k)) hat
/-- The first row as another value (a part of it). -/
theorem Mem.own_to (M : Mem es w0 W l [⟨d, e, v, xs⟩]) {v1 : Value} {ys : List α} (h : d.R e W w0.heap.size (fun _ => True) v1 ys) : Mem es w0 W l [⟨d, e, v1, ys⟩] :=
  ⟨M.below, M.blk, M.apart, fun r hr => by rw [List.mem_singleton] at hr; subst hr; exact M.typ ⟨d, e, v, xs⟩ List.mem_cons_self, fun i r hr => by
    cases i with
    | zero =>
      obtain rfl : _ = r := by simpa using hr
      exact Kd.R_mono h (fun k _ => okOne _ k)
    | succ i => simp at hr⟩
/-- Fewer rows. -/
theorem Mem.tail {r : Row} (M : Mem es w0 W l (r :: rows)) : Mem es w0 W l rows :=
  ⟨M.below, M.blk, M.apart, fun s hs => M.typ s (List.mem_cons_of_mem _ hs), fun i s hs => Kd.R_mono (M.owns (i + 1) s (by simpa using hs)) (fun k hk j s' hs' hj => hk (j + 1) s' (by simpa using hs') (by omega))⟩
theorem Mem.none (M : Mem es w0 W l rows) : Mem es w0 W l [] := ⟨M.below, M.blk, M.apart, (fun r hr => by cases hr), (fun i r hr => by simp at hr)⟩
theorem Mem.drawn (M : Mem es w0 W l rows) (h : Drawn0 W W1) : Mem es w0 W1 l rows := by
  obtain ⟨n, rfl⟩ := h
  exact M.drewN n
theorem Mem.drew (M : Mem es w0 W l rows) : Mem es w0 W.drew l rows :=
  ⟨M.below.drew, fun x hx => ⟨blk_drew (M.blk x hx).1, (M.blk x hx).2⟩, M.apart, M.typ, fun i r hr => Kd.R_drew (M.owns i r hr)⟩
end Go.Proofs.YtphbepddhhdhmaaDoor.Hctx
end
