import Derived.Test.YthjfmlehkcccfaaMDoes12
import Derived.Test.YthjfmlehkcccfaaMWrites0
import Derived.Test.YthjfmlehkcccfaaMDoes22
section
/-
  Which registers a step and its answer change: those that the reference's mask tells (plain).
-/
set_option linter.unusedVariables false
set_option linter.unusedSimpArgs false
namespace Go.Proofs.Ythjfmlehkcccfaa.Qwr
open Go.RowKit Go.Proofs.YthjfmlehkcccfaaW.PrintWords Go.Proofs.YthjfmlehkcccfaaW.PrintLast Go.Proofs.YthjfmlehkcccfaaW.PrintMore GA Hctx Hsmall Qstep Hans
/-- Is a register's bit none of the mask's? -/
def bitZero (mask : Int) (i : Nat) : Bool := Go.bits .and .u16 (mask / 2 ^ i) 1 == 0
/-- One letter more. -/
def bit1 (acc : Int) (x : Nat) : Int := Go.bits .or .u16 acc (shl .u16 1 (x : Int))
theorem wrap_u64 {x : Nat} (h : x < 16) : IntKind.u64.wrap (x : Int) = x := by
  simp only [IntKind.wrap, IntKind.bits, IntKind.signed, Bool.false_and]
  simp; omega
theorem bits_none (o a b c m : Int) (k : Nat) (hk : 5 ≤ k) : rotaref06_bits.f k ⟨#[]⟩ o a b c m = some 0 := by
  obtain ⟨k, rfl⟩ : ∃ m, k = m + 1 := ⟨k - 1, by omega⟩
  unfold rotaref06_bits.f
  rw [rotaref06_bits.l0, if_neg (by decide)]
theorem bits_star (o a b c m : Int) (k : Nat) (hk : 5 ≤ k) : rotaref06_bits.f k ⟨#[42]⟩ o a b c m = some 65535 := by
  obtain ⟨k, rfl⟩ : ∃ m, k = m + 2 := ⟨k - 2, by omega⟩
  unfold rotaref06_bits.f
  rw [rotaref06_bits.l0, if_pos (by decide), if_pos (by decide), if_pos (by decide)]
  rw [show wrap64 (0 + 1) = 1 from by unfold wrap64; omega, rotaref06_bits.l0, if_neg (by decide)]
theorem bits_a (o m : Int) (a b c : Nat) (ha : a < 16) (k : Nat) (hk : 5 ≤ k) : rotaref06_bits.f k ⟨#[97]⟩ o a b c m = some (bit1 0 a) := by
  obtain ⟨k, rfl⟩ : ∃ m, k = m + 2 := ⟨k - 2, by omega⟩
  unfold rotaref06_bits.f
  rw [rotaref06_bits.l0, if_pos (by decide), if_pos (by decide), if_neg (by decide), if_pos (by decide), wrap_u64 ha, if_pos (by omega)]
  rw [show wrap64 (0 + 1) = 1 from by unfold wrap64; omega, rotaref06_bits.l0, if_neg (by decide)]
  rfl
theorem bits_c (o m : Int) (a b c : Nat) (hc : c < 16) (k : Nat) (hk : 5 ≤ k) : rotaref06_bits.f k ⟨#[99]⟩ o a b c m = some (bit1 0 c) := by
  obtain ⟨k, rfl⟩ : ∃ m, k = m + 2 := ⟨k - 2, by omega⟩
  unfold rotaref06_bits.f
  rw [rotaref06_bits.l0, if_pos (by decide), if_pos (by decide), if_neg (by decide), if_neg (by decide), if_neg (by decide), if_pos (by decide), wrap_u64 hc, if_pos (by omega)]
  rw [show wrap64 (0 + 1) = 1 from by unfold wrap64; omega, rotaref06_bits.l0, if_neg (by decide)]
  rfl
theorem bits_ab (o m : Int) (a b c : Nat) (ha : a < 16) (hb : b < 16) (k : Nat) (hk : 5 ≤ k) : rotaref06_bits.f k ⟨#[97, 98]⟩ o a b c m = some (bit1 (bit1 0 a) b) := by
  obtain ⟨k, rfl⟩ : ∃ m, k = m + 3 := ⟨k - 3, by omega⟩
  unfold rotaref06_bits.f
  rw [rotaref06_bits.l0, if_pos (by decide), if_pos (by decide), if_neg (by decide), if_pos (by decide), wrap_u64 ha, if_pos (by omega)]
  rw [show wrap64 (0 + 1) = 1 from by unfold wrap64; omega]
  rw [rotaref06_bits.l0, if_pos (by decide), if_pos (by decide), if_neg (by decide), if_neg (by decide), if_pos (by decide), wrap_u64 hb, if_pos (by omega)]
  rw [show wrap64 (1 + 1) = 2 from by unfold wrap64; omega, rotaref06_bits.l0, if_neg (by decide)]
  rfl
theorem one_all : ((List.range 16).all fun a => !bitZero (bit1 0 a) a) = true := by kernel_rfl
theorem two_all : ((List.range 16).all fun a => (List.range 16).all fun b => !bitZero (bit1 (bit1 0 a) b) a && !bitZero (bit1 (bit1 0 a) b) b) = true := by kernel_rfl
theorem star_all : ((List.range 16).all fun a => !bitZero 65535 a) = true := by kernel_rfl
theorem one_at {a : Nat} (h : a < 16) : bitZero (bit1 0 a) a = false := by simpa using List.all_eq_true.1 one_all a (List.mem_range.2 h)
theorem star_at {a : Nat} (h : a < 16) : bitZero 65535 a = false := by simpa using List.all_eq_true.1 star_all a (List.mem_range.2 h)
theorem two_at {a b : Nat} (h : a < 16) (h' : b < 16) : bitZero (bit1 (bit1 0 a) b) a = false ∧ bitZero (bit1 (bit1 0 a) b) b = false := by
  have := List.all_eq_true.1 (List.all_eq_true.1 two_all a (List.mem_range.2 h)) b (List.mem_range.2 h')
  simpa using this
/-- The letters of what an operation writes. -/
def letters (j : Nat) : List UInt8 := (Q.star (Hfind.rowAt j).2.2.2.2).data.toList
theorem letters_all : ((List.range 58).all fun j => letters j == [] || letters j == [42] || letters j == [97] || letters j == [99] || letters j == [97, 98]) = true := by kernel_rfl
/-- The mask, and which registers it bears. -/
theorem mask_at (j : Nat) (hj : j < 58) (a b c : Nat) (m : Int) (ha : a < 16) (hb : b < 16) (hc : c < 16) (hf : Hfits.fitsB a b c m (Hfind.rowAt j).2.1 = true) :
    ∃ mask : Int, 0 ≤ mask ∧ mask < 65536 ∧ (∀ k, 5 ≤ k → rotaref06_Writes.f k ((j : Int) + 1) a b c m = some (mask, 0)) ∧ (42 ∈ letters j ∨ 97 ∈ letters j → bitZero mask a = false) ∧ (42 ∈ letters j ∨ 98 ∈ letters j → bitZero mask b = false) ∧ (42 ∈ letters j ∨ 99 ∈ letters j → bitZero mask c = false) := by
  have hw : ∀ (k : Nat) (mask : Int), rotaref06_bits.f k (Q.star (Hfind.rowAt j).2.2.2.2) ((j : Int) + 1) a b c m = some mask → rotaref06_Writes.f k ((j : Int) + 1) a b c m = some (mask, 0) := fun k mask h => by
    unfold rotaref06_Writes.f
    rw [Q.ref_check j hj, if_pos hf, Q.table_in j hj]
    simp only [Option.bind_some, if_true]
    rw [h]
    rfl
  have hb1 : ∀ x : Nat, x < 16 → 0 ≤ bit1 0 x ∧ bit1 0 x < 65536 := fun x hx => by
    have : ((List.range 16).all fun a => decide (0 ≤ bit1 0 a ∧ bit1 0 a < 65536)) = true := by kernel_rfl
    simpa using List.all_eq_true.1 this x (List.mem_range.2 hx)
  have hb2 : ∀ x y : Nat, x < 16 → y < 16 → 0 ≤ bit1 (bit1 0 x) y ∧ bit1 (bit1 0 x) y < 65536 := fun x y hx hy => by
    have : ((List.range 16).all fun a => (List.range 16).all fun b => decide (0 ≤ bit1 (bit1 0 a) b ∧ bit1 (bit1 0 a) b < 65536)) = true := by kernel_rfl
    simpa using List.all_eq_true.1 (List.all_eq_true.1 this x (List.mem_range.2 hx)) y (List.mem_range.2 hy)
  have hl := List.all_eq_true.1 letters_all j (List.mem_range.2 hj)
  simp only [Bool.or_eq_true, beq_iff_eq] at hl
  have hs : ∀ l : Array UInt8, letters j = l.toList → Q.star (Hfind.rowAt j).2.2.2.2 = ⟨l⟩ := fun l h => ByteArray.ext (Array.toList_inj.1 h)
  rcases hl with (((h | h) | h) | h) | h
  · refine ⟨0, by decide, by decide, fun k hk => hw k _ (by rw [hs #[] h]; exact bits_none _ _ _ _ _ k hk), ?_, ?_, ?_⟩ <;> rw [h] <;> simp
  · exact ⟨65535, by decide, by decide, fun k hk => hw k _ (by rw [hs #[42] h]; exact bits_star _ _ _ _ _ k hk), fun _ => star_at ha, fun _ => star_at hb, fun _ => star_at hc⟩
  · refine ⟨bit1 0 a, (hb1 a ha).1, (hb1 a ha).2, fun k hk => hw k _ (by rw [hs #[97] h]; exact bits_a _ _ a b c ha k hk), fun _ => one_at ha, ?_, ?_⟩ <;> rw [h] <;> simp
  · refine ⟨bit1 0 c, (hb1 c hc).1, (hb1 c hc).2, fun k hk => hw k _ (by rw [hs #[99] h]; exact bits_c _ _ a b c hc k hk), ?_, ?_, fun _ => one_at hc⟩ <;> rw [h] <;> simp
  · refine ⟨bit1 (bit1 0 a) b, (hb2 a b ha hb).1, (hb2 a b ha hb).2, fun k hk => hw k _ (by rw [hs #[97, 98] h]; exact bits_ab _ _ a b c ha hb k hk), fun _ => (two_at ha hb).1, fun _ => (two_at ha hb).2, ?_⟩
    rw [h]; simp
end Go.Proofs.Ythjfmlehkcccfaa.Qwr
end

section
/-
  A step and its answer change the registers that the mask tells, and no others (plain).
-/
set_option linter.unusedVariables false
set_option linter.unusedSimpArgs false
namespace Go.Proofs.Ythjfmlehkcccfaa.Qwr
open Go.RowKit Go.Proofs.YthjfmlehkcccfaaW.PrintWords Go.Proofs.YthjfmlehkcccfaaW.PrintLast Go.Proofs.YthjfmlehkcccfaaW.PrintMore GA Hctx Hsmall Qstep Hans
def opsA : List Nat := [2, 3, 4, 5, 6, 7, 8, 9, 10, 11, 12, 13, 14, 15, 16, 25, 26, 22, 28, 32, 33, 34, 47, 49, 50, 55, 56, 57, 30, 51, 54]
def opsB : List Nat := [30, 51, 54]
def opsC : List Nat := [53]
theorem opsA_all : (opsA.all fun k => decide (k ≤ 58) && decide (1 ≤ k) && (letters (k - 1)).any fun x => x == 42 || x == 97) = true := by kernel_rfl
theorem opsB_all : (opsB.all fun k => decide (k ≤ 58) && decide (1 ≤ k) && (letters (k - 1)).any fun x => x == 42 || x == 98) = true := by kernel_rfl
theorem opsC_all : (opsC.all fun k => decide (k ≤ 58) && decide (1 ≤ k) && (letters (k - 1)).any fun x => x == 42 || x == 99) = true := by kernel_rfl
theorem any_mem {l : List UInt8} {y : UInt8} (h : (l.any fun x => x == 42 || x == y) = true) : 42 ∈ l ∨ y ∈ l := by
  obtain ⟨x, hx, h⟩ := List.any_eq_true.1 h
  simp only [Bool.or_eq_true, beq_iff_eq] at h
  rcases h with rfl | rfl
  · exact .inl hx
  · exact .inr hx
theorem and15n {a : Nat} (h : a < 16) : (Go.bits .and .i64 (a : Int) 15).toNat = a := by
  have : ((List.range 16).all fun a => (Go.bits .and .i64 (a : Int) 15).toNat == a) = true := by kernel_rfl
  simpa using List.all_eq_true.1 this a (List.mem_range.2 h)
/-- What is to be shown of an outcome: with a trap nothing has changed; else what the mask does not tell is as it was, behind an answer too. -/
def WOk (pc : Int) (r : Regs) (l : List Int) (mask : Int) (o : Out) : Prop :=
  ∃ q1 q2 q3 q4 q5 q6 q7 q8 q9 q10 q11 : Int, o.want = wantC q1 q2 q3 q4 q5 q6 q7 q8 q9 q10 q11 ∧ (q1 = 58 → o.pc = pc ∧ o.r = r ∧ o.calls = l) ∧
    (q1 ≠ 58 → ∀ i, i < 16 → bitZero mask i = true → o.r.get i = r.get i ∧ (ansR q2 q3 q4 q5 11 12 o.r).get i = r.get i)
section
variable {pc : Int} {r : Regs} {l : List Int} {mask : Int}
theorem wok_ite {c : Prop} [Decidable c] {x y : Out} (hx : c → WOk pc r l mask x) (hy : ¬ c → WOk pc r l mask y) : WOk pc r l mask (if c then x else y) := by
  split
  · exact hx ‹_›
  · exact hy ‹_›
theorem wok_trap (t k : Int) : WOk pc r l mask ⟨pc, r, l, wantC 58 0 0 0 0 0 0 0 0 t k⟩ := ⟨_, _, _, _, _, _, _, _, _, _, _, rfl, fun _ => ⟨rfl, rfl, rfl⟩, fun h => absurd rfl h⟩
theorem wok_keep (pc' : Int) (l' : List Int) (q : Int) (hq : q ≠ 58) : WOk pc r l mask ⟨pc', r, l', wantC q 0 0 0 0 0 0 0 0 0 0⟩ :=
  ⟨_, _, _, _, _, _, _, _, _, _, _, rfl, fun h => absurd h hq, fun _ i _ _ => ⟨rfl, by simp [ansR]⟩⟩
theorem get_far {a i : Nat} (ha : a < 16) (hi : i < 16) (hA : bitZero mask a = false) (hz : bitZero mask i = true) (v : Int) (s : Regs) : (s.set a v).get i = s.get i := by
  rw [get_set s a i ha hi, if_neg]
  rintro rfl
  rw [hA] at hz
  cases hz
theorem wok_set {a : Nat} (ha : a < 16) (hA : bitZero mask a = false) (pc' : Int) (l' : List Int) (v : Int) : WOk pc r l mask ⟨pc', r.set a v, l', want0⟩ :=
  ⟨_, _, _, _, _, _, _, _, _, _, _, rfl, fun h => absurd h (by decide), fun _ i hi hz => ⟨get_far ha hi hA hz v r, by
    rw [show ansR 0 0 0 0 11 12 (r.set a v) = r.set a v from by simp [ansR]]
    exact get_far ha hi hA hz v r⟩⟩
theorem wok_asks {a b c : Nat} (ha : a < 16) (hb : b < 16) (hc : c < 16) (op : Int) (ho : op ≠ 58) (hA : ∀ k : Nat, op = k → k ∈ opsA → bitZero mask a = false) (hB : ∀ k : Nat, op = k → k ∈ opsB → bitZero mask b = false) (hC : ∀ k : Nat, op = k → k ∈ opsC → bitZero mask c = false)
    (pc' : Int) (l' : List Int) (m x y z : Int) : WOk pc r l mask ⟨pc', r, l', wantC op op a b c m x y z 0 0⟩ := by
  refine ⟨_, _, _, _, _, _, _, _, _, _, _, rfl, fun h => absurd h ho, fun _ i hi hz => ⟨rfl, ?_⟩⟩
  unfold ansR
  rw [and15n ha, and15n hb, and15n hc]
  split
  · rename_i h
    have hA' : bitZero mask a = false := by
      rcases h with h | h | h | h | h | h | h | h | h | h | h
      · exact hA 22 h (by decide)
      · exact hA 28 h (by decide)
      · exact hA 32 h (by decide)
      · exact hA 33 h (by decide)
      · exact hA 34 h (by decide)
      · exact hA 47 h (by decide)
      · exact hA 49 h (by decide)
      · exact hA 50 h (by decide)
      · exact hA 55 h (by decide)
      · exact hA 56 h (by decide)
      · exact hA 57 h (by decide)
    exact get_far ha hi hA' hz _ _
  · split
    · rename_i _ h
      have hA' : bitZero mask a = false := by
        rcases h with h | h | h
        · exact hA 30 h (by decide)
        · exact hA 51 h (by decide)
        · exact hA 54 h (by decide)
      have hB' : bitZero mask b = false := by
        rcases h with h | h | h
        · exact hB 30 h (by decide)
        · exact hB 51 h (by decide)
        · exact hB 54 h (by decide)
      rw [get_far hb hi hB' hz, get_far ha hi hA' hz]
    · split
      · rename_i _ _ h
        exact get_far hc hi (hC 53 h (by decide)) hz _ _
      · rfl
theorem reck_true {op y z v : Int} (h : step_reckoned.f op y z = some (v, true)) : ∃ k : Nat, op = k ∧ k ∈ opsA := by
  unfold step_reckoned.f at h
  by_cases h1 : op = 5; · exact ⟨5, h1, by decide⟩
  by_cases h2 : op = 6; · exact ⟨6, h2, by decide⟩
  by_cases h3 : op = 7; · exact ⟨7, h3, by decide⟩
  by_cases h4 : op = 10; · exact ⟨10, h4, by decide⟩
  by_cases h5 : op = 11; · exact ⟨11, h5, by decide⟩
  by_cases h6 : op = 12; · exact ⟨12, h6, by decide⟩
  by_cases h7 : op = 13; · exact ⟨13, h7, by decide⟩
  by_cases h8 : op = 14; · exact ⟨14, h8, by decide⟩
  by_cases h9 : op = 15; · exact ⟨15, h9, by decide⟩
  by_cases h10 : op = 16; · exact ⟨16, h10, by decide⟩
  simp [h1, h2, h3, h4, h5, h6, h7, h8, h9, h10] at h
theorem stepO_writes (fl : List S75) (clk slot gen : Int) (ok : Bool) (op : Int) (a b c : Nat) (m : Int) (ha : a < 16) (hb : b < 16) (hc : c < 16)
    (hA : ∀ k : Nat, op = k → k ∈ opsA → bitZero mask a = false) (hB : ∀ k : Nat, op = k → k ∈ opsB → bitZero mask b = false) (hC : ∀ k : Nat, op = k → k ∈ opsC → bitZero mask c = false) :
    WOk pc r l mask (stepO fl pc r l clk slot gen ok op a b c m) := by
  unfold stepO
  dsimp only
  repeat' first
    | exact wok_trap _ _
    | exact wok_keep _ _ 0 (by decide)
    | exact wok_keep _ _ 24 (by decide)
    | exact wok_keep _ _ 23 (by decide)
    | (with_reducible refine wok_ite (fun _ => ?_) (fun _ => ?_))
  all_goals first
    | exact wok_set ha (hA 2 (by assumption) (by decide)) _ _ _
    | exact wok_set ha (hA 3 (by assumption) (by decide)) _ _ _
    | exact wok_set ha (hA 4 (by assumption) (by decide)) _ _ _
    | exact wok_set ha (hA 8 (by assumption) (by decide)) _ _ _
    | exact wok_set ha (hA 9 (by assumption) (by decide)) _ _ _
    | exact wok_set ha (hA 25 (by assumption) (by decide)) _ _ _
    | exact wok_set ha (hA 26 (by assumption) (by decide)) _ _ _
    | skip
  split
  · rename_i v h
    obtain ⟨k, hk, hm⟩ := reck_true h
    exact wok_set ha (hA k hk hm) _ _ _
  · exact wok_asks ha hb hc op (by assumption) hA hB hC _ _ _ _ _ _
end
end Go.Proofs.Ythjfmlehkcccfaa.Qwr
end

section
/-
  What a step comes to, with what the mask of its instruction tells (plain).
-/
set_option linter.unusedVariables false
set_option linter.unusedSimpArgs false
namespace Go.Proofs.Ythjfmlehkcccfaa.Qwr
open Go.RowKit Go.Proofs.YthjfmlehkcccfaaW.PrintWords Go.Proofs.YthjfmlehkcccfaaW.PrintLast Go.Proofs.YthjfmlehkcccfaaW.PrintMore GA Hctx Hsmall Qstep Hans Hstep Qnext Hlaw3
theorem next_dec (l0 : List Int) (l1 : List S75) (l2 : List S98) (pc : Int) (r : Regs) (l : List Int) (hw : ∀ x ∈ l0, 0 ≤ x ∧ x < 4294967296) (op : Int) (a b c : Nat) (m : Int)
    (h : step_next.f l0 l1 l2 pc r.r0 r.r1 r.r2 r.r3 r.r4 r.r5 r.r6 r.r7 r.r8 r.r9 r.r10 r.r11 r.r12 r.r13 r.r14 r.r15 l = some (op, (a : Int), (b : Int), (c : Int), m, true)) :
    0 ≤ pc ∧ pc < l0.length ∧ ∃ j : Nat, j < 58 ∧ op = (j : Int) + 1 ∧ Hfits.fitsB a b c m (Hfind.rowAt j).2.1 = true ∧ rotaref06_Decode.f (rd l0 pc) = some (op, (a : Int), (b : Int), (c : Int), m, 0) := by
  unfold step_next.f at h
  by_cases h1 : pc < 0
  · rw [if_pos h1] at h; simp at h
  · by_cases h2 : pc ≥ (l0.length : Int)
    · rw [if_neg h1, if_pos h2] at h; simp at h
    · rw [if_neg h1, if_neg h2, if_pos (by omega), if_pos (by omega)] at h
      have hin : rd l0 pc ∈ l0 := by
        unfold rd
        rw [List.getD_eq_getElem?_getD, List.getElem?_eq_getElem (by omega)]
        exact List.getElem_mem _
      obtain ⟨b0, b1⟩ := hw _ hin
      generalize rd l0 pc = x at *
      rw [Pure.ref_decode x b0 b1]
      obtain ⟨⟨t1, t2, t3, t4, t5, t6⟩, hd, h⟩ := Option.bind_eq_some_iff.1 h
      simp only [Option.some.injEq, Prod.mk.injEq, beq_iff_eq] at h
      obtain ⟨rfl, rfl, rfl, rfl, rfl, rfl⟩ := h
      refine ⟨by omega, by omega, ?_⟩
      rcases Q.in_or (x / 16777216) with ⟨j, hj, ho⟩ | hn
      · rw [Q.word_decode j hj x b0 b1 ho] at hd
        by_cases hf : Hfits.fitsB (Q.dA x) (Q.dB x) (Q.dC x (Hfind.rowAt j).2.1) (Q.dM x (Hfind.rowAt j).2.1) (Hfind.rowAt j).2.1 = true
        · rw [if_pos hf] at hd
          simp only [Option.some.injEq, Prod.mk.injEq] at hd
          obtain ⟨e1, e2, e3, e4, e5, _⟩ := hd
          refine ⟨j, hj, e1.symm, ?_, ?_⟩
          · rw [← e2, ← e3, ← e4, ← e5]; exact hf
          · rw [Q.word_decode j hj x b0 b1 ho, if_pos hf, e1, e2, e3, e4, e5]
        · rw [if_neg hf] at hd
          simp at hd
      · rw [Q.decode_else x b0 b1 hn] at hd
        simp at hd
/-- A step, and what it leaves as it was. -/
theorem step_writes (l0 : List Int) (l1 : List S75) (l2 : List S98) (pc : Int) (r : Regs) (l : List Int) (clk slot gen : Int) (hw : ∀ x ∈ l0, 0 ≤ x ∧ x < 4294967296) (hlim : l.length < 17592186044416) :
    ∃ (pc' : Int) (r' : Regs) (l' : List Int) (q1 q2 q3 q4 q5 q6 q7 q8 q9 q10 q11 : Int), l'.length < 17592186044416 ∧
      (∀ (A0 A1 A2 : Option Addr) (c0 c1 c2 : Nat) (A : Option Addr) (c : Nat) (w : World), Kd.C (Kd.int .u32) w A0 l0.length l0 → l0.length ≤ c0 → Kd.C k75 w A1 l1.length l1 → l1.length ≤ c1 → Kd.C k98 w A2 l2.length l2 → l2.length ≤ c2 → Kd.C (Kd.int .i64) w A l.length l → l.length ≤ c →
        Calls Try.prog 11 #[.agg (#[.slice A0 l0.length c0, .slice A1 l1.length c1, .slice A2 l2.length c2] : Array Value), .agg (ctx pc r (.slice A l.length c)), .agg #[.int .u64 clk, .int .i64 slot, .int .i64 gen]] w (Post w pc' r' l' (wantC q1 q2 q3 q4 q5 q6 q7 q8 q9 q10 q11))) ∧
      (q1 = 58 → pc' = pc ∧ r' = r ∧ l' = l) ∧
      (q1 ≠ 58 → 0 ≤ pc ∧ pc < l0.length ∧ ∃ (op : Int) (a b c : Nat) (m mask : Int), a < 16 ∧ b < 16 ∧ c < 16 ∧ 0 ≤ mask ∧ mask < 65536 ∧ rotaref06_Decode.f (rd l0 pc) = some (op, (a : Int), (b : Int), (c : Int), m, 0) ∧ (∀ k, 5 ≤ k → rotaref06_Writes.f k op a b c m = some (mask, 0)) ∧
        ∀ i, i < 16 → bitZero mask i = true → r'.get i = r.get i ∧ (ansR q2 q3 q4 q5 11 12 r').get i = r.get i) := by
  obtain ⟨op, a, b, c', m, ok, n1, n2, ha, hb, hc, hz, hy⟩ := next_both l0 l1 l2 pc r l hw
  have hcalls := fun A0 A1 A2 c0 c1 c2 A c w h0 k0 h1 k1 h2 k2 hl kl => p_step l0 l1 l2 A0 A1 A2 c0 c1 c2 pc r A c l clk slot gen w h0 k0 h1 k1 h2 k2 hl kl hlim op a b c' m ok n1 ha hb hc hz hy
  have hsh := stepO_calls l1 pc r l clk slot gen ok op a b c' m hlim
  cases ok with
  | false =>
    refine ⟨pc, r, l, 58, 0, 0, 0, 0, 0, 0, 0, 0, 1, 0, hlim, ?_, fun _ => ⟨rfl, rfl, rfl⟩, fun h => absurd rfl h⟩
    exact hcalls
  | true =>
    obtain ⟨e0, e1, j, hj, rfl, hf, hd⟩ := next_dec l0 l1 l2 pc r l hw op a b c' m n1
    obtain ⟨mask, m0, m1, hm, hA, hB, hC⟩ := mask_at j hj a b c' m ha hb hc hf
    have hAA : ∀ (L : List Nat) (y : UInt8) (P : Prop), (L.all fun k => decide (k ≤ 58) && decide (1 ≤ k) && (letters (k - 1)).any fun x => x == 42 || x == y) = true → (42 ∈ letters j ∨ y ∈ letters j → P) → ∀ k : Nat, (j : Int) + 1 = k → k ∈ L → P := fun L y P hall hp k hk hm => by
      have := List.all_eq_true.1 hall k hm
      simp only [Bool.and_eq_true] at this
      have hkj : k - 1 = j := by omega
      rw [hkj] at this
      exact hp (any_mem this.2)
    obtain ⟨q1, q2, q3, q4, q5, q6, q7, q8, q9, q10, q11, hq, g1, g2⟩ := stepO_writes (pc := pc) (r := r) (l := l) (mask := mask) l1 clk slot gen true ((j : Int) + 1) a b c' m ha hb hc (hAA opsA 97 _ opsA_all hA) (hAA opsB 98 _ opsB_all hB) (hAA opsC 99 _ opsC_all hC)
    refine ⟨_, _, _, q1, q2, q3, q4, q5, q6, q7, q8, q9, q10, q11, hsh, ?_, g1, fun h => ⟨e0, e1, _, a, b, c', m, mask, ha, hb, hc, m0, m1, hd, hm, g2 h⟩⟩
    rw [← hq]
    exact hcalls
end Go.Proofs.Ythjfmlehkcccfaa.Qwr
end
