import Derived.Test.YthjfmlehkcccfaaMSafe13
import Derived.Test.YthjfmlehkcccfaaMSafe14
import Derived.Test.YthjfmlehkcccfaaMSafe15
import Derived.Deep.QuietTactic
import Derived.BigQuiet
import Derived.Deep.MidRow
import Derived.Lib.Hide
import Derived.Outline
section
/-
  step.Step comes to what is told.
-/
set_option linter.unusedVariables false
set_option linter.unusedSimpArgs false
namespace Go.Proofs.Ythjfmlehkcccfaa.Hstepp
open Go.RowKit Go.Proofs.YthjfmlehkcccfaaW.PrintWords Go.Proofs.YthjfmlehkcccfaaW.PrintLast Go.Proofs.YthjfmlehkcccfaaW.PrintMore GA Hctx Hsmall Qstep Hs0 Hs1 Hs2
set_option maxHeartbeats 2000000 in
theorem p_step (l0 : List Int) (l1 : List S75) (l2 : List S98) (A0 A1 A2 : Option Addr) (c0 c1 c2 : Nat) (pc : Int) (r : Regs) (A : Option Addr) (c : Nat) (l : List Int) (clk slot gen : Int) (w : World)
    (h0 : Kd.C (Kd.int .u32) w A0 l0.length l0) (k0 : l0.length ≤ c0) (h1 : Kd.C k75 w A1 l1.length l1) (k1 : l1.length ≤ c1) (h2 : Kd.C k98 w A2 l2.length l2) (k2 : l2.length ≤ c2) (hl : Kd.C (Kd.int .i64) w A l.length l) (kl : l.length ≤ c) (hlim : l.length < 17592186044416)
    (op : Int) (a b c' : Nat) (m : Int) (ok : Bool) (hn : step_next.f l0 l1 l2 pc r.r0 r.r1 r.r2 r.r3 r.r4 r.r5 r.r6 r.r7 r.r8 r.r9 r.r10 r.r11 r.r12 r.r13 r.r14 r.r15 l = some (op, (a : Int), (b : Int), (c' : Int), m, ok)) (ha : a < 16) (hb : b < 16) (hc : c' < 16) (hz : ok = false → op = 0 ∧ a = 0 ∧ b = 0 ∧ c' = 0 ∧ m = 0) (hy : ok = true → 0 ≤ pc ∧ pc < l0.length ∧ 1 ≤ op ∧ op ≤ 58 ∧ (op ≠ 2 → 0 ≤ m)) :
    Calls Try.prog 11 #[.agg #[.slice A0 l0.length c0, .slice A1 l1.length c1, .slice A2 l2.length c2], .agg (ctx pc r (.slice A l.length c)), .agg #[.int .u64 clk, .int .i64 slot, .int .i64 gen]] w (Post w (stepO l1 pc r l clk slot gen ok op a b c' m).pc (stepO l1 pc r l clk slot gen ok op a b c' m).r (stepO l1 pc r l clk slot gen ok op a b c' m).calls (stepO l1 pc r l clk slot gen ok op a b c' m).want) := by
  cases ok with
  | false =>
    obtain ⟨rfl, rfl, rfl, rfl, rfl⟩ := hz rfl
    exact p_bad l0 l1 l2 A0 A1 A2 c0 c1 c2 pc r A c l clk slot gen w h0 k0 h1 k1 h2 k2 hl kl hlim hn
  | true =>
    obtain ⟨q1, q3, q4, q5, q6⟩ := hy rfl
    have q2 : pc < 9223372036854775807 := by have := Kd.C_max h0; omega
    clear hz hy
    by_cases g : op = 1 ∨ op = 2 ∨ op = 3 ∨ op = 4 ∨ op = 17 ∨ op = 18 ∨ op = 19
    · exact p_a l0 l1 l2 A0 A1 A2 c0 c1 c2 pc r A c l clk slot gen w h0 k0 h1 k1 h2 k2 hl kl hlim op a b c' m ha hb hc q1 q2 q6 g hn
    obtain ⟨o1, o2, o3, o4, o17, o18, o19⟩ : op ≠ 1 ∧ op ≠ 2 ∧ op ≠ 3 ∧ op ≠ 4 ∧ op ≠ 17 ∧ op ≠ 18 ∧ op ≠ 19 := by omega
    clear g
    by_cases g : op = 8 ∨ op = 9 ∨ op = 20 ∨ op = 21
    · exact p_b l0 l1 l2 A0 A1 A2 c0 c1 c2 pc r A c l clk slot gen w h0 k0 h1 k1 h2 k2 hl kl hlim op a b c' m ha hb hc q1 q2 q6 g hn
    obtain ⟨o8, o9, o20, o21⟩ : op ≠ 8 ∧ op ≠ 9 ∧ op ≠ 20 ∧ op ≠ 21 := by omega
    clear g
    by_cases g : op = 23 ∨ op = 24 ∨ op = 25 ∨ op = 26 ∨ op = 58
    · exact p_c l0 l1 l2 A0 A1 A2 c0 c1 c2 pc r A c l clk slot gen w h0 k0 h1 k1 h2 k2 hl kl hlim op a b c' m ha hb hc q1 q2 q6 g hn
    obtain ⟨o23, o24, o25, o26, o58⟩ : op ≠ 23 ∧ op ≠ 24 ∧ op ≠ 25 ∧ op ≠ 26 ∧ op ≠ 58 := by omega
    clear g
    obtain ⟨v, f, e1, e2, e3⟩ := reck op (r.get b) (r.get c')
    cases f with
    | true =>
      rw [show stepO l1 pc r l clk slot gen true op a b c' m = ⟨pc + 1, r.set a v, l, want0⟩ from by simp [stepO, o1, o2, o3, o4, o8, o9, o17, o18, o19, o20, o21, o23, o24, o25, o26, o58, e1]]
      exact p_plain l0 l1 l2 A0 A1 A2 c0 c1 c2 pc r A c l clk slot gen w h0 k0 h1 k1 h2 k2 hl kl hlim a b c' m ha hb hc q1 q2 op v (beq_eq_false_iff_ne.2 o1) (beq_eq_false_iff_ne.2 o2) (beq_eq_false_iff_ne.2 o3) (beq_eq_false_iff_ne.2 o4) (beq_eq_false_iff_ne.2 o8) (beq_eq_false_iff_ne.2 o9) (beq_eq_false_iff_ne.2 o17) (beq_eq_false_iff_ne.2 o18) (beq_eq_false_iff_ne.2 o19) (beq_eq_false_iff_ne.2 o20) (beq_eq_false_iff_ne.2 o21) (beq_eq_false_iff_ne.2 o23) (beq_eq_false_iff_ne.2 o24) (beq_eq_false_iff_ne.2 o25) (beq_eq_false_iff_ne.2 o26) (beq_eq_false_iff_ne.2 o58) e1 hn
    | false =>
      obtain rfl := e3 rfl
      rw [show stepO l1 pc r l clk slot gen true op a b c' m = ⟨pc + 1, r, l, wantC op op a b c' m (r.get a) (r.get b) (r.get c') 0 0⟩ from by simp [stepO, o1, o2, o3, o4, o8, o9, o17, o18, o19, o20, o21, o23, o24, o25, o26, o58, e1]]
      exact p_asks l0 l1 l2 A0 A1 A2 c0 c1 c2 pc r A c l clk slot gen w h0 k0 h1 k1 h2 k2 hl kl hlim a b c' m ha hb hc q1 q2 op 0 (beq_eq_false_iff_ne.2 o1) (beq_eq_false_iff_ne.2 o2) (beq_eq_false_iff_ne.2 o3) (beq_eq_false_iff_ne.2 o4) (beq_eq_false_iff_ne.2 o8) (beq_eq_false_iff_ne.2 o9) (beq_eq_false_iff_ne.2 o17) (beq_eq_false_iff_ne.2 o18) (beq_eq_false_iff_ne.2 o19) (beq_eq_false_iff_ne.2 o20) (beq_eq_false_iff_ne.2 o21) (beq_eq_false_iff_ne.2 o23) (beq_eq_false_iff_ne.2 o24) (beq_eq_false_iff_ne.2 o25) (beq_eq_false_iff_ne.2 o26) (beq_eq_false_iff_ne.2 o58) e1 hn
end Go.Proofs.Ythjfmlehkcccfaa.Hstepp
end
