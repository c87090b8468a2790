import Derived.Test.YthjfmlehkcccfaaMDoes2
import Derived.IntWalk
import Derived.Lib.Hide
import Derived.Test.YthjfmlehkcccfaaMDoes21
import Derived.Test.YthjfmlehkcccfaaWApart
import Derived.Test.YthjfmlehkcccfaaMDoes22
import Derived.Deep.QuietTactic
import Derived.BigQuiet
import Derived.Deep.MidRow
import Derived.Outline
import Derived.Test.YthjfmlehkcccfaaMDoes23
import Derived.Test.YthjfmlehkcccfaaRows
import Derived.WalkKit
import Derived.ProofKit
import Derived.OpenShut
import Derived.ShutString
import Derived.ChangeOld
import Derived.Below
import Derived.SizedLaws
import Derived.Lib.SmallJoins
section
/-
  Answer, both sides, walked.
-/
set_option linter.unusedVariables false
set_option linter.unusedSimpArgs false
namespace Go.Proofs.Ythjfmlehkcccfaa.Hans
open Go.RowKit Go.Proofs.YthjfmlehkcccfaaW.PrintWords Go.Proofs.YthjfmlehkcccfaaW.PrintLast Go.Proofs.YthjfmlehkcccfaaW.PrintMore GA Hctx Hsmall
theorem and15 (x : Int) : 0 ≤ Go.bits .and .i64 x 15 ∧ Go.bits .and .i64 x 15 < 16 := by
  have e : Go.bits .and .i64 x 15 = IntKind.i64.wrap ((BitVec.ofInt 64 x &&& BitVec.ofInt 64 15).toNat : Int) := rfl
  have h : (BitVec.ofInt 64 x &&& BitVec.ofInt 64 15).toNat ≤ 15 := by
    rw [BitVec.toNat_and]
    exact Nat.le_trans Nat.and_le_right (by decide)
  rw [e, IntWalk.i64_in _ (by omega)]
  omega
/-- The registers behind an answer. -/
def ansR (op a b c v ok : Int) (r : Regs) : Regs :=
  if op = 22 ∨ op = 28 ∨ op = 32 ∨ op = 33 ∨ op = 34 ∨ op = 47 ∨ op = 49 ∨ op = 50 ∨ op = 55 ∨ op = 56 ∨ op = 57 then r.set (Go.bits .and .i64 a 15).toNat v
  else if op = 30 ∨ op = 51 ∨ op = 54 then (r.set (Go.bits .and .i64 a 15).toNat v).set (Go.bits .and .i64 b 15).toNat ok
  else if op = 53 then r.set (Go.bits .and .i64 c 15).toNat v
  else r
set_option maxHeartbeats 2000000 in
set_option maxRecDepth 100000 in
theorem answer20 (op a b c' m v ok pc : Int) (r : Regs) (A : Option Addr) (c : Nat) (l : List Int) (w : World) (hl : Kd.C (Kd.int .i64) w A l.length l) (kl : l.length ≤ c) (hlim : l.length < 17592186044416) :
    Calls Try.prog 20 #[.agg (ctx pc r (.slice A l.length c)), .agg (instC op a b c' m), .int .i64 v, .int .i64 ok] w (PostC w pc (ansR op a b c' v ok r) l) := by
  have hu30 := Try.underlying30
  obtain ⟨fa0, fa1⟩ := and15 a
  have hna : (Go.bits .and .i64 a 15).toNat < 16 := by omega
  obtain ⟨fb0, fb1⟩ := and15 b
  have hnb : (Go.bits .and .i64 b 15).toNat < 16 := by omega
  obtain ⟨fc0, fc1⟩ := and15 c'
  have hnc : (Go.bits .and .i64 c' 15).toNat < 16 := by omega
  have HL := Aside0.mk hl
  clear hl
  have M0 := Aside0.mk (Mem.start [3] w)
  go_enter Try.func20, Try.ntmps20
  go_wp2_with (first
    | (refine eB M0 4 (ctx pc r (.slice A l.length c)) 30 ?_; clear M0; intro g4 w4 M1)
    | (refine eB M1 5 (instC op a b c' m) 37 ?_; clear M1; intro g5 w5 M2)
    | (refine eB M2 8 (ctx 0 zeroR (.slice none 0 0)) 30 ?_; clear M2; intro g8 w8 M3)
    | (refine eC M3 10 0 17 (.slice A l.length c) ?_))
  refine (Hclone.clone_calls A c l _ (Kd.C_below HL.out M3.out.below) kl hlim).mono ?_
  rintro e W11 ⟨v11, rfl, hR, hb⟩
  obtain ⟨A11, c11, rfl⟩ := Kd.R_slice hR
  have M4 := Aside0.mk (Mem.row M3.out hb hR)
  clear M3 hR hb
  by_cases hg : op = 22 ∨ op = 28 ∨ op = 32 ∨ op = 33 ∨ op = 34 ∨ op = 47 ∨ op = 49 ∨ op = 50 ∨ op = 55 ∨ op = 56 ∨ op = 57
  · rcases hg with rfl | rfl | rfl | rfl | rfl | rfl | rfl | rfl | rfl | rfl | rfl
    all_goals
      go_wp2_with (first
        | (refine eS M4 28 12 0 17 (.slice A11 l.length c11) (ctx pc r (.slice A11 l.length c11)) ?_; clear M4; intro w_ M5)
        | (refine eC M5 14 1 0 (.int .i64 _) ?_)
        | (refine eC M5 28 1 1 (.int .i64 a) ?_)
        | (refine eS M5 2 32 0 (1 + (Go.bits .and .i64 a 15).toNat) (.int .i64 v) (ctx pc (r.set (Go.bits .and .i64 a 15).toNat v) (.slice A11 l.length c11)) (hj := ctx_some _ _ _ _ hna) (hnew := ctx_setreg _ _ _ _ hna _) ?_; clear M5; intro w_ M6)
        | (refine eL M6 57 0 hu30 ?_)
        | (refine eR M6 30 8 2 (ctx pc (r.set (Go.bits .and .i64 a 15).toNat v) (.slice A11 l.length c11)) ?_; clear M6; intro w_ M7))
      refine bodyPost_ret (results_cell_row rfl _ _ g8 30 (ctx pc (r.set (Go.bits .and .i64 a 15).toNat v) (.slice A11 l.length c11)) (0, 0) _ rfl (M7.out.at 2 rfl) hu30 rfl (by kernel_rfl)) rfl ⟨_, rfl, M7.out.own, M7.out.below⟩
  obtain ⟨n22, n28, n32, n33, n34, n47, n49, n50, n55, n56, n57⟩ : op ≠ 22 ∧ op ≠ 28 ∧ op ≠ 32 ∧ op ≠ 33 ∧ op ≠ 34 ∧ op ≠ 47 ∧ op ≠ 49 ∧ op ≠ 50 ∧ op ≠ 55 ∧ op ≠ 56 ∧ op ≠ 57 := by omega
  clear hg
  by_cases hg : op = 30 ∨ op = 51 ∨ op = 54
  · rcases hg with rfl | rfl | rfl
    all_goals
      go_wp2_with (first
        | (refine eS M4 28 12 0 17 (.slice A11 l.length c11) (ctx pc r (.slice A11 l.length c11)) ?_; clear M4; intro w_ M5)
        | (refine eC M5 14 1 0 (.int .i64 _) ?_)
        | (refine eC M5 38 1 1 (.int .i64 a) ?_)
        | (refine eS M5 2 42 0 (1 + (Go.bits .and .i64 a 15).toNat) (.int .i64 v) (ctx pc (r.set (Go.bits .and .i64 a 15).toNat v) (.slice A11 l.length c11)) (hj := ctx_some _ _ _ _ hna) (hnew := ctx_setreg _ _ _ _ hna _) ?_; clear M5; intro w_ M6)
        | (refine eC M6 44 1 2 (.int .i64 b) ?_)
        | (refine eS M6 2 48 0 (1 + (Go.bits .and .i64 b 15).toNat) (.int .i64 ok) (ctx pc ((r.set (Go.bits .and .i64 a 15).toNat v).set (Go.bits .and .i64 b 15).toNat ok) (.slice A11 l.length c11)) (hj := ctx_some _ _ _ _ hnb) (hnew := ctx_setreg _ _ _ _ hnb _) ?_; clear M6; intro w_ M7)
        | (refine eL M7 57 0 hu30 ?_)
        | (refine eR M7 30 8 2 (ctx pc ((r.set (Go.bits .and .i64 a 15).toNat v).set (Go.bits .and .i64 b 15).toNat ok) (.slice A11 l.length c11)) ?_; clear M7; intro w_ M8))
      refine bodyPost_ret (results_cell_row rfl _ _ g8 30 (ctx pc ((r.set (Go.bits .and .i64 a 15).toNat v).set (Go.bits .and .i64 b 15).toNat ok) (.slice A11 l.length c11)) (0, 0) _ rfl (M8.out.at 2 rfl) hu30 rfl (by kernel_rfl)) rfl ⟨_, rfl, M8.out.own, M8.out.below⟩
  obtain ⟨n30, n51, n54⟩ : op ≠ 30 ∧ op ≠ 51 ∧ op ≠ 54 := by omega
  clear hg
  by_cases hg : op = 53
  · rcases hg with rfl
    all_goals
      go_wp2_with (first
        | (refine eS M4 28 12 0 17 (.slice A11 l.length c11) (ctx pc r (.slice A11 l.length c11)) ?_; clear M4; intro w_ M5)
        | (refine eC M5 14 1 0 (.int .i64 _) ?_)
        | (refine eC M5 52 1 3 (.int .i64 c') ?_)
        | (refine eS M5 2 56 0 (1 + (Go.bits .and .i64 c' 15).toNat) (.int .i64 v) (ctx pc (r.set (Go.bits .and .i64 c' 15).toNat v) (.slice A11 l.length c11)) (hj := ctx_some _ _ _ _ hnc) (hnew := ctx_setreg _ _ _ _ hnc _) ?_; clear M5; intro w_ M6)
        | (refine eL M6 57 0 hu30 ?_)
        | (refine eR M6 30 8 2 (ctx pc (r.set (Go.bits .and .i64 c' 15).toNat v) (.slice A11 l.length c11)) ?_; clear M6; intro w_ M7))
      refine bodyPost_ret (results_cell_row rfl _ _ g8 30 (ctx pc (r.set (Go.bits .and .i64 c' 15).toNat v) (.slice A11 l.length c11)) (0, 0) _ rfl (M7.out.at 2 rfl) hu30 rfl (by kernel_rfl)) rfl ⟨_, rfl, M7.out.own, M7.out.below⟩
  have n53 := hg
  clear hg
  have hR0 : ansR op a b c' v ok r = r := by simp [ansR, n22, n28, n32, n33, n34, n47, n49, n50, n55, n56, n57, n30, n51, n54, n53]
  have HR0 := Lib.hid hR0
  clear hR0
  replace n22 := beq_eq_false_iff_ne.2 n22
  replace n28 := beq_eq_false_iff_ne.2 n28
  replace n32 := beq_eq_false_iff_ne.2 n32
  replace n33 := beq_eq_false_iff_ne.2 n33
  replace n34 := beq_eq_false_iff_ne.2 n34
  replace n47 := beq_eq_false_iff_ne.2 n47
  replace n49 := beq_eq_false_iff_ne.2 n49
  replace n50 := beq_eq_false_iff_ne.2 n50
  replace n55 := beq_eq_false_iff_ne.2 n55
  replace n56 := beq_eq_false_iff_ne.2 n56
  replace n57 := beq_eq_false_iff_ne.2 n57
  replace n30 := beq_eq_false_iff_ne.2 n30
  replace n51 := beq_eq_false_iff_ne.2 n51
  replace n54 := beq_eq_false_iff_ne.2 n54
  replace n53 := beq_eq_false_iff_ne.2 n53
  go_wp2_with (first
    | (refine eS M4 28 12 0 17 (.slice A11 l.length c11) (ctx pc r (.slice A11 l.length c11)) ?_; clear M4; intro w_ M5)
    | (refine eC M5 14 1 0 (.int .i64 op) ?_)
    | (refine eL M5 57 0 hu30 ?_)
    | (refine eR M5 30 8 2 (ctx pc r (.slice A11 l.length c11)) ?_; clear M5; intro w_ M6))
  rw [HR0.out]
  refine bodyPost_ret (results_cell_row rfl _ _ g8 30 (ctx pc r (.slice A11 l.length c11)) (0, 0) _ rfl (M6.out.at 2 rfl) hu30 rfl (by kernel_rfl)) rfl ⟨_, rfl, M6.out.own, M6.out.below⟩
set_option maxHeartbeats 2000000 in
set_option maxRecDepth 100000 in
theorem answer21 (op a b c' m v ok pc : Int) (r : Regs) (A : Option Addr) (c : Nat) (l : List Int) (w : World) (hl : Kd.C (Kd.int .i64) w A l.length l) (kl : l.length ≤ c) (hlim : l.length < 17592186044416) :
    Calls Try.prog 21 #[.agg (ctx pc r (.slice A l.length c)), .agg (instC op a b c' m), .int .i64 v, .int .i64 ok] w (PostC w pc (ansR op a b c' v ok r) l) := by
  have hu30 := Try.underlying30
  obtain ⟨fa0, fa1⟩ := and15 a
  have hna : (Go.bits .and .i64 a 15).toNat < 16 := by omega
  obtain ⟨fb0, fb1⟩ := and15 b
  have hnb : (Go.bits .and .i64 b 15).toNat < 16 := by omega
  obtain ⟨fc0, fc1⟩ := and15 c'
  have hnc : (Go.bits .and .i64 c' 15).toNat < 16 := by omega
  have HL := Aside0.mk hl
  clear hl
  have M0 := Aside0.mk (Mem.start [3] w)
  go_enter Try.func21, Try.ntmps21
  go_wp2_with (first
    | (refine eB M0 4 (ctx pc r (.slice A l.length c)) 30 ?_; clear M0; intro g4 w4 M1)
    | (refine eB M1 5 (instC op a b c' m) 37 ?_; clear M1; intro g5 w5 M2)
    | (refine eB M2 8 (ctx 0 zeroR (.slice none 0 0)) 30 ?_; clear M2; intro g8 w8 M3)
    | (refine eC M3 10 0 17 (.slice A l.length c) ?_))
  refine (rotaref09_calls_copy A c l _ (Kd.C_below HL.out M3.out.below) kl hlim).mono ?_
  rintro e W11 ⟨v11, rfl, hR, hb⟩
  obtain ⟨A11, c11, rfl⟩ := Kd.R_slice hR
  have M4 := Aside0.mk (Mem.row M3.out hb hR)
  clear M3 hR hb
  by_cases hg : op = 22 ∨ op = 28 ∨ op = 32 ∨ op = 33 ∨ op = 34 ∨ op = 47 ∨ op = 49 ∨ op = 50 ∨ op = 55 ∨ op = 56 ∨ op = 57
  · rcases hg with rfl | rfl | rfl | rfl | rfl | rfl | rfl | rfl | rfl | rfl | rfl
    all_goals
      go_wp2_with (first
        | (refine eS M4 28 12 0 17 (.slice A11 l.length c11) (ctx pc r (.slice A11 l.length c11)) ?_; clear M4; intro w_ M5)
        | (refine eC M5 14 1 0 (.int .i64 _) ?_)
        | (refine eC M5 28 1 1 (.int .i64 a) ?_)
        | (refine eS M5 2 32 0 (1 + (Go.bits .and .i64 a 15).toNat) (.int .i64 v) (ctx pc (r.set (Go.bits .and .i64 a 15).toNat v) (.slice A11 l.length c11)) (hj := ctx_some _ _ _ _ hna) (hnew := ctx_setreg _ _ _ _ hna _) ?_; clear M5; intro w_ M6)
        | (refine eL M6 57 0 hu30 ?_)
        | (refine eR M6 30 8 2 (ctx pc (r.set (Go.bits .and .i64 a 15).toNat v) (.slice A11 l.length c11)) ?_; clear M6; intro w_ M7))
      refine bodyPost_ret (results_cell_row rfl _ _ g8 30 (ctx pc (r.set (Go.bits .and .i64 a 15).toNat v) (.slice A11 l.length c11)) (0, 0) _ rfl (M7.out.at 2 rfl) hu30 rfl (by kernel_rfl)) rfl ⟨_, rfl, M7.out.own, M7.out.below⟩
  obtain ⟨n22, n28, n32, n33, n34, n47, n49, n50, n55, n56, n57⟩ : op ≠ 22 ∧ op ≠ 28 ∧ op ≠ 32 ∧ op ≠ 33 ∧ op ≠ 34 ∧ op ≠ 47 ∧ op ≠ 49 ∧ op ≠ 50 ∧ op ≠ 55 ∧ op ≠ 56 ∧ op ≠ 57 := by omega
  clear hg
  by_cases hg : op = 30 ∨ op = 51 ∨ op = 54
  · rcases hg with rfl | rfl | rfl
    all_goals
      go_wp2_with (first
        | (refine eS M4 28 12 0 17 (.slice A11 l.length c11) (ctx pc r (.slice A11 l.length c11)) ?_; clear M4; intro w_ M5)
        | (refine eC M5 14 1 0 (.int .i64 _) ?_)
        | (refine eC M5 38 1 1 (.int .i64 a) ?_)
        | (refine eS M5 2 42 0 (1 + (Go.bits .and .i64 a 15).toNat) (.int .i64 v) (ctx pc (r.set (Go.bits .and .i64 a 15).toNat v) (.slice A11 l.length c11)) (hj := ctx_some _ _ _ _ hna) (hnew := ctx_setreg _ _ _ _ hna _) ?_; clear M5; intro w_ M6)
        | (refine eC M6 44 1 2 (.int .i64 b) ?_)
        | (refine eS M6 2 48 0 (1 + (Go.bits .and .i64 b 15).toNat) (.int .i64 ok) (ctx pc ((r.set (Go.bits .and .i64 a 15).toNat v).set (Go.bits .and .i64 b 15).toNat ok) (.slice A11 l.length c11)) (hj := ctx_some _ _ _ _ hnb) (hnew := ctx_setreg _ _ _ _ hnb _) ?_; clear M6; intro w_ M7)
        | (refine eL M7 57 0 hu30 ?_)
        | (refine eR M7 30 8 2 (ctx pc ((r.set (Go.bits .and .i64 a 15).toNat v).set (Go.bits .and .i64 b 15).toNat ok) (.slice A11 l.length c11)) ?_; clear M7; intro w_ M8))
      refine bodyPost_ret (results_cell_row rfl _ _ g8 30 (ctx pc ((r.set (Go.bits .and .i64 a 15).toNat v).set (Go.bits .and .i64 b 15).toNat ok) (.slice A11 l.length c11)) (0, 0) _ rfl (M8.out.at 2 rfl) hu30 rfl (by kernel_rfl)) rfl ⟨_, rfl, M8.out.own, M8.out.below⟩
  obtain ⟨n30, n51, n54⟩ : op ≠ 30 ∧ op ≠ 51 ∧ op ≠ 54 := by omega
  clear hg
  by_cases hg : op = 53
  · rcases hg with rfl
    all_goals
      go_wp2_with (first
        | (refine eS M4 28 12 0 17 (.slice A11 l.length c11) (ctx pc r (.slice A11 l.length c11)) ?_; clear M4; intro w_ M5)
        | (refine eC M5 14 1 0 (.int .i64 _) ?_)
        | (refine eC M5 52 1 3 (.int .i64 c') ?_)
        | (refine eS M5 2 56 0 (1 + (Go.bits .and .i64 c' 15).toNat) (.int .i64 v) (ctx pc (r.set (Go.bits .and .i64 c' 15).toNat v) (.slice A11 l.length c11)) (hj := ctx_some _ _ _ _ hnc) (hnew := ctx_setreg _ _ _ _ hnc _) ?_; clear M5; intro w_ M6)
        | (refine eL M6 57 0 hu30 ?_)
        | (refine eR M6 30 8 2 (ctx pc (r.set (Go.bits .and .i64 c' 15).toNat v) (.slice A11 l.length c11)) ?_; clear M6; intro w_ M7))
      refine bodyPost_ret (results_cell_row rfl _ _ g8 30 (ctx pc (r.set (Go.bits .and .i64 c' 15).toNat v) (.slice A11 l.length c11)) (0, 0) _ rfl (M7.out.at 2 rfl) hu30 rfl (by kernel_rfl)) rfl ⟨_, rfl, M7.out.own, M7.out.below⟩
  have n53 := hg
  clear hg
  have hR0 : ansR op a b c' v ok r = r := by simp [ansR, n22, n28, n32, n33, n34, n47, n49, n50, n55, n56, n57, n30, n51, n54, n53]
  have HR0 := Lib.hid hR0
  clear hR0
  replace n22 := beq_eq_false_iff_ne.2 n22
  replace n28 := beq_eq_false_iff_ne.2 n28
  replace n32 := beq_eq_false_iff_ne.2 n32
  replace n33 := beq_eq_false_iff_ne.2 n33
  replace n34 := beq_eq_false_iff_ne.2 n34
  replace n47 := beq_eq_false_iff_ne.2 n47
  replace n49 := beq_eq_false_iff_ne.2 n49
  replace n50 := beq_eq_false_iff_ne.2 n50
  replace n55 := beq_eq_false_iff_ne.2 n55
  replace n56 := beq_eq_false_iff_ne.2 n56
  replace n57 := beq_eq_false_iff_ne.2 n57
  replace n30 := beq_eq_false_iff_ne.2 n30
  replace n51 := beq_eq_false_iff_ne.2 n51
  replace n54 := beq_eq_false_iff_ne.2 n54
  replace n53 := beq_eq_false_iff_ne.2 n53
  go_wp2_with (first
    | (refine eS M4 28 12 0 17 (.slice A11 l.length c11) (ctx pc r (.slice A11 l.length c11)) ?_; clear M4; intro w_ M5)
    | (refine eC M5 14 1 0 (.int .i64 op) ?_)
    | (refine eL M5 57 0 hu30 ?_)
    | (refine eR M5 30 8 2 (ctx pc r (.slice A11 l.length c11)) ?_; clear M5; intro w_ M6))
  rw [HR0.out]
  refine bodyPost_ret (results_cell_row rfl _ _ g8 30 (ctx pc r (.slice A11 l.length c11)) (0, 0) _ rfl (M6.out.at 2 rfl) hu30 rfl (by kernel_rfl)) rfl ⟨_, rfl, M6.out.own, M6.out.below⟩
end Go.Proofs.Ythjfmlehkcccfaa.Hans
end

section
/-
  Events on rows of ints of a call's own: a literal made, an append, an element stored.
-/
set_option linter.unusedVariables false
set_option linter.unusedSimpArgs false
namespace Go.Proofs.Ythjfmlehkcccfaa.Hctx
open Go.RowKit Go.Proofs.YthjfmlehkcccfaaW.PrintWords Go.Proofs.YthjfmlehkcccfaaW.PrintLast Go.Proofs.YthjfmlehkcccfaaW.PrintMore
section
variable {P : Program} {ops : Array Oper} {rest : List Oper} {o : Oper} {a : Act} {Q : Exit → Act → World → Prop} {es : List TypeId} {w0 W W1 : World} {l : List (Nat × Array Value × TypeId)} {rows : List Row}
/-- A row of ints. -/
@[reducible] def ri (v : Value) (xs : List Int) : Row := ⟨Kd.int .i64, 3, v, xs⟩
/-- The rows in another order. -/
theorem Mem.rowsBy (M : Mem es w0 W l rows) (f g : Nat → Nat) {rows' : List Row} (hf : ∀ i, rows'[i]? = rows[f i]?) (hi : ∀ i j, (rows'[i]?).isSome = true → (rows'[j]?).isSome = true → f i = f j → i = j) (hg : ∀ j, (rows[j]?).isSome = true → f (g j) = j) : Mem es w0 W l rows' := by
  refine ⟨M.below, M.blk, M.apart, fun r hr => ?_, fun i r hr => ?_⟩
  · obtain ⟨i, hi'⟩ := List.mem_iff_getElem?.1 hr
    rw [hf i] at hi'
    exact M.typ r (List.mem_of_getElem? hi')
  · have hr' := hr
    rw [hf i] at hr'
    refine Kd.R_mono (M.owns (f i) r hr') (fun k hk j s hs hj => ?_)
    have hs' := hs
    rw [hf j] at hs'
    exact hk (f j) s hs' (fun he => hj (hi j i (by rw [hs]; rfl) (by rw [hr]; rfl) he))
theorem Mem.swap01 {r s : Row} (M : Mem es w0 W l (r :: s :: rows)) : Mem es w0 W l (s :: r :: rows) := by
  refine M.rowsBy (fun i => match i with | 0 => 1 | 1 => 0 | n + 2 => n + 2) (fun i => match i with | 0 => 1 | 1 => 0 | n + 2 => n + 2) (fun i => ?_) (fun i j _ _ h => ?_) (fun j _ => ?_)
  · match i with | 0 => rfl | 1 => rfl | n + 2 => rfl
  · match i, j, h with
    | 0, 0, _ => rfl
    | 1, 1, _ => rfl
    | n + 2, m + 2, h => exact h
    | 0, 1, h => simp at h
    | 1, 0, h => simp at h
    | 0, n + 2, h => simp at h
    | 1, n + 2, h => simp at h
    | n + 2, 0, h => simp at h
    | n + 2, 1, h => simp at h
  · match j with | 0 => rfl | 1 => rfl | n + 2 => rfl
theorem Mem.front2 {r s t : Row} (M : Mem es w0 W l (r :: s :: t :: rows)) : Mem es w0 W l (t :: r :: s :: rows) := by
  refine M.rowsBy (fun i => match i with | 0 => 2 | 1 => 0 | 2 => 1 | n + 3 => n + 3) (fun i => match i with | 0 => 1 | 1 => 2 | 2 => 0 | n + 3 => n + 3) (fun i => ?_) (fun i j _ _ h => ?_) (fun j _ => ?_)
  · match i with | 0 => rfl | 1 => rfl | 2 => rfl | n + 3 => rfl
  · match i, j, h with
    | 0, 0, _ => rfl
    | 1, 1, _ => rfl
    | 2, 2, _ => rfl
    | n + 3, m + 3, h => exact h
    | 0, 1, h => simp at h
    | 0, 2, h => simp at h
    | 1, 0, h => simp at h
    | 1, 2, h => simp at h
    | 2, 0, h => simp at h
    | 2, 1, h => simp at h
    | 0, n + 3, h => simp at h
    | 1, n + 3, h => simp at h
    | 2, n + 3, h => simp at h
    | n + 3, 0, h => simp at h
    | n + 3, 1, h => simp at h
    | n + 3, 2, h => simp at h
  · match j with | 0 => rfl | 1 => rfl | 2 => rfl | n + 3 => rfl
theorem reps_ints {W : World} {base : Nat} {ok : Nat → Prop} (xs : List Int) : Reps ((Kd.int .i64).M W base ok) (Kd.int .i64).sz xs (xs.map (Value.int .i64)) := Kd.reps_scalar xs
/-- A literal of ints. -/
theorem eLit (M : Aside0 (Mem es w0 W l rows)) (N : Tmp) (e : TypeId) (xs : List Int)
    (h : ∀ A c w1, Aside0 (Mem es w0 w1 l (⟨Kd.int .i64, e, .slice A xs.length c, xs⟩ :: rows)) → wpList P ops Q rest (a.put o.dst (.slice A xs.length c)) w1)
    (hd : o.dst = some N := by with_reducible rfl) (hgd : o.guard = none := by with_reducible rfl) (he : e ∈ es := by decide) (hm : xs.length ≤ 9223372036854775807 := by decide)
    (hr : (execOp a.eval o).run P W = .ok (.value (.slice (some ⟨W.heap.size, 0, none⟩) xs.length xs.length)) (W.alloc (.cells (xs.map (Value.int .i64)).toArray e)) := by first | (go_simp; done) | (go_simp; rfl)) :
    wpList P ops Q (o :: rest) a W := by
  refine Kd.R_lit (Kd.int .i64) (w0 := W) W.heap.size e hgd hd (ok := fun _ => True) (okp := fun _ => True) hr (reps_ints xs) (fun _ h => h) trivial (Below.refl _ _) (Nat.le_refl _) hm (fun v1 w1 hR hB hg _ => ?_)
  obtain ⟨A, c, rfl⟩ := Kd.R_slice hR
  exact h A c w1 ⟨M.out.row hB hR (fun q hq => by
    rcases List.mem_cons.1 hq with rfl | hq
    · exact he
    · cases hq)⟩
/-- 'append(s, x...)' on the first row. -/
theorem eApp {e : TypeId} {B : Option Addr} {n cB : Nat} {xs : List Int} (M : Aside0 (Mem es w0 W l (⟨Kd.int .i64, e, .slice B n cB, xs⟩ :: rows))) (N : Tmp) {A : Option Addr} {m c : Nat} {ys : List Int} (HR : (Kd.int .i64).C W A m ys) (hl : (xs.length + m) * 8 ≤ 140737488355328)
    (zs : List Int) (hz : xs ++ ys = zs) (h : ∀ B' c' w1, Aside0 (Mem es w0 w1 l (⟨Kd.int .i64, e, .slice B' zs.length c', zs⟩ :: rows)) → wpList P ops Q rest (a.put o.dst (.slice B' zs.length c')) w1)
    {s x : Operand} {t : TypeId} (ho : o.op = .call { callee := .builtin .append, args := #[s, x], argTypes := #[t, t] } := by with_reducible rfl) (hd : o.dst = some N := by with_reducible rfl) (hgd : o.guard = none := by with_reducible rfl)
    (ht : P.underlying t = some (.slice e) := by kernel_rfl) (hinfo : (P.info? e).map (fun i => (i.zero, i.size, i.bytes)) = some (some (.int .i64 0), 1, 8) := by kernel_rfl)
    (hs : a.eval s = .slice B n cB := by rfl) (hx : a.eval x = .slice A m c := by rfl) : wpList P ops Q (o :: rest) a W := by
  have M0 := M.out
  subst hz
  refine Kd.R_append_row (Value.int .i64) (0 : Int) (h1 := fun _ => rfl) (w0 := w0) w0.heap.size hgd s x t e (.int .i64 0) 8 ho ht hinfo rfl (by decide) (.slice B n cB) xs ys A m c (okOf (⟨Kd.int .i64, e, .slice B n cB, xs⟩ :: rows) 0) hs hx
    (fun k hk => M0.okFresh 0 k hk) (M0.owns 0 _ rfl) HR M0.below M0.below.size hl (fun v1 w1 hR hB hg hat => ?_)
  obtain ⟨B', c', rfl⟩ := Kd.R_slice hR
  exact h B' c' w1 ⟨M0.written hB hg hR hat⟩
/-- The first row's address. -/
theorem Mem.addr {e : TypeId} {B : Option Addr} {n c : Nat} {xs : List Int} (M : Mem es w0 W l (⟨Kd.int .i64, e, .slice B n c, xs⟩ :: rows)) (h : 0 < xs.length) : ∃ g, B = some ⟨g, 0, Option.none⟩ := by
  obtain ⟨inner, ho⟩ := Kd.R_own M.own
  rcases ho.2 with ⟨he, h0⟩ | ⟨g, cap, cur, he, _⟩
  · omega
  · injection he with h1 _ _
    exact ⟨g, h1⟩
/-- An element of the first row is stored. -/
theorem eP {e : TypeId} {g n c : Nat} {xs : List Int} (M : Aside0 (Mem es w0 W l (⟨Kd.int .i64, e, .slice (some ⟨g, 0, none⟩) n c, xs⟩ :: rows))) (t : TypeId) (p : Tmp) (i : Nat) (u : Int) (hi : i < n)
    (h : ∀ w', Aside0 (Mem es w0 w' l (⟨Kd.int .i64, e, .slice (some ⟨g, 0, none⟩) n c, xs.set i u⟩ :: rows)) → wpList P ops Q rest a w')
    {x : Operand} (ho : o.op = .store t (.tmp p) x := by with_reducible rfl) (hn : o.dst = none := by with_reducible rfl) (hgd : o.guard = none := by with_reducible rfl)
    (hx : a.eval (.tmp p) = .pointer (some ⟨g, i, none⟩) := by first | rfl | (go_simp; done) | (go_simp; rfl)) (hv : a.eval x = .int .i64 u := by first | rfl | (go_simp; done) | (go_simp; rfl)) (hs : (P.info? t).map (·.size) = some 1 := by kernel_rfl) :
    wpList P ops Q (o :: rest) a W := by
  have M0 := M.out
  have hR := M0.owns 0 _ rfl
  have hcell := Kd.R_celln (0 : Int) (enc := Value.int .i64) (h1 := fun _ => rfl) hR (i : Int) (by omega) (by exact_mod_cast hi)
  rw [Int.toNat_natCast] at hcell
  have hput := Kd.R_putg (enc := Value.int .i64) (h1 := fun _ => rfl) hR (i : Int) u
  rw [Int.toNat_natCast] at hput
  refine store_event (w1 := W.setCell ⟨g, i, none⟩ (.int .i64 u)) hgd ho hn ?_ (fun w' hw => ?_)
  · have hst : (store (⟨g, i, none⟩ : Addr) (.int .i64 u)).run P W = .ok () (W.setCell ⟨g, i, none⟩ (.int .i64 u)) := by
      rw [run_store P W _ _ _ rfl, hcell.1]
      simp [hcell.2]
    have hsv : (storeVar t ⟨g, i, none⟩ (.int .i64 u)).run P W = .ok () (W.setCell ⟨g, i, none⟩ (.int .i64 u)) := by
      cases hq : P.info? t with
      | none => simp [hq] at hs
      | some z =>
        have hz : z.size = 1 := by simpa [hq] using hs
        have ha : (⟨g, i, none⟩ : Addr).add 0 = ⟨g, i, none⟩ := by unfold Addr.add; simp
        have hs' : (store ((⟨g, i, none⟩ : Addr).add 0) (.int .i64 u)).run P W = .ok () (W.setCell ⟨g, i, none⟩ (.int .i64 u)) := by rw [ha]; exact hst
        simp [storeVar, sizeOf, typeInfo, hq, Value.cells, hz, storeCells, hs']
    unfold execOp
    simp only [ho, hx, hv, Instr.storeAt, Instr.sureAddr, Sem.run_bind, Sem.run_pure, Result.andThen_ok, hsv]
  · subst hw
    refine h _ ⟨M0.written ?_ hput.2 hput.1 (.inl rfl)⟩
    exact below_set M0.below (Kd.R_base M0.own g rfl)
/-- What a row begins with. -/
theorem C_prefix {e base : Nat} {ok : Nat → Prop} {B : Option Addr} {n cB : Nat} {xs ys : List Int} (h : Kd.R (Kd.int .i64) e W base ok (.slice B n cB) (xs ++ ys)) : Kd.C (Kd.int .i64) W B xs.length xs ∧ xs.length ≤ cB := by
  have h1 := Kd.R_take h (m := xs.length) (by simp)
  rw [List.take_left] at h1
  have h2 := Kd.R_reads' h1
  exact ⟨h2.2.2, h2.2.1⟩
end
end Go.Proofs.Ythjfmlehkcccfaa.Hctx
end

section
/-
  StepOwn, walked.
-/
set_option linter.unusedVariables false
set_option linter.unusedSimpArgs false
namespace Go.Proofs.Ythjfmlehkcccfaa.Hlaw9
open Go.RowKit Go.Proofs.YthjfmlehkcccfaaW.PrintWords Go.Proofs.YthjfmlehkcccfaaW.PrintLast Go.Proofs.YthjfmlehkcccfaaW.PrintMore GA Hctx Hsmall Qnext Qstep Hstep Hlives Hsame Heq Hans Hlaw3

def IsShortN (o : Out) : Prop := o.calls.length ≤ 17592186043904
theorem isShortN_ite {c : Prop} [Decidable c] {x y : Out} (hx : c → IsShortN x) (hy : ¬ c → IsShortN y) : IsShortN (if c then x else y) := by
  split
  · exact hx ‹_›
  · exact hy ‹_›
theorem stepO_callsN (fl : List S75) (pc : Int) (r : Regs) (l : List Int) (clk slot gen : Int) (ok : Bool) (op : Int) (a b c : Nat) (m : Int) (hlim : l.length ≤ 17592186043904) : (stepO fl pc r l clk slot gen ok op a b c m).calls.length ≤ 17592186043904 := by
  show IsShortN (stepO fl pc r l clk slot gen ok op a b c m)
  unfold stepO
  dsimp only
  repeat' first
    | (with_reducible refine isShortN_ite (fun _ => ?_) (fun _ => ?_))
    | (with_reducible exact hlim)
    | split
  all_goals unfold IsShortN
  all_goals first
    | exact hlim
    | (simp only [List.length_append, List.length_cons, List.length_nil]; omega)
    | (simp only [List.length_take]; omega)
theorem step_bothN (l0 : List Int) (l1 : List S75) (l2 : List S98) (pc : Int) (r : Regs) (l : List Int) (clk slot gen : Int) (hw : ∀ x ∈ l0, 0 ≤ x ∧ x < 4294967296) (hN : l.length ≤ 17592186043904) :
    ∃ (pc' : Int) (r' : Regs) (l' : List Int) (q1 q2 q3 q4 q5 q6 q7 q8 q9 q10 q11 : Int), l'.length ≤ 17592186043904 ∧ (∀ (A0 A1 A2 : Option Addr) (c0 c1 c2 : Nat) (A : Option Addr) (c : Nat) (w : World), Kd.C (Kd.int .u32) w A0 l0.length l0 → l0.length ≤ c0 → Kd.C k75 w A1 l1.length l1 → l1.length ≤ c1 → Kd.C k98 w A2 l2.length l2 → l2.length ≤ c2 → Kd.C (Kd.int .i64) w A l.length l → l.length ≤ c → Calls Try.prog 11 #[.agg (#[.slice A0 l0.length c0, .slice A1 l1.length c1, .slice A2 l2.length c2] : Array Value), .agg (ctx pc r (.slice A l.length c)), .agg #[.int .u64 clk, .int .i64 slot, .int .i64 gen]] w (Post w pc' r' l' (wantC q1 q2 q3 q4 q5 q6 q7 q8 q9 q10 q11))) ∧ (∀ (A0 A1 A2 : Option Addr) (c0 c1 c2 : Nat) (A : Option Addr) (c : Nat) (w : World), Kd.C (Kd.int .u32) w A0 l0.length l0 → l0.length ≤ c0 → Kd.C k75 w A1 l1.length l1 → l1.length ≤ c1 → Kd.C k98 w A2 l2.length l2 → l2.length ≤ c2 → Kd.C (Kd.int .i64) w A l.length l → l.length ≤ c → Calls Try.prog 13 #[.agg (#[.slice A0 l0.length c0, .slice A1 l1.length c1, .slice A2 l2.length c2] : Array Value), .agg (ctx pc r (.slice A l.length c)), .agg #[.int .u64 clk, .int .i64 slot, .int .i64 gen]] w (Post w pc' r' l' (wantC q1 q2 q3 q4 q5 q6 q7 q8 q9 q10 q11))) := by
  have hlim : l.length < 17592186044416 := by omega
  obtain ⟨op, a, b, c', m, ok, n1, n2, ha, hb, hc, hz, hy⟩ := next_both l0 l1 l2 pc r l hw
  obtain ⟨q1, q2, q3, q4, q5, q6, q7, q8, q9, q10, q11, hq⟩ := stepO_want l1 pc r l clk slot gen ok op a b c' m
  refine ⟨(stepO l1 pc r l clk slot gen ok op a b c' m).pc, (stepO l1 pc r l clk slot gen ok op a b c' m).r, (stepO l1 pc r l clk slot gen ok op a b c' m).calls, q1, q2, q3, q4, q5, q6, q7, q8, q9, q10, q11, stepO_callsN l1 pc r l clk slot gen ok op a b c' m hN, ?_, ?_⟩
  · intro A0 A1 A2 c0 c1 c2 A c w h0 k0 h1 k1 h2 k2 hl kl
    rw [← hq]
    exact p_step l0 l1 l2 A0 A1 A2 c0 c1 c2 pc r A c l clk slot gen w h0 k0 h1 k1 h2 k2 hl kl hlim op a b c' m ok n1 ha hb hc hz hy
  · intro A0 A1 A2 c0 c1 c2 A c w h0 k0 h1 k1 h2 k2 hl kl
    rw [← hq]
    exact r_step l0 l1 l2 A0 A1 A2 c0 c1 c2 pc r A c l clk slot gen w h0 k0 h1 k1 h2 k2 hl kl hlim op a b c' m ok n2 ha hb hc hz hy
/-- A list with sevens behind it. -/
def padL (l : List Int) (k : Nat) : List Int := l ++ List.replicate k 7
theorem padL_zero (l : List Int) : padL l 0 = l := by simp [padL]
theorem padL_len (l : List Int) (k : Nat) : (padL l k).length = l.length + k := by simp [padL]
theorem padL_snoc (l : List Int) (k : Nat) : padL l k ++ [7] = padL l (k + 1) := by
  unfold padL
  rw [List.append_assoc, List.replicate_succ']
theorem C_pad {W : World} {e base : Nat} {ok : Nat → Prop} {B : Option Addr} {n cB k : Nat} {l : List Int} (h : Kd.R (Kd.int .i64) e W base ok (.slice B n cB) (padL l k)) : Kd.C (Kd.int .i64) W B l.length l ∧ l.length ≤ cB := C_prefix h
theorem in_cell {W : World} {e base : Nat} {ok : Nat → Prop} {g n cB : Nat} {l : List Int} (h : Kd.R (Kd.int .i64) e W base ok (.slice (some ⟨g, 0, none⟩) n cB) (padL l 8)) (k : Nat) (hk : k < 8) : W.cell? ((⟨g, 0, none⟩ : Addr).add (l.length + k)) = some (.int .i64 7) := by
  have hC := (Kd.R_reads' h).2.2
  obtain ⟨ad, e1, hx⟩ := Kd.at_int hC ((l.length + k : Nat) : Int) (by omega) (by rw [padL_len]; omega)
  injection e1 with e1
  subst e1
  rw [Int.toNat_natCast] at hx
  rw [hx]
  congr 2
  unfold rd padL
  rw [Int.toNat_natCast, List.getD_eq_getElem?_getD, List.getElem?_append_right (by omega), Nat.add_sub_cancel_left, List.getElem?_replicate]
  simp [hk]
/-- A list whose first elements are -9. -/
def nines (l : List Int) (k : Nat) : List Int := List.replicate k (-9) ++ l.drop k
theorem nines_zero (l : List Int) : nines l 0 = l := by simp [nines]
theorem nines_len (l : List Int) (k : Nat) (h : k ≤ l.length) : (nines l k).length = l.length := by simp [nines]; omega
theorem nines_set (l : List Int) (k : Nat) (h : k < l.length) : (nines l k).set k (-9) = nines l (k + 1) := by
  unfold nines
  rw [List.set_append_right _ _ (by simp), List.length_replicate, Nat.sub_self, List.drop_eq_getElem_cons h, List.set_cons_zero, List.replicate_succ', List.append_assoc]
  rfl
theorem nines_mem {es : List TypeId} {w0 W : World} {L : List (Nat × Array Value × TypeId)} {rows : List Row} {e : TypeId} {v : Value} {l : List Int} {k : Nat} (M : Mem es w0 W L (⟨Kd.int .i64, e, v, (nines l k).set k (-9)⟩ :: rows)) (h : k < l.length) : Mem es w0 W L (⟨Kd.int .i64, e, v, nines l (k + 1)⟩ :: rows) := by
  rw [nines_set l k h] at M
  exact M

set_option maxHeartbeats 4000000 in
set_option maxRecDepth 100000 in
theorem law_own (l0 : List Int) (l1 : List S75) (l2 : List S98) (A0 A1 A2 : Option Addr) (c0 c1 c2 : Nat) (pc : Int) (r : Regs) (A : Option Addr) (c : Nat) (l : List Int) (clk slot gen : Int) (w : World)
    (h0 : Kd.C (Kd.int .u32) w A0 l0.length l0) (k0 : l0.length ≤ c0) (h1 : Kd.C k75 w A1 l1.length l1) (k1 : l1.length ≤ c1) (h2 : Kd.C k98 w A2 l2.length l2) (k2 : l2.length ≤ c2) (hl : Kd.C (Kd.int .i64) w A l.length l) (kl : l.length ≤ c) (hlim : l.length < 17592186044416) (hN : l.length ≤ 17592186043904) (hw : ∀ x ∈ l0, 0 ≤ x ∧ x < 4294967296) :
    Calls Try.prog 9 #[.agg (#[.slice A0 l0.length c0, .slice A1 l1.length c1, .slice A2 l2.length c2] : Array Value), .agg (ctx pc r (.slice A l.length c)), .agg #[.int .u64 clk, .int .i64 slot, .int .i64 gen]] w fun e w' => e = .returned (.bool true) ∧ Below w.heap.size w w' := by
  obtain ⟨pc', r', l', q1, q2, q3, q4, q5, q6, q7, q8, q9, q10, q11, hN', c11, c13⟩ := step_bothN l0 l1 l2 pc r l clk slot gen hw hN
  have hlim' : l'.length < 17592186044416 := by omega
  have C11 := Lib.hid c11
  have C13 := Lib.hid c13
  clear c11 c13 hw
  have hu26 := Try.underlying26
  have hu30 := Try.underlying30
  have hu35 := Try.underlying35
  have H0 := Aside0.mk h0
  clear h0
  have H1 := Aside0.mk h1
  clear h1
  have H2 := Aside0.mk h2
  clear h2
  have HL := Aside0.mk hl
  clear hl
  have M0 := Aside0.mk (Mem.start [3] w)
  go_enter Try.func9, Try.ntmps9
  go_wp2_with (first
      | (refine eB M0 3 (#[.slice A0 l0.length c0, .slice A1 l1.length c1, .slice A2 l2.length c2] : Array Value) 26 ?_; clear M0; intro g3 w3 M1)
      | (refine eB M1 4 (ctx pc r (.slice A l.length c)) 30 ?_; clear M1; intro g4 w4 M2)
      | (refine eB M2 5 #[.int .u64 clk, .int .i64 slot, .int .i64 gen] 35 ?_; clear M2; intro g5 w5 M3)
      | (refine eL M3 19 1 hu30 ?_))
  refine (twin_calls pc r A c l _ (Kd.C_below HL.out M3.out.below) kl hlim).mono ?_
  rintro e W20 ⟨v20, rfl, hR, hb⟩
  obtain ⟨A20, c20, rfl⟩ := Kd.R_slice hR
  have M4 := Aside0.mk (Mem.row M3.out hb hR)
  clear M3 hR hb
  go_wp2_with (first
      | (refine eB M4 7 (ctx 0 zeroR (.slice none 0 0)) 30 ?_; clear M4; intro g7 w7 M5)
      | (refine eR M5 30 7 3 (ctx pc r (.slice A20 l.length c20)) ?_; clear M5; intro w_ M6))
  go_loopw [8] (fun v8 wr => ∃ (i1 : Nat) (B : Option Addr) (cB : Nat), i1 ≤ 8 ∧ v8 = .int .i64 i1 ∧ Mem [3] w wr [(g3, (#[.slice A0 l0.length c0, .slice A1 l1.length c1, .slice A2 l2.length c2] : Array Value), 26), (g4, (ctx pc r (.slice A l.length c)), 30), (g5, #[.int .u64 clk, .int .i64 slot, .int .i64 gen], 35), (g7, (ctx pc r (.slice B (padL l i1).length cB)), 30)] [⟨Kd.int .i64, 3, .slice B (padL l i1).length cB, padL l i1⟩]) (fun v8 _ => 8 - (intOf v8).toNat)
  case atStart => exact ⟨0, A20, c20, by omega, rfl, by rw [padL_zero]; exact M6.out⟩
  obtain ⟨i1, B, cB, hk1, rfl, M⟩ := hrel
  have ML := Aside0.mk M
  clear M M6
  have M7 := ML
  clear ML
  by_cases bK1 : i1 < 8
  · have pi11 : (0 : Int) ≤ (i1 : Int) := by omega
    have pi12 : (i1 : Int) < 8 := by omega
    go_wp2_with (first
        | (refine eC M7 26 3 17 (.slice B (padL l i1).length cB) ?_)
        | (refine eLit M7 27 3 [7] ?_; clear M7; intro A27 c27 w27 M_; have M8 := Aside0.mk (Mem.swap01 M_.out); clear M_; have HPL : 0 ≤ 0 := Nat.le_refl 0)
        | (refine eApp M8 28 (Kd.R_reads' (M8.out.ownAt 1 rfl)).2.2 (by rw [padL_len]; simp only [List.length_cons, List.length_nil]; omega) (padL l (i1 + 1)) (padL_snoc l i1) ?_; clear HPL; intro B1 cB1 w28 M_; have M9 := Aside0.mk (Mem.pick1 M_.out 0 rfl); clear M_ M8)
        | (refine eS M9 28 29 3 17 (.slice B1 (padL l (i1 + 1)).length cB1) (ctx pc r (.slice B1 (padL l (i1 + 1)).length cB1)) ?_; clear M9; intro w_ M10))
    go_roundw
    case rel => exact ⟨i1 + 1, B1, cB1, by omega, by go_num, M10.out⟩
    case measure => simp [intOf]; omega
  · have p12 : ¬ (i1 : Int) < 8 := by omega
    obtain rfl : i1 = 8 := by omega
    obtain ⟨gB, rfl⟩ := M7.out.addr (by rw [padL_len]; omega)
    have kB := (Kd.R_reads' M7.out.own).2.1
    rw [padL_len] at kB
    have kB1 : l.length ≤ cB := by omega
    have hln := padL_len l 8
    have HLN := Lib.hid hln
    clear hln
    go_wp2_with (first
        | (refine eC M7 31 3 17 (.slice (some ⟨gB, 0, none⟩) (padL l 8).length cB) ?_)
        | (refine eC M7 33 1 17 (.slice A l.length c) ?_)
        | (refine eS M7 28 36 3 17 (.slice (some ⟨gB, 0, none⟩) l.length cB) (ctx pc r (.slice (some ⟨gB, 0, none⟩) l.length cB)) ?_; clear M7; intro w_ M8)
        | (refine eL M8 38 0 hu26 ?_)
        | (refine eL M8 39 1 hu30 ?_)
        | (refine eL M8 40 2 hu35 ?_))
    refine (C13.out A0 A1 A2 c0 c1 c2 A c _ (Kd.C_below H0.out M8.out.below) k0 (Kd.C_below H1.out M8.out.below) k1 (Kd.C_below H2.out M8.out.below) k2 (Kd.C_below HL.out M8.out.below) kl).mono ?_
    rintro e W41 ⟨v41, rfl, hR, hb⟩
    obtain ⟨A41, c41, rfl⟩ := Kd.R_slice hR
    have M9 := Aside0.mk (Mem.row M8.out hb hR)
    clear M8 hR hb
    go_wp2_with (first
        | (refine eB M9 9 (ctx 0 zeroR (.slice none 0 0)) 30 ?_; clear M9; intro g9 w9 M10)
        | (refine eB M10 10 want0 40 ?_; clear M10; intro g10 w10 M11)
        | (refine eR M11 30 9 4 (ctx pc' r' (.slice A41 l'.length c41)) ?_; clear M11; intro w_ M12)
        | (refine eR M12 40 10 5 (wantC q1 q2 q3 q4 q5 q6 q7 q8 q9 q10 q11) ?_; clear M12; intro w_ M13))
    go_loopw [11] (fun v11 wr => ∃ i2 : Nat, i2 ≤ 2 ∧ v11 = .int .i64 i2 ∧ Mem [3] w wr [(g3, (#[.slice A0 l0.length c0, .slice A1 l1.length c1, .slice A2 l2.length c2] : Array Value), 26), (g4, (ctx pc r (.slice A l.length c)), 30), (g5, #[.int .u64 clk, .int .i64 slot, .int .i64 gen], 35), (g7, (ctx pc r (.slice (some ⟨gB, 0, none⟩) l.length cB)), 30), (g9, (ctx pc' r' (.slice A41 l'.length c41)), 30), (g10, (wantC q1 q2 q3 q4 q5 q6 q7 q8 q9 q10 q11), 40)] [⟨Kd.int .i64, 3, .slice A41 l'.length c41, l'⟩, ⟨Kd.int .i64, 3, .slice (some ⟨gB, 0, none⟩) (padL l 8).length cB, padL l 8⟩]) (fun v11 _ => 2 - (intOf v11).toNat)
    case atStart => exact ⟨0, by omega, rfl, M13.out⟩
    obtain ⟨i2, hk2, rfl, M⟩ := hrel
    have ML := Aside0.mk M
    clear M M13
    have M14 := ML
    clear ML
    by_cases bK2 : i2 < 2
    · have pi21 : (0 : Int) ≤ (i2 : Int) := by omega
      have pi22 : (i2 : Int) < 2 := by omega
      go_wp2_with (first
          | (refine eL M14 49 0 hu26 ?_)
          | (refine eL M14 50 3 hu30 ?_)
          | (refine eL M14 51 2 hu35 ?_))
      refine (C11.out A0 A1 A2 c0 c1 c2 (some ⟨gB, 0, none⟩) cB _ (Kd.C_below H0.out M14.out.below) k0 (Kd.C_below H1.out M14.out.below) k1 (Kd.C_below H2.out M14.out.below) k2 (C_pad (M14.out.ownAt 1 rfl)).1 (C_pad (M14.out.ownAt 1 rfl)).2).mono ?_
      rintro e W52 ⟨v52, rfl, hR, hb⟩
      obtain ⟨A52, c52, rfl⟩ := Kd.R_slice hR
      have M15 := Aside0.mk (Mem.row M14.out hb hR)
      clear M14 hR hb
      go_wp2_with (first
          | (refine eB M15 12 (ctx 0 zeroR (.slice none 0 0)) 30 ?_; clear M15; intro g12 w12 M16)
          | (refine eB M16 13 want0 40 ?_; clear M16; intro g13 w13 M17)
          | (refine eR M17 30 12 6 (ctx pc' r' (.slice A52 l'.length c52)) ?_; clear M17; intro w_ M18)
          | (refine eR M18 40 13 7 (wantC q1 q2 q3 q4 q5 q6 q7 q8 q9 q10 q11) ?_; clear M18; intro w_ M19)
          | (refine eL M19 55 6 hu30 ?_)
          | (refine eL M19 56 4 hu30 ?_))
      refine (same_calls pc' r' A52 A41 c52 c41 l' _ (Kd.R_reads' (M19.out.ownAt 0 rfl)).2.2 (Kd.R_reads' (M19.out.ownAt 1 rfl)).2.2 hlim').mono ?_
      rintro e W57 ⟨rfl, hb⟩
      have M20 := Aside0.mk (Mem.call M19.out hb)
      clear M19 hb
      go_wp2_with (first
          | ((with_reducible refine gate_dst (N := 60) rfl ?_); (refine gate_guard (by rfl) ?_; dsimp only); refine eL M20 60 3 hu30 ?_)
          | ((with_reducible refine gate_dst (N := 61) rfl ?_); (refine gate_guard (by rfl) ?_; dsimp only); refine eL M20 61 1 hu30 ?_))
      refine (same_calls pc r (some ⟨gB, 0, none⟩) A cB c l _ (C_pad (M20.out.ownAt 2 rfl)).1 (Kd.C_below HL.out M20.out.below) hlim).mono ?_
      rintro e W62 ⟨rfl, hb⟩
      have M21 := Aside0.mk (Mem.call M20.out hb)
      clear M20 hb
      go_wp2_with fail
      refine (lives_calls _).mono ?_
      rintro e W66 ⟨rfl, hb⟩
      have M22 := Aside0.mk (Mem.call M21.out hb)
      clear M21 hb
      go_wp2_with (first
          | (refine eL M22 69 6 hu30 ?_))
      refine (answer20 47 1 0 0 0 5 0 pc' r' A52 c52 l' _ (Kd.R_reads' M22.out.own).2.2 (Kd.R_reads' M22.out.own).2.1 hlim').mono ?_
      rintro e W71 ⟨v71, rfl, hR, hb⟩
      obtain ⟨A71, c71, rfl⟩ := Kd.R_slice hR
      have M23 := Aside0.mk (Mem.row M22.out hb hR)
      clear M22 hR hb
      go_wp2_with (first
          | (refine eB M23 14 (ctx 0 zeroR (.slice none 0 0)) 30 ?_; clear M23; intro g14 w14 M24)
          | (refine eR M24 30 14 8 (ctx pc' (ansR 47 1 0 0 5 0 r') (.slice A71 l'.length c71)) ?_; clear M24; intro w_ M25)
          | (refine eL M25 72 8 hu30 ?_))
      refine (twin_calls pc' (ansR 47 1 0 0 5 0 r') A71 c71 l' _ (Kd.R_reads' M25.out.own).2.2 (Kd.R_reads' M25.out.own).2.1 hlim').mono ?_
      rintro e W73 ⟨v73, rfl, hR, hb⟩
      obtain ⟨A73, c73, rfl⟩ := Kd.R_slice hR
      have M26 := Aside0.mk (Mem.row M25.out hb hR)
      clear M25 hR hb
      go_wp2_with (first
          | (refine eB M26 15 (ctx 0 zeroR (.slice none 0 0)) 30 ?_; clear M26; intro g15 w15 M27)
          | (refine eR M27 30 15 9 (ctx pc' (ansR 47 1 0 0 5 0 r') (.slice A73 l'.length c73)) ?_; clear M27; intro w_ M28))
      go_loopw [16] (fun v16 wr => ∃ i3 : Nat, i3 ≤ l'.length ∧ v16 = .int .i64 i3 ∧ Mem [3] w wr [(g3, (#[.slice A0 l0.length c0, .slice A1 l1.length c1, .slice A2 l2.length c2] : Array Value), 26), (g4, (ctx pc r (.slice A l.length c)), 30), (g5, #[.int .u64 clk, .int .i64 slot, .int .i64 gen], 35), (g7, (ctx pc r (.slice (some ⟨gB, 0, none⟩) l.length cB)), 30), (g9, (ctx pc' r' (.slice A41 l'.length c41)), 30), (g10, (wantC q1 q2 q3 q4 q5 q6 q7 q8 q9 q10 q11), 40), (g12, (ctx pc' r' (.slice A52 l'.length c52)), 30), (g13, (wantC q1 q2 q3 q4 q5 q6 q7 q8 q9 q10 q11), 40), (g14, (ctx pc' (ansR 47 1 0 0 5 0 r') (.slice A71 l'.length c71)), 30), (g15, (ctx pc' (ansR 47 1 0 0 5 0 r') (.slice A73 l'.length c73)), 30)] [⟨Kd.int .i64, 3, .slice A52 l'.length c52, nines l' i3⟩, ⟨Kd.int .i64, 3, .slice A73 l'.length c73, l'⟩, ⟨Kd.int .i64, 3, .slice A71 l'.length c71, l'⟩, ⟨Kd.int .i64, 3, .slice A41 l'.length c41, l'⟩, ⟨Kd.int .i64, 3, .slice (some ⟨gB, 0, none⟩) (padL l 8).length cB, padL l 8⟩]) (fun v16 _ => l'.length - (intOf v16).toNat)
      case atStart => exact ⟨0, by omega, rfl, by rw [nines_zero]; exact Mem.front2 M28.out⟩
      obtain ⟨i3, hk3, rfl, M⟩ := hrel
      have ML := Aside0.mk M
      clear M M28
      have M29 := ML
      clear ML
      by_cases bK3 : i3 < l'.length
      · have pi31 : (0 : Int) ≤ (i3 : Int) := by omega
        have pi32 : (i3 : Int) < l'.length := by omega
        obtain ⟨g52, rfl⟩ := M29.out.addr (by rw [nines_len _ _ hk3]; omega)
        go_wp2_with (first
            | (refine eC M29 76 6 17 (.slice (some ⟨g52, 0, none⟩) l'.length c52) ?_)
            | (refine eC M29 82 6 17 (.slice (some ⟨g52, 0, none⟩) l'.length c52) ?_)
            | (refine eP M29 3 84 i3 (-9) bK3 ?_; clear M29; intro w_ M_; have M30 := Aside0.mk (nines_mem M_.out bK3); clear M_))
        go_roundw
        case rel => exact ⟨i3 + 1, by omega, by go_num, M30.out⟩
        case measure => simp [intOf]; omega
      · have p32 : ¬ (i3 : Int) < l'.length := by omega
        obtain rfl : i3 = l'.length := by omega
        go_wp2_with (first
            | (refine eC M29 76 6 17 (.slice A52 l'.length c52) ?_)
            | (refine eC M29 86 6 17 (.slice A52 l'.length c52) ?_)
            | (refine eLit M29 87 3 [-8, -8, -8] ?_; clear M29; intro A87 c87 w87 M_; have M30 := Aside0.mk (Mem.swap01 M_.out); clear M_; have HPL : 0 ≤ 0 := Nat.le_refl 0)
            | (refine eApp M30 88 (Kd.R_reads' (M30.out.ownAt 1 rfl)).2.2 (by rw [nines_len _ _ (Nat.le_refl _)]; simp only [List.length_cons, List.length_nil]; omega) (nines l' l'.length ++ [-8, -8, -8]) rfl ?_; clear HPL M30; intro A88 c88 w88 M31)
            | (refine eS M31 28 89 6 17 (.slice A88 (nines l' l'.length ++ [-8, -8, -8]).length c88) (ctx pc' r' (.slice A88 (nines l' l'.length ++ [-8, -8, -8]).length c88)) ?_; clear M31; intro w_ M32)
            | (refine eL M32 90 8 hu30 ?_)
            | (refine eL M32 91 9 hu30 ?_))
        refine (same_calls pc' (ansR 47 1 0 0 5 0 r') A71 A73 c71 c73 l' _ (Kd.R_reads' (M32.out.ownAt 3 rfl)).2.2 (Kd.R_reads' (M32.out.ownAt 2 rfl)).2.2 hlim').mono ?_
        rintro e W92 ⟨rfl, hb⟩
        have M33 := Aside0.mk (Mem.call M32.out hb)
        clear M32 hb
        go_wp2_with (first
            | (refine eC M33 95 3 17 (.slice (some ⟨gB, 0, none⟩) l.length cB) ?_)
            | (refine eC M33 97 1 17 (.slice A l.length c) ?_)
            | (refine eC M33 102 1 17 (.slice A l.length c) ?_))
        go_loopw [18] (fun v18 wr => ∃ i4 : Nat, i4 ≤ 8 ∧ v18 = .int .i64 ((l.length + i4 : Nat) : Int) ∧ Mem [3] w wr [(g3, (#[.slice A0 l0.length c0, .slice A1 l1.length c1, .slice A2 l2.length c2] : Array Value), 26), (g4, (ctx pc r (.slice A l.length c)), 30), (g5, #[.int .u64 clk, .int .i64 slot, .int .i64 gen], 35), (g7, (ctx pc r (.slice (some ⟨gB, 0, none⟩) l.length cB)), 30), (g9, (ctx pc' r' (.slice A41 l'.length c41)), 30), (g10, (wantC q1 q2 q3 q4 q5 q6 q7 q8 q9 q10 q11), 40), (g12, (ctx pc' r' (.slice A88 (nines l' l'.length ++ [-8, -8, -8]).length c88)), 30), (g13, (wantC q1 q2 q3 q4 q5 q6 q7 q8 q9 q10 q11), 40), (g14, (ctx pc' (ansR 47 1 0 0 5 0 r') (.slice A71 l'.length c71)), 30), (g15, (ctx pc' (ansR 47 1 0 0 5 0 r') (.slice A73 l'.length c73)), 30)] [⟨Kd.int .i64, 3, .slice A88 (nines l' l'.length ++ [-8, -8, -8]).length c88, nines l' l'.length ++ [-8, -8, -8]⟩, ⟨Kd.int .i64, 3, .slice A87 3 c87, [-8, -8, -8]⟩, ⟨Kd.int .i64, 3, .slice A73 l'.length c73, l'⟩, ⟨Kd.int .i64, 3, .slice A71 l'.length c71, l'⟩, ⟨Kd.int .i64, 3, .slice A41 l'.length c41, l'⟩, ⟨Kd.int .i64, 3, .slice (some ⟨gB, 0, none⟩) (padL l 8).length cB, padL l 8⟩]) (fun v18 _ => l.length + 8 - (intOf v18).toNat)
        case atStart => exact ⟨0, by omega, rfl, M33.out⟩
        obtain ⟨i4, hk4, rfl, M⟩ := hrel
        have ML := Aside0.mk M
        clear M M33
        have M34 := ML
        clear ML
        by_cases bK4 : i4 < 8
        · have p40 : (0 : Int) ≤ ((l.length + i4 : Nat) : Int) := by omega
          have p41 : ((l.length + i4 : Nat) : Int) < ((l.length : Int) + 8) := by omega
          go_wp2_with (first
              | ((with_reducible refine gate_dst (N := 113) rfl ?_); refine eX 113 (u := .int .i64 7) (in_cell (M34.out.ownAt 5 rfl) i4 bK4) ?_))
          go_roundw
          case rel => exact ⟨i4 + 1, by omega, by go_num, M34.out⟩
          case measure => simp [intOf]; omega
        · have p42 : ¬ ((l.length + i4 : Nat) : Int) < ((l.length : Int) + 8) := by omega
          go_wp2_with fail
          go_roundw
          case rel => exact ⟨i2 + 1, by omega, by go_num, (M34.out.forget 6).pick2 4 5 (by decide) rfl rfl⟩
          case measure => simp [intOf]; omega
    · have p22 : ¬ (i2 : Int) < 2 := by omega
      go_wp2_with (first
          | (refine eL M14 115 3 hu30 ?_)
          | (refine eL M14 116 1 hu30 ?_))
      refine (same_calls pc r (some ⟨gB, 0, none⟩) A cB c l _ (C_pad (M14.out.ownAt 1 rfl)).1 (Kd.C_below HL.out M14.out.below) hlim).mono ?_
      rintro e W117 ⟨rfl, hb⟩
      have M15 := Aside0.mk (Mem.call M14.out hb)
      clear M14 hb
      go_wp2_with fail
      go_ret
      exact ⟨rfl, M15.out.below⟩
end Go.Proofs.Ythjfmlehkcccfaa.Hlaw9
end

section
/-
  A bound of a context's calls.
-/
namespace Go.Proofs.Ythjfmlehkcccfaa.Kinds3
open Go.Proofs.YthjfmlehkcccfaaW.PrintWords Go.Proofs.Ythjfmlehkcccfaa.Opn Go.Proofs.Ythjfmlehkcccfaa.GA Go.Proofs.Ythjfmlehkcccfaa.Hctx Go.Proofs.Ythjfmlehkcccfaa.Kinds
theorem calls_le {l : List Int} {n : Nat} (h : GSl 8 (GInt .i64) l n) : l.length ≤ 17592186043904 := by
  have := h.1
  omega
end Go.Proofs.Ythjfmlehkcccfaa.Kinds3
end

section
/-
  A context that is handed in stays as it was; the one that comes out has its own list of calls.
-/
set_option linter.unusedVariables false
set_option linter.unusedSimpArgs false
namespace Go.Proofs.Ythjfmlehkcccfaa.stepOwn
open Go.ChangeShapes Go.WideShapes Go.ChangeAt Go.RowKit Go.Proofs.YthjfmlehkcccfaaW.PrintWords Go.Proofs.Ythjfmlehkcccfaa.Opn
open Go.ChangeMaps (open_string shut_string)
theorem own : ownKnob Try.prog.godebug = none := by kernel_rfl
theorem laidOut : laidOutB Try.prog = true := by kernel_rfl
set_option maxRecDepth 100000 in
theorem lifted (os : Os) (started : os.Started) (H : Type) (enc : TypeId × Value → H) :
    ReturnsInHanded {} Try.checked os 9 .any (Rows.stepOwnSpec.pre6 enc Try.prog Try.f9 Rows.stepOwnRow.domain false) (Rows.stepOwnSpec.post enc Try.prog Try.f9 false true false false) := by
  refine returnsInHanded_of_change_sized (C := Try.checked) own started (by kernel_rfl) Try.func9
    (ChangeSpec.witness6 (enc := enc) (C := Try.checked) false ⟨#[], #[.agg #[.slice none 0 0, .slice none 0 0, .slice none 0 0], .agg #[.int .i64 0, .int .i64 0, .int .i64 0, .int .i64 0, .int .i64 0, .int .i64 0, .int .i64 0, .int .i64 0, .int .i64 0, .int .i64 0, .int .i64 0, .int .i64 0, .int .i64 0, .int .i64 0, .int .i64 0, .int .i64 0, .int .i64 0, .slice none 0 0], .agg #[.int .u64 0, .int .i64 0, .int .i64 0]], []⟩ 8 (by kernel_rfl) (by kernel_rfl) (by kernel_rfl) (by kernel_rfl)) ?_
  intro W base args ds gs before hval0 hW hcnd hsz0 _
  have hsz : (DataW.weightsEach Try.prog (Try.f9.params.toList ++ Rows.stepOwnSpec.plain.varTypes Try.prog) (ds ++ gs)).all (· ≤ reachBytes) = true := hsz0
  have hval : ∀ (j : Nat) t v, Try.f9.params[j]? = some t → args[j]? = some v → Value.okWide Try.prog W .any base t v := hval0
  have hW' := hW
  obtain ⟨p, q, hA0, hV, rfl, hfz, hnd⟩ := hW
  have hA : DataW.TrodAll enc Try.prog W 0 (fun _ => true) true Try.f9.params.toList args.toList ds p := hA0
  rw [Try.params9] at hA hval hsz
  obtain ⟨v0, vs0, d0, ds0, p0, q0, hargs, rfl, rfl, h0, r0⟩ := trodAll_cons hA
  obtain ⟨v1, vs1, d1, ds1, p1, q1, rfl, rfl, rfl, h1, r1⟩ := trodAll_cons r0
  obtain ⟨v2, vs2, d2, ds2, p2, q2, rfl, rfl, rfl, h2, r2⟩ := trodAll_cons r1
  obtain ⟨rfl, rfl, rfl⟩ := trodAll_nil r2
  obtain rfl : args = #[v0, v1, v2] := by cases args; simp_all
  obtain ⟨rfl, rfl⟩ := trodVars_none hV
  have k0 := h0
  have lt0 : ∀ x ∈ p0, x.block < W.heap.size := by obtain ⟨m, hm⟩ := k0; exact DataW.trod_lt m _ _ _ hm
  have ws0 : ∀ n ∈ d0.weights Try.prog 26, n ≤ reachBytes := fun n hn => by simpa using List.all_eq_true.1 hsz n (DataW.weights_mem_each (j := 0) rfl rfl n hn)
  obtain ⟨x0, K0, G0⟩ : ∃ x, (Kinds.kPrg).K W x v0.cells.toList ∧ Kinds.GPrg x (Rows.uptoBulk d0) := by
    obtain ⟨fuel, hf⟩ := h0
    exact Kinds.o26.opens enc W 0 _ _ fuel _ _ hf ws0
  obtain ⟨cs0, rfl, _⟩ := Go.WideShapes.okWide_struct Try.underlying26 (hval 0 26 v0 rfl rfl)
  obtain ⟨A0, c0, A1, c1, A2, c2, E0, kk0, hh0, kk1, hh1, kk2, hh2⟩ := Kinds.kPrg_open K0
  obtain rfl := Array.toList_inj.1 (E0.trans (by rfl) : cs0.toList = (#[.slice A0 x0.l0.length c0, .slice A1 x0.l1.length c1, .slice A2 x0.l2.length c2] : Array Value).toList)
  have k1 := h1
  have lt1 : ∀ x ∈ p1, x.block < W.heap.size := by obtain ⟨m, hm⟩ := k1; exact DataW.trod_lt m _ _ _ hm
  have ws1 : ∀ n ∈ d1.weights Try.prog 30, n ≤ reachBytes := fun n hn => by simpa using List.all_eq_true.1 hsz n (DataW.weights_mem_each (j := 1) rfl rfl n hn)
  obtain ⟨x1, K1, G1⟩ : ∃ x, (Kinds.kCtx).K W x v1.cells.toList ∧ Kinds.GCtx x (Rows.uptoBulk d1) := by
    obtain ⟨fuel, hf⟩ := h1
    exact Kinds.o30.opens enc W 0 _ _ fuel _ _ hf ws1
  obtain ⟨cs1, rfl, _⟩ := Go.WideShapes.okWide_struct Try.underlying30 (hval 1 30 v1 rfl rfl)
  obtain ⟨A, c, E1, kk3, hh3⟩ := Kinds.kCtx_open K1
  obtain rfl := Array.toList_inj.1 E1
  have k2 := h2
  have lt2 : ∀ x ∈ p2, x.block < W.heap.size := by obtain ⟨m, hm⟩ := k2; exact DataW.trod_lt m _ _ _ hm
  have ws2 : ∀ n ∈ d2.weights Try.prog 35, n ≤ reachBytes := fun n hn => by simpa using List.all_eq_true.1 hsz n (DataW.weights_mem_each (j := 2) rfl rfl n hn)
  obtain ⟨x2, K2, G2⟩ : ∃ x, (Kinds.kEnv).K W x v2.cells.toList ∧ Kinds.GEnv x (Rows.uptoBulk d2) := by
    obtain ⟨fuel, hf⟩ := h2
    exact Kinds.o35.opens enc W 0 _ _ fuel _ _ hf ws2
  obtain ⟨cs2, rfl, _⟩ := Go.WideShapes.okWide_struct Try.underlying35 (hval 2 35 v2 rfl rfl)
  obtain rfl := Array.toList_inj.1 ((Kinds.kEnv_open K2).trans (by rfl) : cs2.toList = (#[.int .u64 x2.clk, .int .i64 x2.slot, .int .i64 x2.gen] : Array Value).toList)
  clear hA0 hval hsz
  refine (Hlaw9.law_own x0.l0 x0.l1 x0.l2 A0 A1 A2 c0 c1 c2 x1.pc x1.r A c x1.l x2.clk x2.slot x2.gen W hh0 kk0 hh1 kk1 hh2 kk2 hh3 kk3 (Kinds.calls_lt G1.2.2) (Kinds3.calls_le G1.2.2) (Kinds.words_lt G0.1)).mono fun e W' ⟨he, bel⟩ => ?_
  subst he
  exact ⟨_, rfl, _, _, _, [], _, [], hW', trodAll_mk1 (shut_bool Try.underlying4 _), (trodAll_cons_mk (Below.trod laidOut (by kernel_rfl) (of_decide_eq_true (by kernel_rfl)) k0 bel lt0) (trodAll_cons_mk (Below.trod laidOut (by kernel_rfl) (of_decide_eq_true (by kernel_rfl)) k1 bel lt1) (trodAll_cons_mk (Below.trod laidOut (by kernel_rfl) (of_decide_eq_true (by kernel_rfl)) k2 bel lt2) trodAll_mk0))), rfl, bel.frame _, fun h => by cases h⟩
theorem over : Rows.stepOwnRow.holds Try.pinned (OpenSpec.ofChange Rows.stepOwnSpec) :=
  OpenClaim.holds_of_wide 9 Try.f9 rfl rfl rfl rfl rfl rfl rfl ⟨rfl, rfl, rfl, rfl, rfl⟩ rfl rfl rfl rfl rfl (by kernel_rfl) Try.func9 (by kernel_rfl)
    (of_decide_eq_true (by kernel_rfl)) (by unfold Func.isWrapper; first | (rw [if_pos (by decide +kernel)]; kernel_rfl) | (rw [if_neg (by decide +kernel)]; exact ⟨rfl, rfl⟩))
    (fun os started H enc _ => lifted os started H enc)
theorem proved : Rows.StepOwnSaid := over
end Go.Proofs.Ythjfmlehkcccfaa.stepOwn
namespace Go.Proofs.Ythjfmlehkcccfaa
theorem stepOwn_holds : Rows.StepOwnSaid := stepOwn.proved
end Go.Proofs.Ythjfmlehkcccfaa
end
