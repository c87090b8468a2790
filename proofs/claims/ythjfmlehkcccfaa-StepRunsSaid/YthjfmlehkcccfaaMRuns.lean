import Derived.Test.YthjfmlehkcccfaaMDoes2
import Derived.IntWalk
import Derived.Lib.Hide
import Derived.Test.YthjfmlehkcccfaaMDoes22
import Derived.Deep.QuietTactic
import Derived.BigQuiet
import Derived.Deep.MidRow
import Derived.Outline
import Derived.Test.YthjfmlehkcccfaaMDoes23
import Derived.Test.YthjfmlehkcccfaaRows
import Derived.WalkKit
import Derived.ProofKit
import Derived.OpenShut
import Derived.ShutString
import Derived.ChangeOld
import Derived.Below
import Derived.SizedLaws
import Derived.Lib.SmallJoins
section
/-
  Answer, both sides, walked.
-/
set_option linter.unusedVariables false
set_option linter.unusedSimpArgs false
namespace Go.Proofs.Ythjfmlehkcccfaa.Hans
open Go.RowKit Go.Proofs.YthjfmlehkcccfaaW.PrintWords Go.Proofs.YthjfmlehkcccfaaW.PrintLast Go.Proofs.YthjfmlehkcccfaaW.PrintMore GA Hctx Hsmall
theorem and15 (x : Int) : 0 ≤ Go.bits .and .i64 x 15 ∧ Go.bits .and .i64 x 15 < 16 := by
  have e : Go.bits .and .i64 x 15 = IntKind.i64.wrap ((BitVec.ofInt 64 x &&& BitVec.ofInt 64 15).toNat : Int) := rfl
  have h : (BitVec.ofInt 64 x &&& BitVec.ofInt 64 15).toNat ≤ 15 := by
    rw [BitVec.toNat_and]
    exact Nat.le_trans Nat.and_le_right (by decide)
  rw [e, IntWalk.i64_in _ (by omega)]
  omega
/-- The registers behind an answer. -/
def ansR (op a b c v ok : Int) (r : Regs) : Regs :=
  if op = 22 ∨ op = 28 ∨ op = 32 ∨ op = 33 ∨ op = 34 ∨ op = 47 ∨ op = 49 ∨ op = 50 ∨ op = 55 ∨ op = 56 ∨ op = 57 then r.set (Go.bits .and .i64 a 15).toNat v
  else if op = 30 ∨ op = 51 ∨ op = 54 then (r.set (Go.bits .and .i64 a 15).toNat v).set (Go.bits .and .i64 b 15).toNat ok
  else if op = 53 then r.set (Go.bits .and .i64 c 15).toNat v
  else r
set_option maxHeartbeats 2000000 in
set_option maxRecDepth 100000 in
theorem answer20 (op a b c' m v ok pc : Int) (r : Regs) (A : Option Addr) (c : Nat) (l : List Int) (w : World) (hl : Kd.C (Kd.int .i64) w A l.length l) (kl : l.length ≤ c) (hlim : l.length < 17592186044416) :
    Calls Try.prog 20 #[.agg (ctx pc r (.slice A l.length c)), .agg (instC op a b c' m), .int .i64 v, .int .i64 ok] w (PostC w pc (ansR op a b c' v ok r) l) := by
  have hu30 := Try.underlying30
  obtain ⟨fa0, fa1⟩ := and15 a
  have hna : (Go.bits .and .i64 a 15).toNat < 16 := by omega
  obtain ⟨fb0, fb1⟩ := and15 b
  have hnb : (Go.bits .and .i64 b 15).toNat < 16 := by omega
  obtain ⟨fc0, fc1⟩ := and15 c'
  have hnc : (Go.bits .and .i64 c' 15).toNat < 16 := by omega
  have HL := Aside0.mk hl
  clear hl
  have M0 := Aside0.mk (Mem.start [3] w)
  go_enter Try.func20, Try.ntmps20
  go_wp2_with (first
    | (refine eB M0 4 (ctx pc r (.slice A l.length c)) 30 ?_; clear M0; intro g4 w4 M1)
    | (refine eB M1 5 (instC op a b c' m) 37 ?_; clear M1; intro g5 w5 M2)
    | (refine eB M2 8 (ctx 0 zeroR (.slice none 0 0)) 30 ?_; clear M2; intro g8 w8 M3)
    | (refine eC M3 10 0 17 (.slice A l.length c) ?_))
  refine (Hclone.clone_calls A c l _ (Kd.C_below HL.out M3.out.below) kl hlim).mono ?_
  rintro e W11 ⟨v11, rfl, hR, hb⟩
  obtain ⟨A11, c11, rfl⟩ := Kd.R_slice hR
  have M4 := Aside0.mk (Mem.row M3.out hb hR)
  clear M3 hR hb
  by_cases hg : op = 22 ∨ op = 28 ∨ op = 32 ∨ op = 33 ∨ op = 34 ∨ op = 47 ∨ op = 49 ∨ op = 50 ∨ op = 55 ∨ op = 56 ∨ op = 57
  · rcases hg with rfl | rfl | rfl | rfl | rfl | rfl | rfl | rfl | rfl | rfl | rfl
    all_goals
      go_wp2_with (first
        | (refine eS M4 28 12 0 17 (.slice A11 l.length c11) (ctx pc r (.slice A11 l.length c11)) ?_; clear M4; intro w_ M5)
        | (refine eC M5 14 1 0 (.int .i64 _) ?_)
        | (refine eC M5 28 1 1 (.int .i64 a) ?_)
        | (refine eS M5 2 32 0 (1 + (Go.bits .and .i64 a 15).toNat) (.int .i64 v) (ctx pc (r.set (Go.bits .and .i64 a 15).toNat v) (.slice A11 l.length c11)) (hj := ctx_some _ _ _ _ hna) (hnew := ctx_setreg _ _ _ _ hna _) ?_; clear M5; intro w_ M6)
        | (refine eL M6 57 0 hu30 ?_)
        | (refine eR M6 30 8 2 (ctx pc (r.set (Go.bits .and .i64 a 15).toNat v) (.slice A11 l.length c11)) ?_; clear M6; intro w_ M7))
      refine bodyPost_ret (results_cell_row rfl _ _ g8 30 (ctx pc (r.set (Go.bits .and .i64 a 15).toNat v) (.slice A11 l.length c11)) (0, 0) _ rfl (M7.out.at 2 rfl) hu30 rfl (by kernel_rfl)) rfl ⟨_, rfl, M7.out.own, M7.out.below⟩
  obtain ⟨n22, n28, n32, n33, n34, n47, n49, n50, n55, n56, n57⟩ : op ≠ 22 ∧ op ≠ 28 ∧ op ≠ 32 ∧ op ≠ 33 ∧ op ≠ 34 ∧ op ≠ 47 ∧ op ≠ 49 ∧ op ≠ 50 ∧ op ≠ 55 ∧ op ≠ 56 ∧ op ≠ 57 := by omega
  clear hg
  by_cases hg : op = 30 ∨ op = 51 ∨ op = 54
  · rcases hg with rfl | rfl | rfl
    all_goals
      go_wp2_with (first
        | (refine eS M4 28 12 0 17 (.slice A11 l.length c11) (ctx pc r (.slice A11 l.length c11)) ?_; clear M4; intro w_ M5)
        | (refine eC M5 14 1 0 (.int .i64 _) ?_)
        | (refine eC M5 38 1 1 (.int .i64 a) ?_)
        | (refine eS M5 2 42 0 (1 + (Go.bits .and .i64 a 15).toNat) (.int .i64 v) (ctx pc (r.set (Go.bits .and .i64 a 15).toNat v) (.slice A11 l.length c11)) (hj := ctx_some _ _ _ _ hna) (hnew := ctx_setreg _ _ _ _ hna _) ?_; clear M5; intro w_ M6)
        | (refine eC M6 44 1 2 (.int .i64 b) ?_)
        | (refine eS M6 2 48 0 (1 + (Go.bits .and .i64 b 15).toNat) (.int .i64 ok) (ctx pc ((r.set (Go.bits .and .i64 a 15).toNat v).set (Go.bits .and .i64 b 15).toNat ok) (.slice A11 l.length c11)) (hj := ctx_some _ _ _ _ hnb) (hnew := ctx_setreg _ _ _ _ hnb _) ?_; clear M6; intro w_ M7)
        | (refine eL M7 57 0 hu30 ?_)
        | (refine eR M7 30 8 2 (ctx pc ((r.set (Go.bits .and .i64 a 15).toNat v).set (Go.bits .and .i64 b 15).toNat ok) (.slice A11 l.length c11)) ?_; clear M7; intro w_ M8))
      refine bodyPost_ret (results_cell_row rfl _ _ g8 30 (ctx pc ((r.set (Go.bits .and .i64 a 15).toNat v).set (Go.bits .and .i64 b 15).toNat ok) (.slice A11 l.length c11)) (0, 0) _ rfl (M8.out.at 2 rfl) hu30 rfl (by kernel_rfl)) rfl ⟨_, rfl, M8.out.own, M8.out.below⟩
  obtain ⟨n30, n51, n54⟩ : op ≠ 30 ∧ op ≠ 51 ∧ op ≠ 54 := by omega
  clear hg
  by_cases hg : op = 53
  · rcases hg with rfl
    all_goals
      go_wp2_with (first
        | (refine eS M4 28 12 0 17 (.slice A11 l.length c11) (ctx pc r (.slice A11 l.length c11)) ?_; clear M4; intro w_ M5)
        | (refine eC M5 14 1 0 (.int .i64 _) ?_)
        | (refine eC M5 52 1 3 (.int .i64 c') ?_)
        | (refine eS M5 2 56 0 (1 + (Go.bits .and .i64 c' 15).toNat) (.int .i64 v) (ctx pc (r.set (Go.bits .and .i64 c' 15).toNat v) (.slice A11 l.length c11)) (hj := ctx_some _ _ _ _ hnc) (hnew := ctx_setreg _ _ _ _ hnc _) ?_; clear M5; intro w_ M6)
        | (refine eL M6 57 0 hu30 ?_)
        | (refine eR M6 30 8 2 (ctx pc (r.set (Go.bits .and .i64 c' 15).toNat v) (.slice A11 l.length c11)) ?_; clear M6; intro w_ M7))
      refine bodyPost_ret (results_cell_row rfl _ _ g8 30 (ctx pc (r.set (Go.bits .and .i64 c' 15).toNat v) (.slice A11 l.length c11)) (0, 0) _ rfl (M7.out.at 2 rfl) hu30 rfl (by kernel_rfl)) rfl ⟨_, rfl, M7.out.own, M7.out.below⟩
  have n53 := hg
  clear hg
  have hR0 : ansR op a b c' v ok r = r := by simp [ansR, n22, n28, n32, n33, n34, n47, n49, n50, n55, n56, n57, n30, n51, n54, n53]
  have HR0 := Lib.hid hR0
  clear hR0
  replace n22 := beq_eq_false_iff_ne.2 n22
  replace n28 := beq_eq_false_iff_ne.2 n28
  replace n32 := beq_eq_false_iff_ne.2 n32
  replace n33 := beq_eq_false_iff_ne.2 n33
  replace n34 := beq_eq_false_iff_ne.2 n34
  replace n47 := beq_eq_false_iff_ne.2 n47
  replace n49 := beq_eq_false_iff_ne.2 n49
  replace n50 := beq_eq_false_iff_ne.2 n50
  replace n55 := beq_eq_false_iff_ne.2 n55
  replace n56 := beq_eq_false_iff_ne.2 n56
  replace n57 := beq_eq_false_iff_ne.2 n57
  replace n30 := beq_eq_false_iff_ne.2 n30
  replace n51 := beq_eq_false_iff_ne.2 n51
  replace n54 := beq_eq_false_iff_ne.2 n54
  replace n53 := beq_eq_false_iff_ne.2 n53
  go_wp2_with (first
    | (refine eS M4 28 12 0 17 (.slice A11 l.length c11) (ctx pc r (.slice A11 l.length c11)) ?_; clear M4; intro w_ M5)
    | (refine eC M5 14 1 0 (.int .i64 op) ?_)
    | (refine eL M5 57 0 hu30 ?_)
    | (refine eR M5 30 8 2 (ctx pc r (.slice A11 l.length c11)) ?_; clear M5; intro w_ M6))
  rw [HR0.out]
  refine bodyPost_ret (results_cell_row rfl _ _ g8 30 (ctx pc r (.slice A11 l.length c11)) (0, 0) _ rfl (M6.out.at 2 rfl) hu30 rfl (by kernel_rfl)) rfl ⟨_, rfl, M6.out.own, M6.out.below⟩
set_option maxHeartbeats 2000000 in
set_option maxRecDepth 100000 in
theorem answer21 (op a b c' m v ok pc : Int) (r : Regs) (A : Option Addr) (c : Nat) (l : List Int) (w : World) (hl : Kd.C (Kd.int .i64) w A l.length l) (kl : l.length ≤ c) (hlim : l.length < 17592186044416) :
    Calls Try.prog 21 #[.agg (ctx pc r (.slice A l.length c)), .agg (instC op a b c' m), .int .i64 v, .int .i64 ok] w (PostC w pc (ansR op a b c' v ok r) l) := by
  have hu30 := Try.underlying30
  obtain ⟨fa0, fa1⟩ := and15 a
  have hna : (Go.bits .and .i64 a 15).toNat < 16 := by omega
  obtain ⟨fb0, fb1⟩ := and15 b
  have hnb : (Go.bits .and .i64 b 15).toNat < 16 := by omega
  obtain ⟨fc0, fc1⟩ := and15 c'
  have hnc : (Go.bits .and .i64 c' 15).toNat < 16 := by omega
  have HL := Aside0.mk hl
  clear hl
  have M0 := Aside0.mk (Mem.start [3] w)
  go_enter Try.func21, Try.ntmps21
  go_wp2_with (first
    | (refine eB M0 4 (ctx pc r (.slice A l.length c)) 30 ?_; clear M0; intro g4 w4 M1)
    | (refine eB M1 5 (instC op a b c' m) 37 ?_; clear M1; intro g5 w5 M2)
    | (refine eB M2 8 (ctx 0 zeroR (.slice none 0 0)) 30 ?_; clear M2; intro g8 w8 M3)
    | (refine eC M3 10 0 17 (.slice A l.length c) ?_))
  refine (rotaref09_calls_copy A c l _ (Kd.C_below HL.out M3.out.below) kl hlim).mono ?_
  rintro e W11 ⟨v11, rfl, hR, hb⟩
  obtain ⟨A11, c11, rfl⟩ := Kd.R_slice hR
  have M4 := Aside0.mk (Mem.row M3.out hb hR)
  clear M3 hR hb
  by_cases hg : op = 22 ∨ op = 28 ∨ op = 32 ∨ op = 33 ∨ op = 34 ∨ op = 47 ∨ op = 49 ∨ op = 50 ∨ op = 55 ∨ op = 56 ∨ op = 57
  · rcases hg with rfl | rfl | rfl | rfl | rfl | rfl | rfl | rfl | rfl | rfl | rfl
    all_goals
      go_wp2_with (first
        | (refine eS M4 28 12 0 17 (.slice A11 l.length c11) (ctx pc r (.slice A11 l.length c11)) ?_; clear M4; intro w_ M5)
        | (refine eC M5 14 1 0 (.int .i64 _) ?_)
        | (refine eC M5 28 1 1 (.int .i64 a) ?_)
        | (refine eS M5 2 32 0 (1 + (Go.bits .and .i64 a 15).toNat) (.int .i64 v) (ctx pc (r.set (Go.bits .and .i64 a 15).toNat v) (.slice A11 l.length c11)) (hj := ctx_some _ _ _ _ hna) (hnew := ctx_setreg _ _ _ _ hna _) ?_; clear M5; intro w_ M6)
        | (refine eL M6 57 0 hu30 ?_)
        | (refine eR M6 30 8 2 (ctx pc (r.set (Go.bits .and .i64 a 15).toNat v) (.slice A11 l.length c11)) ?_; clear M6; intro w_ M7))
      refine bodyPost_ret (results_cell_row rfl _ _ g8 30 (ctx pc (r.set (Go.bits .and .i64 a 15).toNat v) (.slice A11 l.length c11)) (0, 0) _ rfl (M7.out.at 2 rfl) hu30 rfl (by kernel_rfl)) rfl ⟨_, rfl, M7.out.own, M7.out.below⟩
  obtain ⟨n22, n28, n32, n33, n34, n47, n49, n50, n55, n56, n57⟩ : op ≠ 22 ∧ op ≠ 28 ∧ op ≠ 32 ∧ op ≠ 33 ∧ op ≠ 34 ∧ op ≠ 47 ∧ op ≠ 49 ∧ op ≠ 50 ∧ op ≠ 55 ∧ op ≠ 56 ∧ op ≠ 57 := by omega
  clear hg
  by_cases hg : op = 30 ∨ op = 51 ∨ op = 54
  · rcases hg with rfl | rfl | rfl
    all_goals
      go_wp2_with (first
        | (refine eS M4 28 12 0 17 (.slice A11 l.length c11) (ctx pc r (.slice A11 l.length c11)) ?_; clear M4; intro w_ M5)
        | (refine eC M5 14 1 0 (.int .i64 _) ?_)
        | (refine eC M5 38 1 1 (.int .i64 a) ?_)
        | (refine eS M5 2 42 0 (1 + (Go.bits .and .i64 a 15).toNat) (.int .i64 v) (ctx pc (r.set (Go.bits .and .i64 a 15).toNat v) (.slice A11 l.length c11)) (hj := ctx_some _ _ _ _ hna) (hnew := ctx_setreg _ _ _ _ hna _) ?_; clear M5; intro w_ M6)
        | (refine eC M6 44 1 2 (.int .i64 b) ?_)
        | (refine eS M6 2 48 0 (1 + (Go.bits .and .i64 b 15).toNat) (.int .i64 ok) (ctx pc ((r.set (Go.bits .and .i64 a 15).toNat v).set (Go.bits .and .i64 b 15).toNat ok) (.slice A11 l.length c11)) (hj := ctx_some _ _ _ _ hnb) (hnew := ctx_setreg _ _ _ _ hnb _) ?_; clear M6; intro w_ M7)
        | (refine eL M7 57 0 hu30 ?_)
        | (refine eR M7 30 8 2 (ctx pc ((r.set (Go.bits .and .i64 a 15).toNat v).set (Go.bits .and .i64 b 15).toNat ok) (.slice A11 l.length c11)) ?_; clear M7; intro w_ M8))
      refine bodyPost_ret (results_cell_row rfl _ _ g8 30 (ctx pc ((r.set (Go.bits .and .i64 a 15).toNat v).set (Go.bits .and .i64 b 15).toNat ok) (.slice A11 l.length c11)) (0, 0) _ rfl (M8.out.at 2 rfl) hu30 rfl (by kernel_rfl)) rfl ⟨_, rfl, M8.out.own, M8.out.below⟩
  obtain ⟨n30, n51, n54⟩ : op ≠ 30 ∧ op ≠ 51 ∧ op ≠ 54 := by omega
  clear hg
  by_cases hg : op = 53
  · rcases hg with rfl
    all_goals
      go_wp2_with (first
        | (refine eS M4 28 12 0 17 (.slice A11 l.length c11) (ctx pc r (.slice A11 l.length c11)) ?_; clear M4; intro w_ M5)
        | (refine eC M5 14 1 0 (.int .i64 _) ?_)
        | (refine eC M5 52 1 3 (.int .i64 c') ?_)
        | (refine eS M5 2 56 0 (1 + (Go.bits .and .i64 c' 15).toNat) (.int .i64 v) (ctx pc (r.set (Go.bits .and .i64 c' 15).toNat v) (.slice A11 l.length c11)) (hj := ctx_some _ _ _ _ hnc) (hnew := ctx_setreg _ _ _ _ hnc _) ?_; clear M5; intro w_ M6)
        | (refine eL M6 57 0 hu30 ?_)
        | (refine eR M6 30 8 2 (ctx pc (r.set (Go.bits .and .i64 c' 15).toNat v) (.slice A11 l.length c11)) ?_; clear M6; intro w_ M7))
      refine bodyPost_ret (results_cell_row rfl _ _ g8 30 (ctx pc (r.set (Go.bits .and .i64 c' 15).toNat v) (.slice A11 l.length c11)) (0, 0) _ rfl (M7.out.at 2 rfl) hu30 rfl (by kernel_rfl)) rfl ⟨_, rfl, M7.out.own, M7.out.below⟩
  have n53 := hg
  clear hg
  have hR0 : ansR op a b c' v ok r = r := by simp [ansR, n22, n28, n32, n33, n34, n47, n49, n50, n55, n56, n57, n30, n51, n54, n53]
  have HR0 := Lib.hid hR0
  clear hR0
  replace n22 := beq_eq_false_iff_ne.2 n22
  replace n28 := beq_eq_false_iff_ne.2 n28
  replace n32 := beq_eq_false_iff_ne.2 n32
  replace n33 := beq_eq_false_iff_ne.2 n33
  replace n34 := beq_eq_false_iff_ne.2 n34
  replace n47 := beq_eq_false_iff_ne.2 n47
  replace n49 := beq_eq_false_iff_ne.2 n49
  replace n50 := beq_eq_false_iff_ne.2 n50
  replace n55 := beq_eq_false_iff_ne.2 n55
  replace n56 := beq_eq_false_iff_ne.2 n56
  replace n57 := beq_eq_false_iff_ne.2 n57
  replace n30 := beq_eq_false_iff_ne.2 n30
  replace n51 := beq_eq_false_iff_ne.2 n51
  replace n54 := beq_eq_false_iff_ne.2 n54
  replace n53 := beq_eq_false_iff_ne.2 n53
  go_wp2_with (first
    | (refine eS M4 28 12 0 17 (.slice A11 l.length c11) (ctx pc r (.slice A11 l.length c11)) ?_; clear M4; intro w_ M5)
    | (refine eC M5 14 1 0 (.int .i64 op) ?_)
    | (refine eL M5 57 0 hu30 ?_)
    | (refine eR M5 30 8 2 (ctx pc r (.slice A11 l.length c11)) ?_; clear M5; intro w_ M6))
  rw [HR0.out]
  refine bodyPost_ret (results_cell_row rfl _ _ g8 30 (ctx pc r (.slice A11 l.length c11)) (0, 0) _ rfl (M6.out.at 2 rfl) hu30 rfl (by kernel_rfl)) rfl ⟨_, rfl, M6.out.own, M6.out.below⟩
end Go.Proofs.Ythjfmlehkcccfaa.Hans
end

section
/-
  StepRuns, walked.
-/
set_option linter.unusedVariables false
set_option linter.unusedSimpArgs false
namespace Go.Proofs.Ythjfmlehkcccfaa.Hlaw7
open Go.RowKit Go.Proofs.YthjfmlehkcccfaaW.PrintWords Go.Proofs.YthjfmlehkcccfaaW.PrintLast Go.Proofs.YthjfmlehkcccfaaW.PrintMore GA Hctx Hsmall Qnext Qstep Hstep Hlives Hsame Heq Hans Hlaw3

theorem neq_want (w : World) (op o a b c m x y z t k : Int) : (binOp .neq 40 (.agg (wantC op o a b c m x y z t k)) (.agg (wantC op o a b c m x y z t k))).run Try.prog w = .ok (.bool false) w := by
  rw [run_neq_struct]
  unfold wantC
  rw [show (10000 : Nat) = 9997 + 3 from rfl, eqA40 9997 w]
  simp

set_option maxHeartbeats 2000000 in
set_option maxRecDepth 100000 in
theorem law_runs (l0 : List Int) (l1 : List S75) (l2 : List S98) (A0 A1 A2 : Option Addr) (c0 c1 c2 : Nat) (pc : Int) (r : Regs) (A : Option Addr) (c : Nat) (l : List Int) (w : World)
    (h0 : Kd.C (Kd.int .u32) w A0 l0.length l0) (k0 : l0.length ≤ c0) (h1 : Kd.C k75 w A1 l1.length l1) (k1 : l1.length ≤ c1) (h2 : Kd.C k98 w A2 l2.length l2) (k2 : l2.length ≤ c2) (hl : Kd.C (Kd.int .i64) w A l.length l) (kl : l.length ≤ c) (hlim : l.length < 17592186044416) (A3 : Option Addr) (c3 : Nat) (la : List Int) (h3 : Kd.C (Kd.int .i64) w A3 la.length la) (k3 : la.length ≤ c3) (hla : la.length < 17592186044416) (hw : ∀ x ∈ l0, 0 ≤ x ∧ x < 4294967296) :
    Calls Try.prog 7 #[.agg (#[.slice A0 l0.length c0, .slice A1 l1.length c1, .slice A2 l2.length c2] : Array Value), .agg (ctx pc r (.slice A l.length c)), .slice A3 la.length c3] w fun e w' => e = .returned (.bool true) ∧ Below w.heap.size w w' := by
  have hg := Try.eqGuardType40
  have HW := Aside0.mk hw
  have HA := Aside0.mk h3
  clear hw h3
  have hu26 := Try.underlying26
  have hu30 := Try.underlying30
  have hu35 := Try.underlying35
  have hu37 := Try.underlying37
  have hu40 := Try.underlying40
  have H0 := Aside0.mk h0
  clear h0
  have H1 := Aside0.mk h1
  clear h1
  have H2 := Aside0.mk h2
  clear h2
  have HL := Aside0.mk hl
  clear hl
  have M0 := Aside0.mk (Mem.start [3] w)
  go_enter Try.func7, Try.ntmps7
  go_wp2_with (first
      | (refine eB M0 3 (#[.slice A0 l0.length c0, .slice A1 l1.length c1, .slice A2 l2.length c2] : Array Value) 26 ?_; clear M0; intro g3 w3 M1)
      | (refine eB M1 4 (ctx pc r (.slice A l.length c)) 30 ?_; clear M1; intro g4 w4 M2))
  refine (lives_calls _).mono ?_
  rintro e W12 ⟨rfl, hb⟩
  have M3 := Aside0.mk (Mem.call M2.out hb)
  clear M2 hb
  go_wp2_with fail
  refine dJoin (σ := (Nat) × (Option Addr) × (Nat) × (Option Addr) × (Nat)) (fun s => [(7, .pointer (some ⟨s.1, 0, none⟩)), (14, .agg (ctx pc r (.slice A l.length c))), (15, .agg (ctx pc r (.slice s.2.1 l.length s.2.2.1))), (16, .agg (ctx pc r (.slice A l.length c))), (17, .agg (ctx pc r (.slice s.2.2.2.1 l.length s.2.2.2.2)))]) (fun s w' => Aside0 (Mem [3] w w' [(g3, (#[.slice A0 l0.length c0, .slice A1 l1.length c1, .slice A2 l2.length c2] : Array Value), 26), (g4, (ctx pc r (.slice s.2.1 l.length s.2.2.1)), 30), (s.1, (ctx pc r (.slice s.2.2.2.1 l.length s.2.2.2.2)), 30)] [⟨Kd.int .i64, 3, .slice s.2.1 l.length s.2.2.1, l⟩, ⟨Kd.int .i64, 3, .slice s.2.2.2.1 l.length s.2.2.2.2, l⟩])) ?_ (fun hK => ?_)
  rotate_left
  · simp only [putAll, Act.put, List.setIfInBounds_toArray, List.set_cons_zero, List.set_cons_succ] at hK
    refine dStart [5, 6] [] M3 (fun w' M => ?_)
    clear M3
    have M4 := M
    clear M
    refine dL M4 0 14 1 hu30 ?_
    simp only [Act.put, List.setIfInBounds_toArray, List.set_cons_zero, List.set_cons_succ]
    refine dL M4 2 16 1 hu30 ?_
    simp only [Act.put, List.setIfInBounds_toArray, List.set_cons_zero, List.set_cons_succ]
    refine dR [1, 4] ?_
    refine qK 1 15 Try.func12 #[.agg (ctx pc r (.slice A l.length c))] ?_ ?_
    · refine (twin_calls pc r A c l _ (Kd.C_below HL.out M4.out.below) kl hlim).mono ?_
      rintro e W15 ⟨v15, rfl, hR, hb⟩
      obtain ⟨A15, c15, rfl⟩ := Kd.R_slice hR
      have M5 := Aside0.mk (Mem.row M4.out hb hR)
      clear M4 hb hR
      refine ⟨_, rfl, M5.out.held (Cells.nil _) rfl, ?_⟩
      simp only [Act.put, List.setIfInBounds_toArray, List.set_cons_zero, List.set_cons_succ]
      refine dR [3, 4] ?_
      refine qK 3 17 Try.func12 #[.agg (ctx pc r (.slice A l.length c))] ?_ ?_
      · refine (twin_calls pc r A c l _ (Kd.C_below HL.out M5.out.below) kl hlim).mono ?_
        rintro e W17 ⟨v17, rfl, hR, hb⟩
        obtain ⟨A17, c17, rfl⟩ := Kd.R_slice hR
        have M6 := Aside0.mk (Mem.row M5.out hb hR)
        clear M5 hb hR
        refine ⟨_, rfl, M6.out.held (Cells.nil _) rfl, ?_⟩
        simp only [Act.put, List.setIfInBounds_toArray, List.set_cons_zero, List.set_cons_succ]
        refine dR [4] ?_
        refine qA M6 4 7 30 (ctx 0 zeroR (.slice none 0 0)) ?_ ?_
        · clear M6
          intro g7 w7 M7
          simp only [Act.put, List.setIfInBounds_toArray, List.set_cons_zero, List.set_cons_succ]
          refine dR [5] ?_
          refine qS M7 5 30 4 1 (ctx pc r (.slice A15 l.length c15)) ?_ ?_
          · clear M7
            intro w_ M8
            refine dR [6] ?_
            refine qS M8 6 30 7 2 (ctx pc r (.slice A17 l.length c17)) ?_ ?_
            · clear M8
              intro w_ M9
              refine dDone ?_
              exact hK (g7, A15, c15, A17, c17) _ (Aside0.mk (Mem.pick2 M9.out 1 0 (by decide) rfl rfl))
            exact AllReadyL.nil
          exact AllReadyL.nil
        exact AllReadyL.nil
      refine qA M5 4 7 30 (ctx 0 zeroR (.slice none 0 0)) ?_ ?_
      · clear M5
        intro g7 w7 M6
        simp only [Act.put, List.setIfInBounds_toArray, List.set_cons_zero, List.set_cons_succ]
        refine dR [3] ?_
        refine qK 3 17 Try.func12 #[.agg (ctx pc r (.slice A l.length c))] ?_ ?_
        · refine (twin_calls pc r A c l _ (Kd.C_below HL.out M6.out.below) kl hlim).mono ?_
          rintro e W17 ⟨v17, rfl, hR, hb⟩
          obtain ⟨A17, c17, rfl⟩ := Kd.R_slice hR
          have M7 := Aside0.mk (Mem.row M6.out hb hR)
          clear M6 hb hR
          refine ⟨_, rfl, M7.out.held (Cells.nil _) rfl, ?_⟩
          simp only [Act.put, List.setIfInBounds_toArray, List.set_cons_zero, List.set_cons_succ]
          refine dR [5] ?_
          refine qS M7 5 30 4 1 (ctx pc r (.slice A15 l.length c15)) ?_ ?_
          · clear M7
            intro w_ M8
            refine dR [6] ?_
            refine qS M8 6 30 7 2 (ctx pc r (.slice A17 l.length c17)) ?_ ?_
            · clear M8
              intro w_ M9
              refine dDone ?_
              exact hK (g7, A15, c15, A17, c17) _ (Aside0.mk (Mem.pick2 M9.out 1 0 (by decide) rfl rfl))
            exact AllReadyL.nil
          exact AllReadyL.nil
        exact AllReadyL.nil
      exact AllReadyL.nil
    refine qA M4 4 7 30 (ctx 0 zeroR (.slice none 0 0)) ?_ ?_
    · clear M4
      intro g7 w7 M5
      simp only [Act.put, List.setIfInBounds_toArray, List.set_cons_zero, List.set_cons_succ]
      refine dR [1] ?_
      refine qK 1 15 Try.func12 #[.agg (ctx pc r (.slice A l.length c))] ?_ ?_
      · refine (twin_calls pc r A c l _ (Kd.C_below HL.out M5.out.below) kl hlim).mono ?_
        rintro e W15 ⟨v15, rfl, hR, hb⟩
        obtain ⟨A15, c15, rfl⟩ := Kd.R_slice hR
        have M6 := Aside0.mk (Mem.row M5.out hb hR)
        clear M5 hb hR
        refine ⟨_, rfl, M6.out.held (Cells.nil _) rfl, ?_⟩
        simp only [Act.put, List.setIfInBounds_toArray, List.set_cons_zero, List.set_cons_succ]
        refine dR [3] ?_
        refine qK 3 17 Try.func12 #[.agg (ctx pc r (.slice A l.length c))] ?_ ?_
        · refine (twin_calls pc r A c l _ (Kd.C_below HL.out M6.out.below) kl hlim).mono ?_
          rintro e W17 ⟨v17, rfl, hR, hb⟩
          obtain ⟨A17, c17, rfl⟩ := Kd.R_slice hR
          have M7 := Aside0.mk (Mem.row M6.out hb hR)
          clear M6 hb hR
          refine ⟨_, rfl, M7.out.held (Cells.nil _) rfl, ?_⟩
          simp only [Act.put, List.setIfInBounds_toArray, List.set_cons_zero, List.set_cons_succ]
          refine dR [5] ?_
          refine qS M7 5 30 4 1 (ctx pc r (.slice A15 l.length c15)) ?_ ?_
          · clear M7
            intro w_ M8
            refine dR [6] ?_
            refine qS M8 6 30 7 2 (ctx pc r (.slice A17 l.length c17)) ?_ ?_
            · clear M8
              intro w_ M9
              refine dDone ?_
              exact hK (g7, A15, c15, A17, c17) _ (Aside0.mk (Mem.pick2 M9.out 1 0 (by decide) rfl rfl))
            exact AllReadyL.nil
          exact AllReadyL.nil
        exact AllReadyL.nil
      exact AllReadyL.nil
    exact AllReadyL.nil
  rintro ⟨g7, A15, c15, A17, c17⟩ W_3 M10
  dsimp only at M10 ⊢
  simp only [putAll, Act.put, List.setIfInBounds_toArray, List.set_cons_zero, List.set_cons_succ]
  go_wp2_with fail
  go_loopw [8] (fun v8 wr => ∃ (k : Nat) (pc : Int) (r : Regs) (lc : List Int) (B : Option Addr) (cB : Nat) (D : Option Addr) (cD : Nat), k ≤ la.length ∧ v8 = .int .i64 k ∧ lc.length < 17592186044416 ∧ Mem [3] w wr [(g3, (#[.slice A0 l0.length c0, .slice A1 l1.length c1, .slice A2 l2.length c2] : Array Value), 26), (g4, ctx pc r (.slice B lc.length cB), 30), (g7, ctx pc r (.slice D lc.length cD), 30)] [⟨Kd.int .i64, 3, .slice B lc.length cB, lc⟩, ⟨Kd.int .i64, 3, .slice D lc.length cD, lc⟩]) (fun v8 _ => la.length - (intOf v8).toNat)
  case atStart => exact ⟨0, pc, r, l, _, _, _, _, by omega, rfl, hlim, M10.out⟩
  obtain ⟨k, pc, r, lc, B, cB, D, cD, hk, rfl, hlc, M⟩ := hrel
  have ML := Aside0.mk M
  clear M M10
  have M11 := ML
  clear ML
  by_cases bK : k < la.length
  · obtain ⟨pc', r', l', q1, q2, q3, q4, q5, q6, q7, q8, q9, q10, q11, hlim', c11, c13⟩ := step_both l0 l1 l2 pc r lc (k : Int) 3 2 HW.out hlc
    have C11 := Lib.hid c11
    have C13 := Lib.hid c13
    clear c11 c13
    have hq : ∀ W, (binOp .neq 40 (.agg (wantC q1 q2 q3 q4 q5 q6 q7 q8 q9 q10 q11)) (.agg (wantC q1 q2 q3 q4 q5 q6 q7 q8 q9 q10 q11))).run Try.prog W = .ok (.bool false) W := fun W => neq_want W q1 q2 q3 q4 q5 q6 q7 q8 q9 q10 q11
    obtain ⟨ad, rfl, hx⟩ := Kd.at_int HA.out (k : Int) (by omega) (by omega)
    rw [Int.toNat_natCast] at hx
    have HT := Cells.one hx
    clear hx
    have p1 : (0 : Int) ≤ (k : Int) := by omega
    have p2 : (k : Int) < (la.length : Int) := by omega
    have p3 : (k : Int) < 9223372036854775807 := by omega
    go_wp2_with (first
        | (refine eB M11 9 #[.int .u64 0, .int .i64 0, .int .i64 0] 35 ?_; clear M11; intro g9 w9 M12)
        | (refine eR M12 35 9 3 #[.int .u64 (k : Int), .int .i64 3, .int .i64 2] ?_; clear M12; intro w_ M13)
        | (refine eB M13 10 want0 40 ?_; clear M13; intro g10 w10 M14)
        | (refine eB M14 11 want0 40 ?_; clear M14; intro g11 w11 M15)
        | (refine eR M15 40 10 4 want0 ?_; clear M15; intro w_ M16)
        | (refine eR M16 40 11 5 want0 ?_; clear M16; intro w_ M17)
        | (refine eL M17 31 0 hu26 ?_)
        | (refine eL M17 32 1 hu30 ?_)
        | (refine eL M17 33 3 hu35 ?_))
    refine (C11.out A0 A1 A2 c0 c1 c2 B cB _ (Kd.C_below H0.out M17.out.below) k0 (Kd.C_below H1.out M17.out.below) k1 (Kd.C_below H2.out M17.out.below) k2 (Kd.R_reads' (M17.out.ownAt 0 rfl)).2.2 (Kd.R_reads' (M17.out.ownAt 0 rfl)).2.1).mono ?_
    rintro e W34 ⟨v34, rfl, hR, hb⟩
    obtain ⟨A34, c34, rfl⟩ := Kd.R_slice hR
    have M18 := Aside0.mk (Mem.row M17.out hb hR)
    clear M17 hR hb
    go_wp2_with (first
        | (refine eR M18 30 4 1 (ctx pc' r' (.slice A34 l'.length c34)) ?_; clear M18; intro w_ M19)
        | (refine eR M19 40 10 4 (wantC q1 q2 q3 q4 q5 q6 q7 q8 q9 q10 q11) ?_; clear M19; intro w_ M20)
        | (refine eL M20 38 0 hu26 ?_)
        | (refine eL M20 39 2 hu30 ?_)
        | (refine eL M20 40 3 hu35 ?_))
    refine (C13.out A0 A1 A2 c0 c1 c2 D cD _ (Kd.C_below H0.out M20.out.below) k0 (Kd.C_below H1.out M20.out.below) k1 (Kd.C_below H2.out M20.out.below) k2 (Kd.R_reads' (M20.out.ownAt 2 rfl)).2.2 (Kd.R_reads' (M20.out.ownAt 2 rfl)).2.1).mono ?_
    rintro e W41 ⟨v41, rfl, hR, hb⟩
    obtain ⟨A41, c41, rfl⟩ := Kd.R_slice hR
    have M21 := Aside0.mk (Mem.row M20.out hb hR)
    clear M20 hR hb
    go_wp2_with (first
        | (refine eR M21 30 7 2 (ctx pc' r' (.slice A41 l'.length c41)) ?_; clear M21; intro w_ M22)
        | (refine eR M22 40 11 5 (wantC q1 q2 q3 q4 q5 q6 q7 q8 q9 q10 q11) ?_; clear M22; intro w_ M23)
        | (refine eL M23 44 4 hu40 ?_)
        | (refine eL M23 45 5 hu40 ?_)
        | ((with_reducible refine gate_dst (N := 48) rfl ?_); (refine gate_guard (by rfl) ?_; dsimp only); refine eL M23 48 1 hu30 ?_)
        | ((with_reducible refine gate_dst (N := 49) rfl ?_); (refine gate_guard (by rfl) ?_; dsimp only); refine eL M23 49 2 hu30 ?_))
    refine (same_calls pc' r' A34 A41 c34 c41 l' _ (Kd.R_reads' (M23.out.ownAt 1 rfl)).2.2 (Kd.R_reads' M23.out.own).2.2 hlim').mono ?_
    rintro e W50 ⟨rfl, hb⟩
    have M24 := Aside0.mk (Mem.call M23.out hb)
    clear M23 hb
    by_cases b1 : q1 = 58
    · have e1 : (q1 == 58) = true := beq_iff_eq.mpr b1
      clear b1
      go_wp2_with (first
          | (refine eC M24 54 4 0 (.int .i64 q1) ?_))
      go_ret
      exact ⟨rfl, M24.out.below⟩
    · have e1 : (q1 == 58) = false := beq_eq_false_iff_ne.mpr b1
      clear b1
      by_cases b2 : q1 = 24
      · have e2 : (q1 == 24) = true := beq_iff_eq.mpr b2
        clear b2
        go_wp2_with (first
            | (refine eC M24 54 4 0 (.int .i64 q1) ?_)
            | ((with_reducible refine gate_dst (N := 58) rfl ?_); (refine gate_guard (by rfl) ?_; dsimp only); refine eC M24 58 4 0 (.int .i64 q1) ?_))
        go_ret
        exact ⟨rfl, M24.out.below⟩
      · have e2 : (q1 == 24) = false := beq_eq_false_iff_ne.mpr b2
        clear b2
        by_cases b3 : q1 = 0
        · have e3 : (q1 != 0) = false := bne_eq_false_iff_eq.mpr b3
          clear b3
          go_wp2_with (first
              | (refine eC M24 54 4 0 (.int .i64 q1) ?_)
              | ((with_reducible refine gate_dst (N := 58) rfl ?_); (refine gate_guard (by rfl) ?_; dsimp only); refine eC M24 58 4 0 (.int .i64 q1) ?_)
              | (refine eC M24 62 4 0 (.int .i64 q1) ?_))
          go_roundw
          case rel => exact ⟨k + 1, pc', r', l', _, _, _, _, by omega, by go_num, hlim', (M24.out.forget 3).pick2 1 0 (by decide) rfl rfl⟩
          case measure => simp [intOf]; omega
        · have e3 : (q1 != 0) = true := bne_iff_ne.mpr b3
          clear b3
          go_wp2_with (first
              | (refine eC M24 54 4 0 (.int .i64 q1) ?_)
              | ((with_reducible refine gate_dst (N := 58) rfl ?_); (refine gate_guard (by rfl) ?_; dsimp only); refine eC M24 58 4 0 (.int .i64 q1) ?_)
              | (refine eC M24 62 4 0 (.int .i64 q1) ?_))
          refine dJoin (σ := (Option Addr) × (Nat)) (fun s => [(64, .agg (ctx pc' r' (.slice A34 l'.length c34))), (65, .pointer (some ⟨g10, 1, none⟩)), (66, .agg #[.int .i64 q2, .int .i64 q3, .int .i64 q4, .int .i64 q5, .int .i64 q6]), (67, .slice (some ad) la.length c3), (68, .int .i64 (k : Int)), (69, .pointer (some (ad.add k))), (70, .int .i64 (rd la k)), (71, .int .i64 (k : Int)), (72, .int .i64 (Go.bits .and .i64 (k : Int) 1)), (73, .agg (ctx pc' (ansR q2 q3 q4 q5 (rd la k) (Go.bits .and .i64 (k : Int) 1) r') (.slice s.1 l'.length s.2)))]) (fun s w' => Aside0 (Mem [3] w w' [(g3, (#[.slice A0 l0.length c0, .slice A1 l1.length c1, .slice A2 l2.length c2] : Array Value), 26), (g4, (ctx pc' (ansR q2 q3 q4 q5 (rd la k) (Go.bits .and .i64 (k : Int) 1) r') (.slice s.1 l'.length s.2)), 30), (g7, (ctx pc' r' (.slice A41 l'.length c41)), 30), (g9, #[.int .u64 (k : Int), .int .i64 3, .int .i64 2], 35), (g10, (wantC q1 q2 q3 q4 q5 q6 q7 q8 q9 q10 q11), 40), (g11, (wantC q1 q2 q3 q4 q5 q6 q7 q8 q9 q10 q11), 40)] [⟨Kd.int .i64, 3, .slice s.1 l'.length s.2, l'⟩, ⟨Kd.int .i64, 3, .slice A41 l'.length c41, l'⟩, ⟨Kd.int .i64, 3, .slice A34 l'.length c34, l'⟩, ⟨Kd.int .i64, 3, .slice B lc.length cB, lc⟩, ⟨Kd.int .i64, 3, .slice D lc.length cD, lc⟩])) ?_ (fun hK => ?_)
          rotate_left
          · simp only [putAll, Act.put, List.setIfInBounds_toArray, List.set_cons_zero, List.set_cons_succ] at hK
            refine dStart [10] [((ad.add k), (.int .i64 (rd la k)))] M24 (fun w' M => ?_)
            clear M24
            have M25 := M
            clear M
            refine dL M25 0 64 1 hu30 ?_
            simp only [Act.put, List.setIfInBounds_toArray, List.set_cons_zero, List.set_cons_succ]
            refine dP 1 65 (.pointer (some ⟨g10, 1, none⟩)) ?_
            simp only [Act.put, List.setIfInBounds_toArray, List.set_cons_zero, List.set_cons_succ]
            refine dM M25 2 66 4 1 [.int .i64 q2, .int .i64 q3, .int .i64 q4, .int .i64 q5, .int .i64 q6] hu37 ?_
            simp only [Act.put, List.setIfInBounds_toArray, List.set_cons_zero, List.set_cons_succ]
            refine dP 3 67 (.slice (some ad) la.length c3) ?_
            simp only [Act.put, List.setIfInBounds_toArray, List.set_cons_zero, List.set_cons_succ]
            refine dP 4 68 (.int .i64 (k : Int)) ?_
            simp only [Act.put, List.setIfInBounds_toArray, List.set_cons_zero, List.set_cons_succ]
            refine dP 5 69 (.pointer (some (ad.add k))) ?_
            simp only [Act.put, List.setIfInBounds_toArray, List.set_cons_zero, List.set_cons_succ]
            refine dE M25 6 70 0 ?_
            simp only [Act.put, List.setIfInBounds_toArray, List.set_cons_zero, List.set_cons_succ]
            refine dP 7 71 (.int .i64 (k : Int)) ?_
            simp only [Act.put, List.setIfInBounds_toArray, List.set_cons_zero, List.set_cons_succ]
            refine dP 8 72 (.int .i64 (Go.bits .and .i64 (k : Int) 1)) ?_
            simp only [Act.put, List.setIfInBounds_toArray, List.set_cons_zero, List.set_cons_succ]
            refine dR [9] ?_
            refine qK 9 73 Try.func20 #[.agg (ctx pc' r' (.slice A34 l'.length c34)), .agg #[.int .i64 q2, .int .i64 q3, .int .i64 q4, .int .i64 q5, .int .i64 q6], .int .i64 (rd la k), .int .i64 (Go.bits .and .i64 (k : Int) 1)] ?_ ?_
            · refine (answer20 q2 q3 q4 q5 q6 (rd la k) (Go.bits .and .i64 (k : Int) 1) pc' r' A34 c34 l' _ (Kd.R_reads' (M25.out.ownAt 1 rfl)).2.2 (Kd.R_reads' (M25.out.ownAt 1 rfl)).2.1 hlim').mono ?_
              rintro e W73 ⟨v73, rfl, hR, hb⟩
              obtain ⟨A73, c73, rfl⟩ := Kd.R_slice hR
              have M26 := Aside0.mk (Mem.row M25.out hb hR)
              clear M25 hb hR
              refine ⟨_, rfl, M26.out.held HT rfl, ?_⟩
              simp only [Act.put, List.setIfInBounds_toArray, List.set_cons_zero, List.set_cons_succ]
              refine dR [10] ?_
              refine qS M26 10 30 4 1 (ctx pc' (ansR q2 q3 q4 q5 (rd la k) (Go.bits .and .i64 (k : Int) 1) r') (.slice A73 l'.length c73)) ?_ ?_
              · clear M26
                intro w_ M27
                refine dDone ?_
                exact hK (A73, c73) _ M27
              exact AllReadyL.nil
            exact AllReadyL.nil
          rintro ⟨A73, c73⟩ W_16 M28
          dsimp only at M28 ⊢
          simp only [putAll, Act.put, List.setIfInBounds_toArray, List.set_cons_zero, List.set_cons_succ]
          go_wp2_with fail
          refine dJoin (σ := (Option Addr) × (Nat)) (fun s => [(74, .agg (ctx pc' r' (.slice A41 l'.length c41))), (75, .pointer (some ⟨g11, 1, none⟩)), (76, .agg #[.int .i64 q2, .int .i64 q3, .int .i64 q4, .int .i64 q5, .int .i64 q6]), (77, .slice (some ad) la.length c3), (78, .int .i64 (k : Int)), (79, .pointer (some (ad.add k))), (80, .int .i64 (rd la k)), (81, .int .i64 (k : Int)), (82, .int .i64 (Go.bits .and .i64 (k : Int) 1)), (83, .agg (ctx pc' (ansR q2 q3 q4 q5 (rd la k) (Go.bits .and .i64 (k : Int) 1) r') (.slice s.1 l'.length s.2)))]) (fun s w' => Aside0 (Mem [3] w w' [(g3, (#[.slice A0 l0.length c0, .slice A1 l1.length c1, .slice A2 l2.length c2] : Array Value), 26), (g4, (ctx pc' (ansR q2 q3 q4 q5 (rd la k) (Go.bits .and .i64 (k : Int) 1) r') (.slice A73 l'.length c73)), 30), (g7, (ctx pc' (ansR q2 q3 q4 q5 (rd la k) (Go.bits .and .i64 (k : Int) 1) r') (.slice s.1 l'.length s.2)), 30), (g9, #[.int .u64 (k : Int), .int .i64 3, .int .i64 2], 35), (g10, (wantC q1 q2 q3 q4 q5 q6 q7 q8 q9 q10 q11), 40), (g11, (wantC q1 q2 q3 q4 q5 q6 q7 q8 q9 q10 q11), 40)] [⟨Kd.int .i64, 3, .slice s.1 l'.length s.2, l'⟩, ⟨Kd.int .i64, 3, .slice A73 l'.length c73, l'⟩, ⟨Kd.int .i64, 3, .slice A41 l'.length c41, l'⟩, ⟨Kd.int .i64, 3, .slice A34 l'.length c34, l'⟩, ⟨Kd.int .i64, 3, .slice B lc.length cB, lc⟩, ⟨Kd.int .i64, 3, .slice D lc.length cD, lc⟩])) ?_ (fun hK => ?_)
          rotate_left
          · simp only [putAll, Act.put, List.setIfInBounds_toArray, List.set_cons_zero, List.set_cons_succ] at hK
            refine dStart [10] [((ad.add k), (.int .i64 (rd la k)))] M28 (fun w' M => ?_)
            clear M28
            have M29 := M
            clear M
            refine dL M29 0 74 2 hu30 ?_
            simp only [Act.put, List.setIfInBounds_toArray, List.set_cons_zero, List.set_cons_succ]
            refine dP 1 75 (.pointer (some ⟨g11, 1, none⟩)) ?_
            simp only [Act.put, List.setIfInBounds_toArray, List.set_cons_zero, List.set_cons_succ]
            refine dM M29 2 76 5 1 [.int .i64 q2, .int .i64 q3, .int .i64 q4, .int .i64 q5, .int .i64 q6] hu37 ?_
            simp only [Act.put, List.setIfInBounds_toArray, List.set_cons_zero, List.set_cons_succ]
            refine dP 3 77 (.slice (some ad) la.length c3) ?_
            simp only [Act.put, List.setIfInBounds_toArray, List.set_cons_zero, List.set_cons_succ]
            refine dP 4 78 (.int .i64 (k : Int)) ?_
            simp only [Act.put, List.setIfInBounds_toArray, List.set_cons_zero, List.set_cons_succ]
            refine dP 5 79 (.pointer (some (ad.add k))) ?_
            simp only [Act.put, List.setIfInBounds_toArray, List.set_cons_zero, List.set_cons_succ]
            refine dE M29 6 80 0 ?_
            simp only [Act.put, List.setIfInBounds_toArray, List.set_cons_zero, List.set_cons_succ]
            refine dP 7 81 (.int .i64 (k : Int)) ?_
            simp only [Act.put, List.setIfInBounds_toArray, List.set_cons_zero, List.set_cons_succ]
            refine dP 8 82 (.int .i64 (Go.bits .and .i64 (k : Int) 1)) ?_
            simp only [Act.put, List.setIfInBounds_toArray, List.set_cons_zero, List.set_cons_succ]
            refine dR [9] ?_
            refine qK 9 83 Try.func21 #[.agg (ctx pc' r' (.slice A41 l'.length c41)), .agg #[.int .i64 q2, .int .i64 q3, .int .i64 q4, .int .i64 q5, .int .i64 q6], .int .i64 (rd la k), .int .i64 (Go.bits .and .i64 (k : Int) 1)] ?_ ?_
            · refine (answer21 q2 q3 q4 q5 q6 (rd la k) (Go.bits .and .i64 (k : Int) 1) pc' r' A41 c41 l' _ (Kd.R_reads' (M29.out.ownAt 1 rfl)).2.2 (Kd.R_reads' (M29.out.ownAt 1 rfl)).2.1 hlim').mono ?_
              rintro e W83 ⟨v83, rfl, hR, hb⟩
              obtain ⟨A83, c83, rfl⟩ := Kd.R_slice hR
              have M30 := Aside0.mk (Mem.row M29.out hb hR)
              clear M29 hb hR
              refine ⟨_, rfl, M30.out.held HT rfl, ?_⟩
              simp only [Act.put, List.setIfInBounds_toArray, List.set_cons_zero, List.set_cons_succ]
              refine dR [10] ?_
              refine qS M30 10 30 7 2 (ctx pc' (ansR q2 q3 q4 q5 (rd la k) (Go.bits .and .i64 (k : Int) 1) r') (.slice A83 l'.length c83)) ?_ ?_
              · clear M30
                intro w_ M31
                refine dDone ?_
                exact hK (A83, c83) _ M31
              exact AllReadyL.nil
            exact AllReadyL.nil
          rintro ⟨A83, c83⟩ W_17 M32
          dsimp only at M32 ⊢
          simp only [putAll, Act.put, List.setIfInBounds_toArray, List.set_cons_zero, List.set_cons_succ]
          go_wp2_with fail
          go_roundw
          case rel => exact ⟨k + 1, pc', (ansR q2 q3 q4 q5 (rd la k) (Go.bits .and .i64 (k : Int) 1) r'), l', _, _, _, _, by omega, by go_num, hlim', (M32.out.forget 3).pick2 1 0 (by decide) rfl rfl⟩
          case measure => simp [intOf]; omega
  · have p2 : ¬ (k : Int) < (la.length : Int) := by omega
    go_wp2_with (first
        | (refine eL M11 84 1 hu30 ?_)
        | (refine eL M11 85 2 hu30 ?_))
    refine (same_calls pc r B D cB cD lc _ (Kd.R_reads' (M11.out.ownAt 0 rfl)).2.2 (Kd.R_reads' (M11.out.ownAt 1 rfl)).2.2 hlc).mono ?_
    rintro e W86 ⟨rfl, hb⟩
    have M12 := Aside0.mk (Mem.call M11.out hb)
    clear M11 hb
    go_wp2_with fail
    go_ret
    exact ⟨rfl, M12.out.below⟩
end Go.Proofs.Ythjfmlehkcccfaa.Hlaw7
end

section
/-
  What a list of answers opens to.
-/
namespace Go.Proofs.Ythjfmlehkcccfaa.Kinds2
open Go.Proofs.YthjfmlehkcccfaaW.PrintWords Go.Proofs.Ythjfmlehkcccfaa.Opn Go.Proofs.Ythjfmlehkcccfaa.GA Go.Proofs.Ythjfmlehkcccfaa.Hctx Go.Proofs.Ythjfmlehkcccfaa.Kinds
theorem o57 : Opens Try.prog 57 (Kd.slice 2 (Kd.int .i64)) (GSl 8 (GInt .i64)) := opens_slice o2 Try.underlying57 (by kernel_rfl) (B := 8) (by kernel_rfl)
end Go.Proofs.Ythjfmlehkcccfaa.Kinds2
end

section
/-
  Many steps, each answered, go as the reference says, whatever the program, the context and the answers.
-/
set_option linter.unusedVariables false
set_option linter.unusedSimpArgs false
namespace Go.Proofs.Ythjfmlehkcccfaa.stepRuns
open Go.ChangeShapes Go.WideShapes Go.ChangeAt Go.RowKit Go.Proofs.YthjfmlehkcccfaaW.PrintWords Go.Proofs.Ythjfmlehkcccfaa.Opn
open Go.ChangeMaps (open_string shut_string)
theorem own : ownKnob Try.prog.godebug = none := by kernel_rfl
theorem laidOut : laidOutB Try.prog = true := by kernel_rfl
set_option maxRecDepth 100000 in
theorem lifted (os : Os) (started : os.Started) (H : Type) (enc : TypeId × Value → H) :
    ReturnsInHanded {} Try.checked os 7 .any (Rows.stepRunsSpec.pre6 enc Try.prog Try.f7 Rows.stepRunsRow.domain false) (Rows.stepRunsSpec.post enc Try.prog Try.f7 false true false false) := by
  refine returnsInHanded_of_change_sized (C := Try.checked) own started (by kernel_rfl) Try.func7
    (ChangeSpec.witness6 (enc := enc) (C := Try.checked) false ⟨#[], #[.agg #[.slice none 0 0, .slice none 0 0, .slice none 0 0], .agg #[.int .i64 0, .int .i64 0, .int .i64 0, .int .i64 0, .int .i64 0, .int .i64 0, .int .i64 0, .int .i64 0, .int .i64 0, .int .i64 0, .int .i64 0, .int .i64 0, .int .i64 0, .int .i64 0, .int .i64 0, .int .i64 0, .int .i64 0, .slice none 0 0], .slice none 0 0], []⟩ 8 (by kernel_rfl) (by kernel_rfl) (by kernel_rfl) (by kernel_rfl)) ?_
  intro W base args ds gs before hval0 hW hcnd hsz0 _
  have hsz : (DataW.weightsEach Try.prog (Try.f7.params.toList ++ Rows.stepRunsSpec.plain.varTypes Try.prog) (ds ++ gs)).all (· ≤ reachBytes) = true := hsz0
  have hval : ∀ (j : Nat) t v, Try.f7.params[j]? = some t → args[j]? = some v → Value.okWide Try.prog W .any base t v := hval0
  have hW' := hW
  obtain ⟨p, q, hA0, hV, rfl, hfz, hnd⟩ := hW
  have hA : DataW.TrodAll enc Try.prog W 0 (fun _ => true) true Try.f7.params.toList args.toList ds p := hA0
  rw [Try.params7] at hA hval hsz
  obtain ⟨v0, vs0, d0, ds0, p0, q0, hargs, rfl, rfl, h0, r0⟩ := trodAll_cons hA
  obtain ⟨v1, vs1, d1, ds1, p1, q1, rfl, rfl, rfl, h1, r1⟩ := trodAll_cons r0
  obtain ⟨v2, vs2, d2, ds2, p2, q2, rfl, rfl, rfl, h2, r2⟩ := trodAll_cons r1
  obtain ⟨rfl, rfl, rfl⟩ := trodAll_nil r2
  obtain rfl : args = #[v0, v1, v2] := by cases args; simp_all
  obtain ⟨rfl, rfl⟩ := trodVars_none hV
  have k0 := h0
  have lt0 : ∀ x ∈ p0, x.block < W.heap.size := by obtain ⟨m, hm⟩ := k0; exact DataW.trod_lt m _ _ _ hm
  have ws0 : ∀ n ∈ d0.weights Try.prog 26, n ≤ reachBytes := fun n hn => by simpa using List.all_eq_true.1 hsz n (DataW.weights_mem_each (j := 0) rfl rfl n hn)
  obtain ⟨x0, K0, G0⟩ : ∃ x, (Kinds.kPrg).K W x v0.cells.toList ∧ Kinds.GPrg x (Rows.uptoBulk d0) := by
    obtain ⟨fuel, hf⟩ := h0
    exact Kinds.o26.opens enc W 0 _ _ fuel _ _ hf ws0
  obtain ⟨cs0, rfl, _⟩ := Go.WideShapes.okWide_struct Try.underlying26 (hval 0 26 v0 rfl rfl)
  obtain ⟨A0, c0, A1, c1, A2, c2, E0, kk0, hh0, kk1, hh1, kk2, hh2⟩ := Kinds.kPrg_open K0
  obtain rfl := Array.toList_inj.1 (E0.trans (by rfl) : cs0.toList = (#[.slice A0 x0.l0.length c0, .slice A1 x0.l1.length c1, .slice A2 x0.l2.length c2] : Array Value).toList)
  have k1 := h1
  have lt1 : ∀ x ∈ p1, x.block < W.heap.size := by obtain ⟨m, hm⟩ := k1; exact DataW.trod_lt m _ _ _ hm
  have ws1 : ∀ n ∈ d1.weights Try.prog 30, n ≤ reachBytes := fun n hn => by simpa using List.all_eq_true.1 hsz n (DataW.weights_mem_each (j := 1) rfl rfl n hn)
  obtain ⟨x1, K1, G1⟩ : ∃ x, (Kinds.kCtx).K W x v1.cells.toList ∧ Kinds.GCtx x (Rows.uptoBulk d1) := by
    obtain ⟨fuel, hf⟩ := h1
    exact Kinds.o30.opens enc W 0 _ _ fuel _ _ hf ws1
  obtain ⟨cs1, rfl, _⟩ := Go.WideShapes.okWide_struct Try.underlying30 (hval 1 30 v1 rfl rfl)
  obtain ⟨A, c, E1, kk3, hh3⟩ := Kinds.kCtx_open K1
  obtain rfl := Array.toList_inj.1 E1
  have k2 := h2
  have lt2 : ∀ x ∈ p2, x.block < W.heap.size := by obtain ⟨m, hm⟩ := k2; exact DataW.trod_lt m _ _ _ hm
  have ws2 : ∀ n ∈ d2.weights Try.prog 57, n ≤ reachBytes := fun n hn => by simpa using List.all_eq_true.1 hsz n (DataW.weights_mem_each (j := 2) rfl rfl n hn)
  obtain ⟨x2, K2, G2⟩ : ∃ x, (Kd.slice 2 (Kd.int .i64)).K W x v2.cells.toList ∧ GSl 8 (GInt .i64) x (Rows.uptoBulk d2) := by
    obtain ⟨fuel, hf⟩ := h2
    exact Kinds2.o57.opens enc W 0 _ _ fuel _ _ hf ws2
  obtain ⟨a2, len2, cap2, rfl⟩ := okWide_slice Try.underlying57 (hval 2 57 v2 rfl rfl)
  obtain ⟨AZ, cZ, e2, hcZ, hCZ⟩ := K2
  simp only [Value.cells, List.cons.injEq, and_true, Value.slice.injEq] at e2
  obtain ⟨rfl, rfl, rfl⟩ := e2
  clear hA0 hval hsz
  refine (Hlaw7.law_runs x0.l0 x0.l1 x0.l2 A0 A1 A2 c0 c1 c2 x1.pc x1.r A c x1.l W hh0 kk0 hh1 kk1 hh2 kk2 hh3 kk3 (Kinds.calls_lt G1.2.2) a2 cap2 x2 hCZ hcZ (Kinds.calls_lt G2) (Kinds.words_lt G0.1)).mono fun e W' ⟨he, bel⟩ => ?_
  subst he
  exact ⟨_, rfl, _, _, _, [], _, [], hW', trodAll_mk1 (shut_bool Try.underlying4 _), (trodAll_cons_mk (Below.trod laidOut (by kernel_rfl) (of_decide_eq_true (by kernel_rfl)) k0 bel lt0) (trodAll_cons_mk (Below.trod laidOut (by kernel_rfl) (of_decide_eq_true (by kernel_rfl)) k1 bel lt1) (trodAll_cons_mk (Below.trod laidOut (by kernel_rfl) (of_decide_eq_true (by kernel_rfl)) k2 bel lt2) trodAll_mk0))), rfl, bel.frame _, fun h => by cases h⟩
theorem over : Rows.stepRunsRow.holds Try.pinned (OpenSpec.ofChange Rows.stepRunsSpec) :=
  OpenClaim.holds_of_wide 7 Try.f7 rfl rfl rfl rfl rfl rfl rfl ⟨rfl, rfl, rfl, rfl, rfl⟩ rfl rfl rfl rfl rfl (by kernel_rfl) Try.func7 (by kernel_rfl)
    (of_decide_eq_true (by kernel_rfl)) (by unfold Func.isWrapper; first | (rw [if_pos (by decide +kernel)]; kernel_rfl) | (rw [if_neg (by decide +kernel)]; exact ⟨rfl, rfl⟩))
    (fun os started H enc _ => lifted os started H enc)
theorem proved : Rows.StepRunsSaid := over
end Go.Proofs.Ythjfmlehkcccfaa.stepRuns
namespace Go.Proofs.Ythjfmlehkcccfaa
theorem stepRuns_holds : Rows.StepRunsSaid := stepRuns.proved
end Go.Proofs.Ythjfmlehkcccfaa
end
