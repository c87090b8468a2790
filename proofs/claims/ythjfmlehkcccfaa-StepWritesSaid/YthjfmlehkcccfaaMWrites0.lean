import Derived.Test.YthjfmlehkcccfaaMDoes2
import Derived.IntWalk
import Derived.Lib.Hide
import Derived.Test.YthjfmlehkcccfaaMDoes1
import Derived.Test.YthjfmlehkcccfaaMDoes7
import Derived.Test.YthjfmlehkcccfaaMDoes8
section
/-
  Answer, both sides, walked.
-/
set_option linter.unusedVariables false
set_option linter.unusedSimpArgs false
namespace Go.Proofs.Ythjfmlehkcccfaa.Hans
open Go.RowKit Go.Proofs.YthjfmlehkcccfaaW.PrintWords Go.Proofs.YthjfmlehkcccfaaW.PrintLast Go.Proofs.YthjfmlehkcccfaaW.PrintMore GA Hctx Hsmall
theorem and15 (x : Int) : 0 ≤ Go.bits .and .i64 x 15 ∧ Go.bits .and .i64 x 15 < 16 := by
  have e : Go.bits .and .i64 x 15 = IntKind.i64.wrap ((BitVec.ofInt 64 x &&& BitVec.ofInt 64 15).toNat : Int) := rfl
  have h : (BitVec.ofInt 64 x &&& BitVec.ofInt 64 15).toNat ≤ 15 := by
    rw [BitVec.toNat_and]
    exact Nat.le_trans Nat.and_le_right (by decide)
  rw [e, IntWalk.i64_in _ (by omega)]
  omega
/-- The registers behind an answer. -/
def ansR (op a b c v ok : Int) (r : Regs) : Regs :=
  if op = 22 ∨ op = 28 ∨ op = 32 ∨ op = 33 ∨ op = 34 ∨ op = 47 ∨ op = 49 ∨ op = 50 ∨ op = 55 ∨ op = 56 ∨ op = 57 then r.set (Go.bits .and .i64 a 15).toNat v
  else if op = 30 ∨ op = 51 ∨ op = 54 then (r.set (Go.bits .and .i64 a 15).toNat v).set (Go.bits .and .i64 b 15).toNat ok
  else if op = 53 then r.set (Go.bits .and .i64 c 15).toNat v
  else r
set_option maxHeartbeats 2000000 in
set_option maxRecDepth 100000 in
theorem answer20 (op a b c' m v ok pc : Int) (r : Regs) (A : Option Addr) (c : Nat) (l : List Int) (w : World) (hl : Kd.C (Kd.int .i64) w A l.length l) (kl : l.length ≤ c) (hlim : l.length < 17592186044416) :
    Calls Try.prog 20 #[.agg (ctx pc r (.slice A l.length c)), .agg (instC op a b c' m), .int .i64 v, .int .i64 ok] w (PostC w pc (ansR op a b c' v ok r) l) := by
  have hu30 := Try.underlying30
  obtain ⟨fa0, fa1⟩ := and15 a
  have hna : (Go.bits .and .i64 a 15).toNat < 16 := by omega
  obtain ⟨fb0, fb1⟩ := and15 b
  have hnb : (Go.bits .and .i64 b 15).toNat < 16 := by omega
  obtain ⟨fc0, fc1⟩ := and15 c'
  have hnc : (Go.bits .and .i64 c' 15).toNat < 16 := by omega
  have HL := Aside0.mk hl
  clear hl
  have M0 := Aside0.mk (Mem.start [3] w)
  go_enter Try.func20, Try.ntmps20
  go_wp2_with (first
    | (refine eB M0 4 (ctx pc r (.slice A l.length c)) 30 ?_; clear M0; intro g4 w4 M1)
    | (refine eB M1 5 (instC op a b c' m) 37 ?_; clear M1; intro g5 w5 M2)
    | (refine eB M2 8 (ctx 0 zeroR (.slice none 0 0)) 30 ?_; clear M2; intro g8 w8 M3)
    | (refine eC M3 10 0 17 (.slice A l.length c) ?_))
  refine (Hclone.clone_calls A c l _ (Kd.C_below HL.out M3.out.below) kl hlim).mono ?_
  rintro e W11 ⟨v11, rfl, hR, hb⟩
  obtain ⟨A11, c11, rfl⟩ := Kd.R_slice hR
  have M4 := Aside0.mk (Mem.row M3.out hb hR)
  clear M3 hR hb
  by_cases hg : op = 22 ∨ op = 28 ∨ op = 32 ∨ op = 33 ∨ op = 34 ∨ op = 47 ∨ op = 49 ∨ op = 50 ∨ op = 55 ∨ op = 56 ∨ op = 57
  · rcases hg with rfl | rfl | rfl | rfl | rfl | rfl | rfl | rfl | rfl | rfl | rfl
    all_goals
      go_wp2_with (first
        | (refine eS M4 28 12 0 17 (.slice A11 l.length c11) (ctx pc r (.slice A11 l.length c11)) ?_; clear M4; intro w_ M5)
        | (refine eC M5 14 1 0 (.int .i64 _) ?_)
        | (refine eC M5 28 1 1 (.int .i64 a) ?_)
        | (refine eS M5 2 32 0 (1 + (Go.bits .and .i64 a 15).toNat) (.int .i64 v) (ctx pc (r.set (Go.bits .and .i64 a 15).toNat v) (.slice A11 l.length c11)) (hj := ctx_some _ _ _ _ hna) (hnew := ctx_setreg _ _ _ _ hna _) ?_; clear M5; intro w_ M6)
        | (refine eL M6 57 0 hu30 ?_)
        | (refine eR M6 30 8 2 (ctx pc (r.set (Go.bits .and .i64 a 15).toNat v) (.slice A11 l.length c11)) ?_; clear M6; intro w_ M7))
      refine bodyPost_ret (results_cell_row rfl _ _ g8 30 (ctx pc (r.set (Go.bits .and .i64 a 15).toNat v) (.slice A11 l.length c11)) (0, 0) _ rfl (M7.out.at 2 rfl) hu30 rfl (by kernel_rfl)) rfl ⟨_, rfl, M7.out.own, M7.out.below⟩
  obtain ⟨n22, n28, n32, n33, n34, n47, n49, n50, n55, n56, n57⟩ : op ≠ 22 ∧ op ≠ 28 ∧ op ≠ 32 ∧ op ≠ 33 ∧ op ≠ 34 ∧ op ≠ 47 ∧ op ≠ 49 ∧ op ≠ 50 ∧ op ≠ 55 ∧ op ≠ 56 ∧ op ≠ 57 := by omega
  clear hg
  by_cases hg : op = 30 ∨ op = 51 ∨ op = 54
  · rcases hg with rfl | rfl | rfl
    all_goals
      go_wp2_with (first
        | (refine eS M4 28 12 0 17 (.slice A11 l.length c11) (ctx pc r (.slice A11 l.length c11)) ?_; clear M4; intro w_ M5)
        | (refine eC M5 14 1 0 (.int .i64 _) ?_)
        | (refine eC M5 38 1 1 (.int .i64 a) ?_)
        | (refine eS M5 2 42 0 (1 + (Go.bits .and .i64 a 15).toNat) (.int .i64 v) (ctx pc (r.set (Go.bits .and .i64 a 15).toNat v) (.slice A11 l.length c11)) (hj := ctx_some _ _ _ _ hna) (hnew := ctx_setreg _ _ _ _ hna _) ?_; clear M5; intro w_ M6)
        | (refine eC M6 44 1 2 (.int .i64 b) ?_)
        | (refine eS M6 2 48 0 (1 + (Go.bits .and .i64 b 15).toNat) (.int .i64 ok) (ctx pc ((r.set (Go.bits .and .i64 a 15).toNat v).set (Go.bits .and .i64 b 15).toNat ok) (.slice A11 l.length c11)) (hj := ctx_some _ _ _ _ hnb) (hnew := ctx_setreg _ _ _ _ hnb _) ?_; clear M6; intro w_ M7)
        | (refine eL M7 57 0 hu30 ?_)
        | (refine eR M7 30 8 2 (ctx pc ((r.set (Go.bits .and .i64 a 15).toNat v).set (Go.bits .and .i64 b 15).toNat ok) (.slice A11 l.length c11)) ?_; clear M7; intro w_ M8))
      refine bodyPost_ret (results_cell_row rfl _ _ g8 30 (ctx pc ((r.set (Go.bits .and .i64 a 15).toNat v).set (Go.bits .and .i64 b 15).toNat ok) (.slice A11 l.length c11)) (0, 0) _ rfl (M8.out.at 2 rfl) hu30 rfl (by kernel_rfl)) rfl ⟨_, rfl, M8.out.own, M8.out.below⟩
  obtain ⟨n30, n51, n54⟩ : op ≠ 30 ∧ op ≠ 51 ∧ op ≠ 54 := by omega
  clear hg
  by_cases hg : op = 53
  · rcases hg with rfl
    all_goals
      go_wp2_with (first
        | (refine eS M4 28 12 0 17 (.slice A11 l.length c11) (ctx pc r (.slice A11 l.length c11)) ?_; clear M4; intro w_ M5)
        | (refine eC M5 14 1 0 (.int .i64 _) ?_)
        | (refine eC M5 52 1 3 (.int .i64 c') ?_)
        | (refine eS M5 2 56 0 (1 + (Go.bits .and .i64 c' 15).toNat) (.int .i64 v) (ctx pc (r.set (Go.bits .and .i64 c' 15).toNat v) (.slice A11 l.length c11)) (hj := ctx_some _ _ _ _ hnc) (hnew := ctx_setreg _ _ _ _ hnc _) ?_; clear M5; intro w_ M6)
        | (refine eL M6 57 0 hu30 ?_)
        | (refine eR M6 30 8 2 (ctx pc (r.set (Go.bits .and .i64 c' 15).toNat v) (.slice A11 l.length c11)) ?_; clear M6; intro w_ M7))
      refine bodyPost_ret (results_cell_row rfl _ _ g8 30 (ctx pc (r.set (Go.bits .and .i64 c' 15).toNat v) (.slice A11 l.length c11)) (0, 0) _ rfl (M7.out.at 2 rfl) hu30 rfl (by kernel_rfl)) rfl ⟨_, rfl, M7.out.own, M7.out.below⟩
  have n53 := hg
  clear hg
  have hR0 : ansR op a b c' v ok r = r := by simp [ansR, n22, n28, n32, n33, n34, n47, n49, n50, n55, n56, n57, n30, n51, n54, n53]
  have HR0 := Lib.hid hR0
  clear hR0
  replace n22 := beq_eq_false_iff_ne.2 n22
  replace n28 := beq_eq_false_iff_ne.2 n28
  replace n32 := beq_eq_false_iff_ne.2 n32
  replace n33 := beq_eq_false_iff_ne.2 n33
  replace n34 := beq_eq_false_iff_ne.2 n34
  replace n47 := beq_eq_false_iff_ne.2 n47
  replace n49 := beq_eq_false_iff_ne.2 n49
  replace n50 := beq_eq_false_iff_ne.2 n50
  replace n55 := beq_eq_false_iff_ne.2 n55
  replace n56 := beq_eq_false_iff_ne.2 n56
  replace n57 := beq_eq_false_iff_ne.2 n57
  replace n30 := beq_eq_false_iff_ne.2 n30
  replace n51 := beq_eq_false_iff_ne.2 n51
  replace n54 := beq_eq_false_iff_ne.2 n54
  replace n53 := beq_eq_false_iff_ne.2 n53
  go_wp2_with (first
    | (refine eS M4 28 12 0 17 (.slice A11 l.length c11) (ctx pc r (.slice A11 l.length c11)) ?_; clear M4; intro w_ M5)
    | (refine eC M5 14 1 0 (.int .i64 op) ?_)
    | (refine eL M5 57 0 hu30 ?_)
    | (refine eR M5 30 8 2 (ctx pc r (.slice A11 l.length c11)) ?_; clear M5; intro w_ M6))
  rw [HR0.out]
  refine bodyPost_ret (results_cell_row rfl _ _ g8 30 (ctx pc r (.slice A11 l.length c11)) (0, 0) _ rfl (M6.out.at 2 rfl) hu30 rfl (by kernel_rfl)) rfl ⟨_, rfl, M6.out.own, M6.out.below⟩
set_option maxHeartbeats 2000000 in
set_option maxRecDepth 100000 in
theorem answer21 (op a b c' m v ok pc : Int) (r : Regs) (A : Option Addr) (c : Nat) (l : List Int) (w : World) (hl : Kd.C (Kd.int .i64) w A l.length l) (kl : l.length ≤ c) (hlim : l.length < 17592186044416) :
    Calls Try.prog 21 #[.agg (ctx pc r (.slice A l.length c)), .agg (instC op a b c' m), .int .i64 v, .int .i64 ok] w (PostC w pc (ansR op a b c' v ok r) l) := by
  have hu30 := Try.underlying30
  obtain ⟨fa0, fa1⟩ := and15 a
  have hna : (Go.bits .and .i64 a 15).toNat < 16 := by omega
  obtain ⟨fb0, fb1⟩ := and15 b
  have hnb : (Go.bits .and .i64 b 15).toNat < 16 := by omega
  obtain ⟨fc0, fc1⟩ := and15 c'
  have hnc : (Go.bits .and .i64 c' 15).toNat < 16 := by omega
  have HL := Aside0.mk hl
  clear hl
  have M0 := Aside0.mk (Mem.start [3] w)
  go_enter Try.func21, Try.ntmps21
  go_wp2_with (first
    | (refine eB M0 4 (ctx pc r (.slice A l.length c)) 30 ?_; clear M0; intro g4 w4 M1)
    | (refine eB M1 5 (instC op a b c' m) 37 ?_; clear M1; intro g5 w5 M2)
    | (refine eB M2 8 (ctx 0 zeroR (.slice none 0 0)) 30 ?_; clear M2; intro g8 w8 M3)
    | (refine eC M3 10 0 17 (.slice A l.length c) ?_))
  refine (rotaref09_calls_copy A c l _ (Kd.C_below HL.out M3.out.below) kl hlim).mono ?_
  rintro e W11 ⟨v11, rfl, hR, hb⟩
  obtain ⟨A11, c11, rfl⟩ := Kd.R_slice hR
  have M4 := Aside0.mk (Mem.row M3.out hb hR)
  clear M3 hR hb
  by_cases hg : op = 22 ∨ op = 28 ∨ op = 32 ∨ op = 33 ∨ op = 34 ∨ op = 47 ∨ op = 49 ∨ op = 50 ∨ op = 55 ∨ op = 56 ∨ op = 57
  · rcases hg with rfl | rfl | rfl | rfl | rfl | rfl | rfl | rfl | rfl | rfl | rfl
    all_goals
      go_wp2_with (first
        | (refine eS M4 28 12 0 17 (.slice A11 l.length c11) (ctx pc r (.slice A11 l.length c11)) ?_; clear M4; intro w_ M5)
        | (refine eC M5 14 1 0 (.int .i64 _) ?_)
        | (refine eC M5 28 1 1 (.int .i64 a) ?_)
        | (refine eS M5 2 32 0 (1 + (Go.bits .and .i64 a 15).toNat) (.int .i64 v) (ctx pc (r.set (Go.bits .and .i64 a 15).toNat v) (.slice A11 l.length c11)) (hj := ctx_some _ _ _ _ hna) (hnew := ctx_setreg _ _ _ _ hna _) ?_; clear M5; intro w_ M6)
        | (refine eL M6 57 0 hu30 ?_)
        | (refine eR M6 30 8 2 (ctx pc (r.set (Go.bits .and .i64 a 15).toNat v) (.slice A11 l.length c11)) ?_; clear M6; intro w_ M7))
      refine bodyPost_ret (results_cell_row rfl _ _ g8 30 (ctx pc (r.set (Go.bits .and .i64 a 15).toNat v) (.slice A11 l.length c11)) (0, 0) _ rfl (M7.out.at 2 rfl) hu30 rfl (by kernel_rfl)) rfl ⟨_, rfl, M7.out.own, M7.out.below⟩
  obtain ⟨n22, n28, n32, n33, n34, n47, n49, n50, n55, n56, n57⟩ : op ≠ 22 ∧ op ≠ 28 ∧ op ≠ 32 ∧ op ≠ 33 ∧ op ≠ 34 ∧ op ≠ 47 ∧ op ≠ 49 ∧ op ≠ 50 ∧ op ≠ 55 ∧ op ≠ 56 ∧ op ≠ 57 := by omega
  clear hg
  by_cases hg : op = 30 ∨ op = 51 ∨ op = 54
  · rcases hg with rfl | rfl | rfl
    all_goals
      go_wp2_with (first
        | (refine eS M4 28 12 0 17 (.slice A11 l.length c11) (ctx pc r (.slice A11 l.length c11)) ?_; clear M4; intro w_ M5)
        | (refine eC M5 14 1 0 (.int .i64 _) ?_)
        | (refine eC M5 38 1 1 (.int .i64 a) ?_)
        | (refine eS M5 2 42 0 (1 + (Go.bits .and .i64 a 15).toNat) (.int .i64 v) (ctx pc (r.set (Go.bits .and .i64 a 15).toNat v) (.slice A11 l.length c11)) (hj := ctx_some _ _ _ _ hna) (hnew := ctx_setreg _ _ _ _ hna _) ?_; clear M5; intro w_ M6)
        | (refine eC M6 44 1 2 (.int .i64 b) ?_)
        | (refine eS M6 2 48 0 (1 + (Go.bits .and .i64 b 15).toNat) (.int .i64 ok) (ctx pc ((r.set (Go.bits .and .i64 a 15).toNat v).set (Go.bits .and .i64 b 15).toNat ok) (.slice A11 l.length c11)) (hj := ctx_some _ _ _ _ hnb) (hnew := ctx_setreg _ _ _ _ hnb _) ?_; clear M6; intro w_ M7)
        | (refine eL M7 57 0 hu30 ?_)
        | (refine eR M7 30 8 2 (ctx pc ((r.set (Go.bits .and .i64 a 15).toNat v).set (Go.bits .and .i64 b 15).toNat ok) (.slice A11 l.length c11)) ?_; clear M7; intro w_ M8))
      refine bodyPost_ret (results_cell_row rfl _ _ g8 30 (ctx pc ((r.set (Go.bits .and .i64 a 15).toNat v).set (Go.bits .and .i64 b 15).toNat ok) (.slice A11 l.length c11)) (0, 0) _ rfl (M8.out.at 2 rfl) hu30 rfl (by kernel_rfl)) rfl ⟨_, rfl, M8.out.own, M8.out.below⟩
  obtain ⟨n30, n51, n54⟩ : op ≠ 30 ∧ op ≠ 51 ∧ op ≠ 54 := by omega
  clear hg
  by_cases hg : op = 53
  · rcases hg with rfl
    all_goals
      go_wp2_with (first
        | (refine eS M4 28 12 0 17 (.slice A11 l.length c11) (ctx pc r (.slice A11 l.length c11)) ?_; clear M4; intro w_ M5)
        | (refine eC M5 14 1 0 (.int .i64 _) ?_)
        | (refine eC M5 52 1 3 (.int .i64 c') ?_)
        | (refine eS M5 2 56 0 (1 + (Go.bits .and .i64 c' 15).toNat) (.int .i64 v) (ctx pc (r.set (Go.bits .and .i64 c' 15).toNat v) (.slice A11 l.length c11)) (hj := ctx_some _ _ _ _ hnc) (hnew := ctx_setreg _ _ _ _ hnc _) ?_; clear M5; intro w_ M6)
        | (refine eL M6 57 0 hu30 ?_)
        | (refine eR M6 30 8 2 (ctx pc (r.set (Go.bits .and .i64 c' 15).toNat v) (.slice A11 l.length c11)) ?_; clear M6; intro w_ M7))
      refine bodyPost_ret (results_cell_row rfl _ _ g8 30 (ctx pc (r.set (Go.bits .and .i64 c' 15).toNat v) (.slice A11 l.length c11)) (0, 0) _ rfl (M7.out.at 2 rfl) hu30 rfl (by kernel_rfl)) rfl ⟨_, rfl, M7.out.own, M7.out.below⟩
  have n53 := hg
  clear hg
  have hR0 : ansR op a b c' v ok r = r := by simp [ansR, n22, n28, n32, n33, n34, n47, n49, n50, n55, n56, n57, n30, n51, n54, n53]
  have HR0 := Lib.hid hR0
  clear hR0
  replace n22 := beq_eq_false_iff_ne.2 n22
  replace n28 := beq_eq_false_iff_ne.2 n28
  replace n32 := beq_eq_false_iff_ne.2 n32
  replace n33 := beq_eq_false_iff_ne.2 n33
  replace n34 := beq_eq_false_iff_ne.2 n34
  replace n47 := beq_eq_false_iff_ne.2 n47
  replace n49 := beq_eq_false_iff_ne.2 n49
  replace n50 := beq_eq_false_iff_ne.2 n50
  replace n55 := beq_eq_false_iff_ne.2 n55
  replace n56 := beq_eq_false_iff_ne.2 n56
  replace n57 := beq_eq_false_iff_ne.2 n57
  replace n30 := beq_eq_false_iff_ne.2 n30
  replace n51 := beq_eq_false_iff_ne.2 n51
  replace n54 := beq_eq_false_iff_ne.2 n54
  replace n53 := beq_eq_false_iff_ne.2 n53
  go_wp2_with (first
    | (refine eS M4 28 12 0 17 (.slice A11 l.length c11) (ctx pc r (.slice A11 l.length c11)) ?_; clear M4; intro w_ M5)
    | (refine eC M5 14 1 0 (.int .i64 op) ?_)
    | (refine eL M5 57 0 hu30 ?_)
    | (refine eR M5 30 8 2 (ctx pc r (.slice A11 l.length c11)) ?_; clear M5; intro w_ M6))
  rw [HR0.out]
  refine bodyPost_ret (results_cell_row rfl _ _ g8 30 (ctx pc r (.slice A11 l.length c11)) (0, 0) _ rfl (M6.out.at 2 rfl) hu30 rfl (by kernel_rfl)) rfl ⟨_, rfl, M6.out.own, M6.out.below⟩
end Go.Proofs.Ythjfmlehkcccfaa.Hans
end

section
-- laid by a program of this session (wip/gp.sh)
namespace Go.Proofs.Ythjfmlehkcccfaa.GA
open Go.RowKit Go.Proofs.YthjfmlehkcccfaaW.PrintWords Go.Proofs.YthjfmlehkcccfaaW.PrintLast Go.Proofs.YthjfmlehkcccfaaW.PrintMore
attribute [local go_sem] max2_int min2_int max_two min_two max_three min_three max_four min_four   -- for this text's walks alone
set_option linter.unusedVariables false
set_option linter.unusedSimpArgs false

/-! ### rotaref06_bits: function 44 -/
def rotaref06_bits.l0 : Nat → ByteArray → Int → Int → Int → Int → Int → Int → Int → Option (Int)
  | 0, _, _, _, _, _, _, _, _ => none
  | k + 1, x0, x5, x6, x449000, x449001, x449002, x449003, x449004 => if x6 < (x0.size : Int) then (if 0 ≤ x6 then (if (bt x0 x6) = 42 then (rotaref06_bits.l0 k x0 65535 (wrap64 (x6 + 1)) x449000 x449001 x449002 x449003 x449004) else (if (bt x0 x6) = 97 then (if 0 ≤ (IntKind.u64.wrap (x449001)) then (rotaref06_bits.l0 k x0 (Go.bits .or .u16 x5 (shl .u16 1 (IntKind.u64.wrap (x449001)))) (wrap64 (x6 + 1)) x449000 x449001 x449002 x449003 x449004) else (none)) else (if (bt x0 x6) = 98 then (if 0 ≤ (IntKind.u64.wrap (x449002)) then (rotaref06_bits.l0 k x0 (Go.bits .or .u16 x5 (shl .u16 1 (IntKind.u64.wrap (x449002)))) (wrap64 (x6 + 1)) x449000 x449001 x449002 x449003 x449004) else (none)) else (if (bt x0 x6) = 99 then (if 0 ≤ (IntKind.u64.wrap (x449003)) then (rotaref06_bits.l0 k x0 (Go.bits .or .u16 x5 (shl .u16 1 (IntKind.u64.wrap (x449003)))) (wrap64 (x6 + 1)) x449000 x449001 x449002 x449003 x449004) else (none)) else (rotaref06_bits.l0 k x0 x5 (wrap64 (x6 + 1)) x449000 x449001 x449002 x449003 x449004))))) else (none)) else (some x5)
def rotaref06_bits.f (k : Nat) (a0 : ByteArray) (a1_0 : Int) (a1_1 : Int) (a1_2 : Int) (a1_3 : Int) (a1_4 : Int) : Option (Int) := rotaref06_bits.l0 k a0 0 0 a1_0 a1_1 a1_2 a1_3 a1_4
theorem rotaref06_bits.mono_l : ∀ k, (∀ y0 y1 y2 y3 y4 y5 y6 y7, LeO (rotaref06_bits.l0 k y0 y1 y2 y3 y4 y5 y6 y7) (rotaref06_bits.l0 (k + 1) y0 y1 y2 y3 y4 y5 y6 y7))
  | 0 => fun _ _ _ _ _ _ _ _ r h => by simp [rotaref06_bits.l0] at h
  | k + 1 => by
    have ih0 := rotaref06_bits.mono_l k
    · intro y0 y1 y2 y3 y4 y5 y6 y7
      unfold rotaref06_bits.l0
      repeat' first
      | (with_reducible exact ih0 _ _ _ _ _ _ _ _)
      | (with_reducible exact LeO.refl _)
      | (with_reducible exact LeO.none _)
      | (with_reducible refine LeO.ite ?_ ?_)
      | (with_reducible refine LeO.bind ?_ (fun _ => ?_))
      | exact ih0 _ _ _ _ _ _ _ _
      | exact LeO.none _
      | refine LeO.ite ?_ ?_
      | refine LeO.bind ?_ (fun _ => ?_)
theorem rotaref06_bits.mono : ∀ a0 a1 a2 a3 a4 a5 k, LeO (rotaref06_bits.f k a0 a1 a2 a3 a4 a5) (rotaref06_bits.f (k + 1) a0 a1 a2 a3 a4 a5) := by
  intro a0 a1 a2 a3 a4 a5 k
  have ih0 := rotaref06_bits.mono_l k
  unfold rotaref06_bits.f
  repeat' first
      | (with_reducible exact ih0 _ _ _ _ _ _ _ _)
      | (with_reducible exact LeO.refl _)
      | (with_reducible exact LeO.none _)
      | (with_reducible refine LeO.ite ?_ ?_)
      | (with_reducible refine LeO.bind ?_ (fun _ => ?_))
      | exact ih0 _ _ _ _ _ _ _ _
      | exact LeO.none _
      | refine LeO.ite ?_ ?_
      | refine LeO.bind ?_ (fun _ => ?_)
set_option maxHeartbeats 8000000 in
set_option maxRecDepth 100000 in
theorem rotaref06_bits.calls (k : Nat) (a0 : ByteArray) (a1_0 : Int) (a1_1 : Int) (a1_2 : Int) (a1_3 : Int) (a1_4 : Int) (r : Int) (w : World) (h : rotaref06_bits.f k a0 a1_0 a1_1 a1_2 a1_3 a1_4 = some r) :
    Calls Try.prog 44 #[.string a0, .agg #[.int .i64 a1_0, .int .i64 a1_1, .int .i64 a1_2, .int .i64 a1_3, .int .i64 a1_4]] w fun e w' => e = .returned (.int .u16 r) ∧ Below w.heap.size w w' := by
  have hu37 := Try.underlying37
  have HB := Aside0.mk (Below.refl w.heap.size w)
  have H : (rotaref06_bits.l0 k a0 0 0 a1_0 a1_1 a1_2 a1_3 a1_4) = some r := h
  clear h
  have H' := Aside0.mk H
  clear H
  go_enter Try.func44, Try.ntmps44
  go_wp2_with (first | ((with_reducible refine gate_dst (N := 3) rfl ?_); refine box_event ?hg (N := 3) ?hd (cs := #[.int .i64 a1_0, .int .i64 a1_1, .int .i64 a1_2, .int .i64 a1_3, .int .i64 a1_4]) (t := 37) ?hr ?_; (case hd => rfl); (case hg => rfl); (case hr => first | (go_simp; done) | (go_simp; rfl)); intro gb448 hg w3 hbox hb; have n0_ := Aside0.mk (below_step (by repeat (first | (with_reducible first | exact HB.out | apply below_alloc | apply pw_below_drewN | apply below_drew1) | exact HB.out)) hb); have n1_ := Aside0.mk (hbox); have n2_ := Aside0.mk ((by rw [hg]; exact (below_size (by repeat (first | (with_reducible first | exact HB.out | apply below_alloc | apply pw_below_drewN | apply below_drew1) | exact HB.out))) : w.heap.size ≤ gb448)); have n3_ := Aside0.mk ((by rw [hg]; exact (below_size (by repeat (first | (with_reducible first | exact HB.out | apply below_alloc | apply pw_below_drewN | apply below_drew1) | exact HB.out))) : w.heap.size ≤ gb448)); clear HB; have HB := n0_; have BK448 := n1_; have GW448 := n2_; have GE448 := n3_; clear n0_ n1_ n2_ n3_; clear hb hbox hg))
  go_loopg [5, 6] k (fun kq v5 v6 w' => ∃ (x5_1 : Int) (x6_1 : Int), v5 = .int .u16 x5_1 ∧ v6 = .int .i64 x6_1 ∧ Aside0 (rotaref06_bits.l0 kq a0 x5_1 x6_1 a1_0 a1_1 a1_2 a1_3 a1_4 = some r) ∧ Aside0 (kq ≤ k) ∧ Aside0 (w'.heap[gb448]? = some (.cells #[.int .i64 a1_0, .int .i64 a1_1, .int .i64 a1_2, .int .i64 a1_3, .int .i64 a1_4] 37 (0, 0))) ∧ Aside0 (Below w.heap.size w w'))
  case atStart => exact ⟨(0), (0), (by first | rfl | (simp; done) | (simp [*]; done)), (by first | rfl | (simp; done) | (simp [*]; done)), H', ⟨Nat.le_refl _⟩, ⟨by (with_reducible repeat (first | refine blk_drewN ?_ _ | refine blk_drew ?_ | refine blk_alloc ?_ _)); exact BK448.out⟩, ⟨by repeat (first | (with_reducible first | exact HB.out | apply below_alloc | apply pw_below_drewN | apply below_drew1 | refine below_set ?_ GE448.out) | exact HB.out)⟩⟩
  case round =>
    clear H'
    try clear p2
    obtain ⟨x5_1, x6_1, rfl, rfl, HA, HK1, BK448, HB⟩ := hrel
    cases gk with
    | zero => exact absurd HA.out (by simp [rotaref06_bits.l0])
    | succ k1 =>
      have H := HA.out
      clear HA
      simp only [rotaref06_bits.l0] at H
      by_cases c4 : x6_1 < (a0.size : Int)
      · rw [if_pos c4] at H
        have c4b0 : decide (x6_1 < (a0.size : Int)) = true := decide_eq_true c4
        clear c4
        by_cases c5 : 0 ≤ x6_1
        · rw [if_pos c5] at H
          have c5b0 : decide (0 ≤ x6_1) = true := decide_eq_true c5
          clear c5
          by_cases c7 : (bt a0 x6_1) = 42
          · rw [if_pos c7] at H
            have c7b0 : ((bt a0 x6_1) == 42) = true := beq_iff_eq.mpr c7
            have c7b1 : ((bt a0 x6_1) != 42) = false := bne_eq_false_iff_eq.mpr c7
            clear c7
            have H' := Aside0.mk H
            clear H
            have p6 : 0 ≤ (x6_1 : Int) := of_decide_eq_true (by first | (with_reducible assumption) | assumption)
            have q6 : x6_1 < (a0.size : Int) := of_decide_eq_true (by first | (with_reducible assumption) | assumption)
            have hx6 := bt_at a0 x6_1
            replace p6 := eq_true p6
            replace q6 := eq_true q6
            go_wp2
            go_roundg k1
            case measure => have := HK1.out; omega
            case rel => exact ⟨(65535), (wrap64 (x6_1 + 1)), (by first | rfl | (simp; done) | (simp [*]; done)), (by first | rfl | (simp; done) | (simp [*]; done)), H', ⟨by have := HK1.out; omega⟩, ⟨by (with_reducible repeat (first | refine blk_drewN ?_ _ | refine blk_drew ?_ | refine blk_alloc ?_ _)); exact BK448.out⟩, ⟨by repeat (first | (with_reducible first | exact HB.out | apply below_alloc | apply pw_below_drewN | apply below_drew1 | refine below_set ?_ GE448.out) | exact HB.out)⟩⟩
          · rw [if_neg c7] at H
            have c7b0 : ((bt a0 x6_1) == 42) = false := beq_eq_false_iff_ne.mpr c7
            have c7b1 : ((bt a0 x6_1) != 42) = true := bne_iff_ne.mpr c7
            by_cases c8 : (bt a0 x6_1) = 97
            · rw [if_pos c8] at H
              have c8b0 : ((bt a0 x6_1) == 97) = true := beq_iff_eq.mpr c8
              have c8b1 : ((bt a0 x6_1) != 97) = false := bne_eq_false_iff_eq.mpr c8
              clear c8
              obtain ⟨ji9, hji9⟩ : ∃ j_ : Int, (IntKind.u64.wrap (a1_1)) = j_ := ⟨_, rfl⟩
              replace H : (if 0 ≤ (ji9) then (rotaref06_bits.l0 k1 a0 (Go.bits .or .u16 x5_1 (shl .u16 1 (ji9))) (wrap64 (x6_1 + 1)) a1_0 a1_1 a1_2 a1_3 a1_4) else (none)) = some r := by first | (rw [hji9] at H; exact H) | (simp only [hji9] at H ⊢; exact H)
              by_cases c10 : 0 ≤ (ji9)
              · rw [if_pos c10] at H
                have c10b0 := eq_true c10
                have c10b1 : decide (0 ≤ (ji9)) = true := decide_eq_true c10
                clear c10
                obtain ⟨ji11, hji11⟩ : ∃ j_ : Int, (shl .u16 1 (ji9)) = j_ := ⟨_, rfl⟩
                replace H : (rotaref06_bits.l0 k1 a0 (Go.bits .or .u16 x5_1 (ji11)) (wrap64 (x6_1 + 1)) a1_0 a1_1 a1_2 a1_3 a1_4) = some r := by first | (rw [hji11] at H; exact H) | (simp only [hji11] at H ⊢; exact H)
                have hji11_ : (IntKind.u16.wrap (1 * 2 ^ min (ji9).toNat 16)) = ji11 := hji11
                have hji11z : (ji9) ≤ 16 → (IntKind.u16.wrap (1 * 2 ^ (ji9).toNat)) = ji11 := shl_small hji11
                have hji11u : (IntKind.u16.wrap (2 ^ min (ji9).toNat 16)) = ji11 := by have h_ := hji11_; rw [Int.one_mul] at h_; exact h_
                have hji11v : (ji9) ≤ 16 → (IntKind.u16.wrap (2 ^ (ji9).toNat)) = ji11 := fun hle_ => by have h_ := hji11z hle_; rw [Int.one_mul] at h_; exact h_
                have H' := Aside0.mk H
                clear H
                have p6 : 0 ≤ (x6_1 : Int) := of_decide_eq_true (by first | (with_reducible assumption) | assumption)
                have q6 : x6_1 < (a0.size : Int) := of_decide_eq_true (by first | (with_reducible assumption) | assumption)
                have hx6 := bt_at a0 x6_1
                replace p6 := eq_true p6
                replace q6 := eq_true q6
                have hcz12_0 : wr.cell? ⟨gb448, 0, none⟩ = some (.int .i64 a1_0) := (blk_cell BK448.out 0).trans rfl
                have hcz12_1 : wr.cell? ⟨gb448, 1, none⟩ = some (.int .i64 a1_1) := (blk_cell BK448.out 1).trans rfl
                have hcz12_2 : wr.cell? ⟨gb448, 2, none⟩ = some (.int .i64 a1_2) := (blk_cell BK448.out 2).trans rfl
                have hcz12_3 : wr.cell? ⟨gb448, 3, none⟩ = some (.int .i64 a1_3) := (blk_cell BK448.out 3).trans rfl
                have hcz12_4 : wr.cell? ⟨gb448, 4, none⟩ = some (.int .i64 a1_4) := (blk_cell BK448.out 4).trans rfl
                have hfz12_0 := blk_frozen BK448.out 0
                have hfz12_1 := blk_frozen BK448.out 1
                have hfz12_2 := blk_frozen BK448.out 2
                have hfz12_3 := blk_frozen BK448.out 3
                have hfz12_4 := blk_frozen BK448.out 4
                go_wp2
                go_roundg k1
                case measure => have := HK1.out; omega
                case rel => exact ⟨(Go.bits .or .u16 x5_1 (ji11)), (wrap64 (x6_1 + 1)), (by first | rfl | (simp; done) | (simp only [← hji11] <;> (first | rfl | simp)) | (simp [*]; done)), (by first | rfl | (simp; done) | (simp [*]; done)), H', ⟨by have := HK1.out; omega⟩, ⟨by (with_reducible repeat (first | refine blk_drewN ?_ _ | refine blk_drew ?_ | refine blk_alloc ?_ _)); exact BK448.out⟩, ⟨by repeat (first | (with_reducible first | exact HB.out | apply below_alloc | apply pw_below_drewN | apply below_drew1 | refine below_set ?_ GE448.out) | exact HB.out)⟩⟩
              · rw [if_neg c10] at H
                exact absurd H (by simp)
            · rw [if_neg c8] at H
              have c8b0 : ((bt a0 x6_1) == 97) = false := beq_eq_false_iff_ne.mpr c8
              have c8b1 : ((bt a0 x6_1) != 97) = true := bne_iff_ne.mpr c8
              by_cases c13 : (bt a0 x6_1) = 98
              · rw [if_pos c13] at H
                have c13b0 : ((bt a0 x6_1) == 98) = true := beq_iff_eq.mpr c13
                have c13b1 : ((bt a0 x6_1) != 98) = false := bne_eq_false_iff_eq.mpr c13
                clear c13
                obtain ⟨ji14, hji14⟩ : ∃ j_ : Int, (IntKind.u64.wrap (a1_2)) = j_ := ⟨_, rfl⟩
                replace H : (if 0 ≤ (ji14) then (rotaref06_bits.l0 k1 a0 (Go.bits .or .u16 x5_1 (shl .u16 1 (ji14))) (wrap64 (x6_1 + 1)) a1_0 a1_1 a1_2 a1_3 a1_4) else (none)) = some r := by first | (rw [hji14] at H; exact H) | (simp only [hji14] at H ⊢; exact H)
                by_cases c15 : 0 ≤ (ji14)
                · rw [if_pos c15] at H
                  have c15b0 := eq_true c15
                  have c15b1 : decide (0 ≤ (ji14)) = true := decide_eq_true c15
                  clear c15
                  obtain ⟨ji16, hji16⟩ : ∃ j_ : Int, (shl .u16 1 (ji14)) = j_ := ⟨_, rfl⟩
                  replace H : (rotaref06_bits.l0 k1 a0 (Go.bits .or .u16 x5_1 (ji16)) (wrap64 (x6_1 + 1)) a1_0 a1_1 a1_2 a1_3 a1_4) = some r := by first | (rw [hji16] at H; exact H) | (simp only [hji16] at H ⊢; exact H)
                  have hji16_ : (IntKind.u16.wrap (1 * 2 ^ min (ji14).toNat 16)) = ji16 := hji16
                  have hji16z : (ji14) ≤ 16 → (IntKind.u16.wrap (1 * 2 ^ (ji14).toNat)) = ji16 := shl_small hji16
                  have hji16u : (IntKind.u16.wrap (2 ^ min (ji14).toNat 16)) = ji16 := by have h_ := hji16_; rw [Int.one_mul] at h_; exact h_
                  have hji16v : (ji14) ≤ 16 → (IntKind.u16.wrap (2 ^ (ji14).toNat)) = ji16 := fun hle_ => by have h_ := hji16z hle_; rw [Int.one_mul] at h_; exact h_
                  have H' := Aside0.mk H
                  clear H
                  have p6 : 0 ≤ (x6_1 : Int) := of_decide_eq_true (by first | (with_reducible assumption) | assumption)
                  have q6 : x6_1 < (a0.size : Int) := of_decide_eq_true (by first | (with_reducible assumption) | assumption)
                  have hx6 := bt_at a0 x6_1
                  replace p6 := eq_true p6
                  replace q6 := eq_true q6
                  have hcz17_0 : wr.cell? ⟨gb448, 0, none⟩ = some (.int .i64 a1_0) := (blk_cell BK448.out 0).trans rfl
                  have hcz17_1 : wr.cell? ⟨gb448, 1, none⟩ = some (.int .i64 a1_1) := (blk_cell BK448.out 1).trans rfl
                  have hcz17_2 : wr.cell? ⟨gb448, 2, none⟩ = some (.int .i64 a1_2) := (blk_cell BK448.out 2).trans rfl
                  have hcz17_3 : wr.cell? ⟨gb448, 3, none⟩ = some (.int .i64 a1_3) := (blk_cell BK448.out 3).trans rfl
                  have hcz17_4 : wr.cell? ⟨gb448, 4, none⟩ = some (.int .i64 a1_4) := (blk_cell BK448.out 4).trans rfl
                  have hfz17_0 := blk_frozen BK448.out 0
                  have hfz17_1 := blk_frozen BK448.out 1
                  have hfz17_2 := blk_frozen BK448.out 2
                  have hfz17_3 := blk_frozen BK448.out 3
                  have hfz17_4 := blk_frozen BK448.out 4
                  go_wp2
                  go_roundg k1
                  case measure => have := HK1.out; omega
                  case rel => exact ⟨(Go.bits .or .u16 x5_1 (ji16)), (wrap64 (x6_1 + 1)), (by first | rfl | (simp; done) | (simp only [← hji16] <;> (first | rfl | simp)) | (simp [*]; done)), (by first | rfl | (simp; done) | (simp [*]; done)), H', ⟨by have := HK1.out; omega⟩, ⟨by (with_reducible repeat (first | refine blk_drewN ?_ _ | refine blk_drew ?_ | refine blk_alloc ?_ _)); exact BK448.out⟩, ⟨by repeat (first | (with_reducible first | exact HB.out | apply below_alloc | apply pw_below_drewN | apply below_drew1 | refine below_set ?_ GE448.out) | exact HB.out)⟩⟩
                · rw [if_neg c15] at H
                  exact absurd H (by simp)
              · rw [if_neg c13] at H
                have c13b0 : ((bt a0 x6_1) == 98) = false := beq_eq_false_iff_ne.mpr c13
                have c13b1 : ((bt a0 x6_1) != 98) = true := bne_iff_ne.mpr c13
                by_cases c18 : (bt a0 x6_1) = 99
                · rw [if_pos c18] at H
                  have c18b0 : ((bt a0 x6_1) == 99) = true := beq_iff_eq.mpr c18
                  have c18b1 : ((bt a0 x6_1) != 99) = false := bne_eq_false_iff_eq.mpr c18
                  clear c18
                  obtain ⟨ji19, hji19⟩ : ∃ j_ : Int, (IntKind.u64.wrap (a1_3)) = j_ := ⟨_, rfl⟩
                  replace H : (if 0 ≤ (ji19) then (rotaref06_bits.l0 k1 a0 (Go.bits .or .u16 x5_1 (shl .u16 1 (ji19))) (wrap64 (x6_1 + 1)) a1_0 a1_1 a1_2 a1_3 a1_4) else (none)) = some r := by first | (rw [hji19] at H; exact H) | (simp only [hji19] at H ⊢; exact H)
                  by_cases c20 : 0 ≤ (ji19)
                  · rw [if_pos c20] at H
                    have c20b0 := eq_true c20
                    have c20b1 : decide (0 ≤ (ji19)) = true := decide_eq_true c20
                    clear c20
                    obtain ⟨ji21, hji21⟩ : ∃ j_ : Int, (shl .u16 1 (ji19)) = j_ := ⟨_, rfl⟩
                    replace H : (rotaref06_bits.l0 k1 a0 (Go.bits .or .u16 x5_1 (ji21)) (wrap64 (x6_1 + 1)) a1_0 a1_1 a1_2 a1_3 a1_4) = some r := by first | (rw [hji21] at H; exact H) | (simp only [hji21] at H ⊢; exact H)
                    have hji21_ : (IntKind.u16.wrap (1 * 2 ^ min (ji19).toNat 16)) = ji21 := hji21
                    have hji21z : (ji19) ≤ 16 → (IntKind.u16.wrap (1 * 2 ^ (ji19).toNat)) = ji21 := shl_small hji21
                    have hji21u : (IntKind.u16.wrap (2 ^ min (ji19).toNat 16)) = ji21 := by have h_ := hji21_; rw [Int.one_mul] at h_; exact h_
                    have hji21v : (ji19) ≤ 16 → (IntKind.u16.wrap (2 ^ (ji19).toNat)) = ji21 := fun hle_ => by have h_ := hji21z hle_; rw [Int.one_mul] at h_; exact h_
                    have H' := Aside0.mk H
                    clear H
                    have p6 : 0 ≤ (x6_1 : Int) := of_decide_eq_true (by first | (with_reducible assumption) | assumption)
                    have q6 : x6_1 < (a0.size : Int) := of_decide_eq_true (by first | (with_reducible assumption) | assumption)
                    have hx6 := bt_at a0 x6_1
                    replace p6 := eq_true p6
                    replace q6 := eq_true q6
                    have hcz22_0 : wr.cell? ⟨gb448, 0, none⟩ = some (.int .i64 a1_0) := (blk_cell BK448.out 0).trans rfl
                    have hcz22_1 : wr.cell? ⟨gb448, 1, none⟩ = some (.int .i64 a1_1) := (blk_cell BK448.out 1).trans rfl
                    have hcz22_2 : wr.cell? ⟨gb448, 2, none⟩ = some (.int .i64 a1_2) := (blk_cell BK448.out 2).trans rfl
                    have hcz22_3 : wr.cell? ⟨gb448, 3, none⟩ = some (.int .i64 a1_3) := (blk_cell BK448.out 3).trans rfl
                    have hcz22_4 : wr.cell? ⟨gb448, 4, none⟩ = some (.int .i64 a1_4) := (blk_cell BK448.out 4).trans rfl
                    have hfz22_0 := blk_frozen BK448.out 0
                    have hfz22_1 := blk_frozen BK448.out 1
                    have hfz22_2 := blk_frozen BK448.out 2
                    have hfz22_3 := blk_frozen BK448.out 3
                    have hfz22_4 := blk_frozen BK448.out 4
                    go_wp2
                    go_roundg k1
                    case measure => have := HK1.out; omega
                    case rel => exact ⟨(Go.bits .or .u16 x5_1 (ji21)), (wrap64 (x6_1 + 1)), (by first | rfl | (simp; done) | (simp only [← hji21] <;> (first | rfl | simp)) | (simp [*]; done)), (by first | rfl | (simp; done) | (simp [*]; done)), H', ⟨by have := HK1.out; omega⟩, ⟨by (with_reducible repeat (first | refine blk_drewN ?_ _ | refine blk_drew ?_ | refine blk_alloc ?_ _)); exact BK448.out⟩, ⟨by repeat (first | (with_reducible first | exact HB.out | apply below_alloc | apply pw_below_drewN | apply below_drew1 | refine below_set ?_ GE448.out) | exact HB.out)⟩⟩
                  · rw [if_neg c20] at H
                    exact absurd H (by simp)
                · rw [if_neg c18] at H
                  have c18b0 : ((bt a0 x6_1) == 99) = false := beq_eq_false_iff_ne.mpr c18
                  have c18b1 : ((bt a0 x6_1) != 99) = true := bne_iff_ne.mpr c18
                  have H' := Aside0.mk H
                  clear H
                  have p6 : 0 ≤ (x6_1 : Int) := of_decide_eq_true (by first | (with_reducible assumption) | assumption)
                  have q6 : x6_1 < (a0.size : Int) := of_decide_eq_true (by first | (with_reducible assumption) | assumption)
                  have hx6 := bt_at a0 x6_1
                  replace p6 := eq_true p6
                  replace q6 := eq_true q6
                  go_wp2
                  go_roundg k1
                  case measure => have := HK1.out; omega
                  case rel => exact ⟨(x5_1), (wrap64 (x6_1 + 1)), (by first | rfl | (simp; done) | (simp [*]; done)), (by first | rfl | (simp; done) | (simp [*]; done)), H', ⟨by have := HK1.out; omega⟩, ⟨by (with_reducible repeat (first | refine blk_drewN ?_ _ | refine blk_drew ?_ | refine blk_alloc ?_ _)); exact BK448.out⟩, ⟨by repeat (first | (with_reducible first | exact HB.out | apply below_alloc | apply pw_below_drewN | apply below_drew1 | refine below_set ?_ GE448.out) | exact HB.out)⟩⟩
        · rw [if_neg c5] at H
          exact absurd H (by simp)
      · rw [if_neg c4] at H
        have c4b0 : decide (x6_1 < (a0.size : Int)) = false := decide_eq_false c4
        clear c4
        obtain rfl := Option.some.inj H
        go_wp2
        go_ret
        exact ⟨by first | rfl | (simp [errW_none, errW_some] <;> rfl) | (simp [*, errW_none, errW_some] <;> rfl), by repeat (first | (with_reducible first | exact HB.out | apply below_alloc | apply pw_below_drewN | apply below_drew1 | refine below_set ?_ GE448.out) | exact HB.out)⟩

end Go.Proofs.Ythjfmlehkcccfaa.GA
end

section
-- laid by a program of this session (wip/gp.sh)
namespace Go.Proofs.Ythjfmlehkcccfaa.GA
open Go.RowKit Go.Proofs.YthjfmlehkcccfaaW.PrintWords Go.Proofs.YthjfmlehkcccfaaW.PrintLast Go.Proofs.YthjfmlehkcccfaaW.PrintMore
attribute [local go_sem] max2_int min2_int max_two min_two max_three min_three max_four min_four   -- for this text's walks alone
set_option linter.unusedVariables false
set_option linter.unusedSimpArgs false

/-! ### rotaref06_Writes: function 23 -/
def rotaref06_Writes.f (k : Nat) (a0_0 : Int) (a0_1 : Int) (a0_2 : Int) (a0_3 : Int) (a0_4 : Int) : Option (Int × Int) := (rotaref06_Check.f a0_0 a0_1 a0_2 a0_3 a0_4).bind fun t450 => (if t450 = 0 then ((rotaref06_table.f a0_0).bind fun bt451 => ((rotaref06_bits.f k bt451.2.2.2.2.1 a0_0 a0_1 a0_2 a0_3 a0_4).bind fun t458 => (some (t458, 0)))) else (some (0, t450)))
theorem rotaref06_Writes.mono : ∀ a0 a1 a2 a3 a4 k, LeO (rotaref06_Writes.f k a0 a1 a2 a3 a4) (rotaref06_Writes.f (k + 1) a0 a1 a2 a3 a4) := by
  intro a0 a1 a2 a3 a4 k
  unfold rotaref06_Writes.f
  repeat' first
      | (with_reducible exact rotaref06_bits.mono _ _ _ _ _ _ _)
      | (with_reducible exact LeO.refl _)
      | (with_reducible exact LeO.none _)
      | (with_reducible refine LeO.ite ?_ ?_)
      | (with_reducible refine LeO.bind ?_ (fun _ => ?_))
      | exact rotaref06_bits.mono _ _ _ _ _ _ _
      | exact LeO.none _
      | refine LeO.ite ?_ ?_
      | refine LeO.bind ?_ (fun _ => ?_)
set_option maxHeartbeats 8000000 in
set_option maxRecDepth 100000 in
theorem rotaref06_Writes.calls (k : Nat) (a0_0 : Int) (a0_1 : Int) (a0_2 : Int) (a0_3 : Int) (a0_4 : Int) (r1 : Int) (r2 : Int) (w : World) (h : rotaref06_Writes.f k a0_0 a0_1 a0_2 a0_3 a0_4 = some (r1, r2)) :
    Calls Try.prog 23 #[.agg #[.int .i64 a0_0, .int .i64 a0_1, .int .i64 a0_2, .int .i64 a0_3, .int .i64 a0_4]] w fun e w' => e = .returned (.tuple #[.int .u16 r1, .int .i64 r2]) ∧ Below w.heap.size w w' := by
  have hu37 := Try.underlying37
  have hu86 := Try.underlying86
  have HB := Aside0.mk (Below.refl w.heap.size w)
  have H : ((rotaref06_Check.f a0_0 a0_1 a0_2 a0_3 a0_4).bind fun t450 => (if t450 = 0 then ((rotaref06_table.f a0_0).bind fun bt451 => ((rotaref06_bits.f k bt451.2.2.2.2.1 a0_0 a0_1 a0_2 a0_3 a0_4).bind fun t458 => (some (t458, 0)))) else (some (0, t450)))) = some (r1, r2) := h
  clear h
  replace H := Option.bind_eq_some_iff.mp H
  obtain ⟨t450, A20, H⟩ := H
  replace H : (if t450 = 0 then ((rotaref06_table.f a0_0).bind fun bt451 => ((rotaref06_bits.f k bt451.2.2.2.2.1 a0_0 a0_1 a0_2 a0_3 a0_4).bind fun t458 => (some (t458, 0)))) else (some (0, t450))) = some (r1, r2) := H
  have A2 := Aside0.mk A20
  clear A20
  by_cases c3 : t450 = 0
  · rw [if_pos c3] at H
    have c3b0 : (t450 == 0) = true := beq_iff_eq.mpr c3
    have c3b1 : (t450 != 0) = false := bne_eq_false_iff_eq.mpr c3
    clear c3
    replace H := Option.bind_eq_some_iff.mp H
    obtain ⟨⟨t451, t452, t453, t454, t455, t456⟩, A40, H⟩ := H
    replace H : ((rotaref06_bits.f k t455 a0_0 a0_1 a0_2 a0_3 a0_4).bind fun t458 => (some (t458, 0))) = some (r1, r2) := H
    have A4 := Aside0.mk A40
    clear A40
    replace H := Option.bind_eq_some_iff.mp H
    obtain ⟨t458, A50, H⟩ := H
    replace H : (some (t458, 0)) = some (r1, r2) := H
    have A5 := Aside0.mk A50
    clear A50
    simp only [Option.some.injEq, Prod.mk.injEq] at H
    obtain ⟨rfl, rfl⟩ := H
    go_enter Try.func23, Try.ntmps23
    go_wp2_with (first | ((with_reducible refine gate_dst (N := 1) rfl ?_); refine box_event ?hg (N := 1) ?hd (cs := #[.int .i64 a0_0, .int .i64 a0_1, .int .i64 a0_2, .int .i64 a0_3, .int .i64 a0_4]) (t := 37) ?hr ?_; (case hd => rfl); (case hg => rfl); (case hr => first | (go_simp; done) | (go_simp; rfl)); intro gb449 hg w6 hbox hb; have n0_ := Aside0.mk (below_step (by repeat (first | (with_reducible first | exact HB.out | apply below_alloc | apply pw_below_drewN | apply below_drew1) | exact HB.out)) hb); have n1_ := Aside0.mk (hbox); have n2_ := Aside0.mk ((by rw [hg]; exact (below_size (by repeat (first | (with_reducible first | exact HB.out | apply below_alloc | apply pw_below_drewN | apply below_drew1) | exact HB.out))) : w.heap.size ≤ gb449)); have n3_ := Aside0.mk ((by rw [hg]; exact (below_size (by repeat (first | (with_reducible first | exact HB.out | apply below_alloc | apply pw_below_drewN | apply below_drew1) | exact HB.out))) : w.heap.size ≤ gb449)); clear HB; have HB := n0_; have BK449 := n1_; have GW449 := n2_; have GE449 := n3_; clear n0_ n1_ n2_ n3_; clear hb hbox hg; have hcz7_0 : w6.cell? ⟨gb449, 0, none⟩ = some (.int .i64 a0_0) := (blk_cell BK449.out 0).trans rfl; have hcz7_1 : w6.cell? ⟨gb449, 1, none⟩ = some (.int .i64 a0_1) := (blk_cell BK449.out 1).trans rfl; have hcz7_2 : w6.cell? ⟨gb449, 2, none⟩ = some (.int .i64 a0_2) := (blk_cell BK449.out 2).trans rfl; have hcz7_3 : w6.cell? ⟨gb449, 3, none⟩ = some (.int .i64 a0_3) := (blk_cell BK449.out 3).trans rfl; have hcz7_4 : w6.cell? ⟨gb449, 4, none⟩ = some (.int .i64 a0_4) := (blk_cell BK449.out 4).trans rfl; have hfz7_0 := blk_frozen BK449.out 0; have hfz7_1 := blk_frozen BK449.out 1; have hfz7_2 := blk_frozen BK449.out 2; have hfz7_3 := blk_frozen BK449.out 3; have hfz7_4 := blk_frozen BK449.out 4) | ((with_reducible refine gate_callee (f := 43) rfl ?_); refine goesL_ (some 8) rfl rfl Try.func43 (by kernel_rfl) rfl #[.agg #[.int .i64 a0_0, .int .i64 a0_1, .int .i64 a0_2, .int .i64 a0_3, .int .i64 a0_4]] rfl (by (try simp only [List.map_toArray, List.map_cons, List.map_nil]); first | done | rfl | (simp only [List.length_drop, List.length_take]; rfl)) ?_; (with_reducible refine (rotaref06_Check.calls a0_0 a0_1 a0_2 a0_3 a0_4 t450 _ A2.out).mono ?_); rintro e w8 ⟨rfl, hb⟩; refine ⟨_, rfl, ?_⟩; have n0_ := Aside0.mk (blk_below (g := gb449) (o := .cells #[.int .i64 a0_0, .int .i64 a0_1, .int .i64 a0_2, .int .i64 a0_3, .int .i64 a0_4] 37 (0, 0)) (by (with_reducible repeat (first | refine blk_drewN ?_ _ | refine blk_drew ?_ | refine blk_alloc ?_ _)); exact BK449.out) hb); have n1_ := Aside0.mk (below_step (by repeat (first | (with_reducible first | exact HB.out | apply below_alloc | apply pw_below_drewN | apply below_drew1 | refine below_set ?_ GE449.out) | exact HB.out)) hb); clear BK449; clear HB; have BK449 := n0_; have HB := n1_; clear n0_ n1_; (try clear hb); (try clear hb2); (try clear hk); (try clear hi); have hcz9_0 : w8.cell? ⟨gb449, 0, none⟩ = some (.int .i64 a0_0) := (blk_cell BK449.out 0).trans rfl; have hcz9_1 : w8.cell? ⟨gb449, 1, none⟩ = some (.int .i64 a0_1) := (blk_cell BK449.out 1).trans rfl; have hcz9_2 : w8.cell? ⟨gb449, 2, none⟩ = some (.int .i64 a0_2) := (blk_cell BK449.out 2).trans rfl; have hcz9_3 : w8.cell? ⟨gb449, 3, none⟩ = some (.int .i64 a0_3) := (blk_cell BK449.out 3).trans rfl; have hcz9_4 : w8.cell? ⟨gb449, 4, none⟩ = some (.int .i64 a0_4) := (blk_cell BK449.out 4).trans rfl; have hfz9_0 := blk_frozen BK449.out 0; have hfz9_1 := blk_frozen BK449.out 1; have hfz9_2 := blk_frozen BK449.out 2; have hfz9_3 := blk_frozen BK449.out 3; have hfz9_4 := blk_frozen BK449.out 4) | ((with_reducible refine gate_callee (f := 40) rfl ?_); refine goesL_ (some 15) rfl rfl Try.func40 (by kernel_rfl) rfl #[.int .i64 a0_0] rfl (by (try simp only [List.map_toArray, List.map_cons, List.map_nil]); first | done | rfl | (simp only [List.length_drop, List.length_take]; rfl)) ?_; (with_reducible refine (rotaref06_table.calls a0_0 t451 t452 t453 t454 t455 t456 _ A4.out).mono ?_); rintro e w10 ⟨rfl, hb⟩; refine ⟨_, rfl, ?_⟩; have n0_ := Aside0.mk (blk_below (g := gb449) (o := .cells #[.int .i64 a0_0, .int .i64 a0_1, .int .i64 a0_2, .int .i64 a0_3, .int .i64 a0_4] 37 (0, 0)) (by (with_reducible repeat (first | refine blk_drewN ?_ _ | refine blk_drew ?_ | refine blk_alloc ?_ _)); exact BK449.out) hb); have n1_ := Aside0.mk (below_step (by repeat (first | (with_reducible first | exact HB.out | apply below_alloc | apply pw_below_drewN | apply below_drew1 | refine below_set ?_ GE449.out) | exact HB.out)) hb); clear BK449; clear HB; have BK449 := n0_; have HB := n1_; clear n0_ n1_; (try clear hb); (try clear hb2); (try clear hk); (try clear hi)) | ((with_reducible refine gate_dst (N := 5) rfl ?_); refine box_event ?hg (N := 5) ?hd (cs := #[.string (⟨#[]⟩ : ByteArray), .int .i64 0, .int .i64 0, .string (⟨#[]⟩ : ByteArray), .string (⟨#[]⟩ : ByteArray)]) (t := 86) ?hr ?_; (case hd => rfl); (case hg => rfl); (case hr => first | (go_simp; done) | (go_simp; rfl)); intro gb457 hg w11 hbox hb; have n0_ := Aside0.mk (blk_below (g := gb449) (o := .cells #[.int .i64 a0_0, .int .i64 a0_1, .int .i64 a0_2, .int .i64 a0_3, .int .i64 a0_4] 37 (0, 0)) (by (with_reducible repeat (first | refine blk_drewN ?_ _ | refine blk_drew ?_ | refine blk_alloc ?_ _)); exact BK449.out) hb); have n1_ := Aside0.mk (below_step (by repeat (first | (with_reducible first | exact HB.out | apply below_alloc | apply pw_below_drewN | apply below_drew1 | refine below_set ?_ GE449.out) | exact HB.out)) hb); have n2_ := Aside0.mk (hbox); have n3_ := Aside0.mk ((by rw [hg]; exact (below_size (by repeat (first | (with_reducible first | exact HB.out | apply below_alloc | apply pw_below_drewN | apply below_drew1 | refine below_set ?_ GE449.out) | exact HB.out))) : w.heap.size ≤ gb457)); have n4_ := Aside0.mk ((by rw [hg]; exact (below_size (by repeat (first | (with_reducible first | exact HB.out | apply below_alloc | apply pw_below_drewN | apply below_drew1 | refine below_set ?_ GE449.out) | exact HB.out))) : w.heap.size ≤ gb457)); have n5_ := Aside0.mk ((by rw [hg]; exact Nat.ne_of_lt (blk_lt (g := gb449) (o := .cells #[.int .i64 a0_0, .int .i64 a0_1, .int .i64 a0_2, .int .i64 a0_3, .int .i64 a0_4] 37 (0, 0)) (by (with_reducible repeat (first | refine blk_drewN ?_ _ | refine blk_drew ?_ | refine blk_alloc ?_ _)); exact BK449.out)) : gb449 ≠ gb457)); have n6_ := Aside0.mk ((by rw [hg]; exact Nat.ne_of_gt (blk_lt (g := gb449) (o := .cells #[.int .i64 a0_0, .int .i64 a0_1, .int .i64 a0_2, .int .i64 a0_3, .int .i64 a0_4] 37 (0, 0)) (by (with_reducible repeat (first | refine blk_drewN ?_ _ | refine blk_drew ?_ | refine blk_alloc ?_ _)); exact BK449.out)) : gb457 ≠ gb449)); clear BK449; clear HB; have BK449 := n0_; have HB := n1_; have BK457 := n2_; have GW457 := n3_; have GE457 := n4_; have NB449_457 := n5_; have NB457_449 := n6_; clear n0_ n1_ n2_ n3_ n4_ n5_ n6_; clear hb hbox hg; have hnb12 := NB457_449.out; have hnc12 := NB449_457.out; have hcz13_0 : w11.cell? ⟨gb457, 0, none⟩ = some (.string (⟨#[]⟩ : ByteArray)) := (blk_cell BK457.out 0).trans rfl; have hcz13_1 : w11.cell? ⟨gb457, 1, none⟩ = some (.int .i64 0) := (blk_cell BK457.out 1).trans rfl; have hcz13_2 : w11.cell? ⟨gb457, 2, none⟩ = some (.int .i64 0) := (blk_cell BK457.out 2).trans rfl; have hcz13_3 : w11.cell? ⟨gb457, 3, none⟩ = some (.string (⟨#[]⟩ : ByteArray)) := (blk_cell BK457.out 3).trans rfl; have hcz13_4 : w11.cell? ⟨gb457, 4, none⟩ = some (.string (⟨#[]⟩ : ByteArray)) := (blk_cell BK457.out 4).trans rfl; have hfz13_0 := blk_frozen BK457.out 0; have hfz13_1 := blk_frozen BK457.out 1; have hfz13_2 := blk_frozen BK457.out 2; have hfz13_3 := blk_frozen BK457.out 3; have hfz13_4 := blk_frozen BK457.out 4; have hcz14_0 : w11.cell? ⟨gb449, 0, none⟩ = some (.int .i64 a0_0) := (blk_cell BK449.out 0).trans rfl; have hcz14_1 : w11.cell? ⟨gb449, 1, none⟩ = some (.int .i64 a0_1) := (blk_cell BK449.out 1).trans rfl; have hcz14_2 : w11.cell? ⟨gb449, 2, none⟩ = some (.int .i64 a0_2) := (blk_cell BK449.out 2).trans rfl; have hcz14_3 : w11.cell? ⟨gb449, 3, none⟩ = some (.int .i64 a0_3) := (blk_cell BK449.out 3).trans rfl; have hcz14_4 : w11.cell? ⟨gb449, 4, none⟩ = some (.int .i64 a0_4) := (blk_cell BK449.out 4).trans rfl; have hfz14_0 := blk_frozen BK449.out 0; have hfz14_1 := blk_frozen BK449.out 1; have hfz14_2 := blk_frozen BK449.out 2; have hfz14_3 := blk_frozen BK449.out 3; have hfz14_4 := blk_frozen BK449.out 4) | ((with_reducible refine gate_callee (f := 44) rfl ?_); refine goesL_ (some 21) rfl rfl Try.func44 (by kernel_rfl) rfl #[.string t455, .agg #[.int .i64 a0_0, .int .i64 a0_1, .int .i64 a0_2, .int .i64 a0_3, .int .i64 a0_4]] rfl (by (try simp only [List.map_toArray, List.map_cons, List.map_nil]); first | done | rfl | (simp only [List.length_drop, List.length_take]; rfl)) ?_; (with_reducible refine (rotaref06_bits.calls k t455 a0_0 a0_1 a0_2 a0_3 a0_4 t458 _ A5.out).mono ?_); rintro e w15 ⟨rfl, hb⟩; refine ⟨_, rfl, ?_⟩; have n0_ := Aside0.mk (blk_below (g := gb449) (o := .cells #[.int .i64 a0_0, .int .i64 a0_1, .int .i64 a0_2, .int .i64 a0_3, .int .i64 a0_4] 37 (0, 0)) (by (with_reducible repeat (first | refine blk_drewN ?_ _ | refine blk_drew ?_ | refine blk_alloc ?_ _)); refine blk_far ?_ NB449_457.out _; (with_reducible repeat (first | refine blk_drewN ?_ _ | refine blk_drew ?_ | refine blk_alloc ?_ _)); refine blk_far ?_ NB449_457.out _; (with_reducible repeat (first | refine blk_drewN ?_ _ | refine blk_drew ?_ | refine blk_alloc ?_ _)); refine blk_far ?_ NB449_457.out _; (with_reducible repeat (first | refine blk_drewN ?_ _ | refine blk_drew ?_ | refine blk_alloc ?_ _)); refine blk_far ?_ NB449_457.out _; (with_reducible repeat (first | refine blk_drewN ?_ _ | refine blk_drew ?_ | refine blk_alloc ?_ _)); refine blk_far ?_ NB449_457.out _; (with_reducible repeat (first | refine blk_drewN ?_ _ | refine blk_drew ?_ | refine blk_alloc ?_ _)); exact BK449.out) hb); have n1_ := Aside0.mk (blk_below (g := gb457) (o := .cells #[.string t451, .int .i64 t452, .int .i64 t453, .string t454, .string t455] 86 (0, 0)) (by (with_reducible repeat (first | refine blk_drewN ?_ _ | refine blk_drew ?_ | refine blk_alloc ?_ _)); refine blk_put (cs := #[.string t451, .int .i64 t452, .int .i64 t453, .string t454, .string (⟨#[]⟩ : ByteArray)]) ?_ 4 _ rfl; (with_reducible repeat (first | refine blk_drewN ?_ _ | refine blk_drew ?_ | refine blk_alloc ?_ _)); refine blk_put (cs := #[.string t451, .int .i64 t452, .int .i64 t453, .string (⟨#[]⟩ : ByteArray), .string (⟨#[]⟩ : ByteArray)]) ?_ 3 _ rfl; (with_reducible repeat (first | refine blk_drewN ?_ _ | refine blk_drew ?_ | refine blk_alloc ?_ _)); refine blk_put (cs := #[.string t451, .int .i64 t452, .int .i64 0, .string (⟨#[]⟩ : ByteArray), .string (⟨#[]⟩ : ByteArray)]) ?_ 2 _ rfl; (with_reducible repeat (first | refine blk_drewN ?_ _ | refine blk_drew ?_ | refine blk_alloc ?_ _)); refine blk_put (cs := #[.string t451, .int .i64 0, .int .i64 0, .string (⟨#[]⟩ : ByteArray), .string (⟨#[]⟩ : ByteArray)]) ?_ 1 _ rfl; (with_reducible repeat (first | refine blk_drewN ?_ _ | refine blk_drew ?_ | refine blk_alloc ?_ _)); refine blk_put (cs := #[.string (⟨#[]⟩ : ByteArray), .int .i64 0, .int .i64 0, .string (⟨#[]⟩ : ByteArray), .string (⟨#[]⟩ : ByteArray)]) ?_ 0 _ rfl; (with_reducible repeat (first | refine blk_drewN ?_ _ | refine blk_drew ?_ | refine blk_alloc ?_ _)); exact BK457.out) hb); have n2_ := Aside0.mk (below_step (by repeat (first | (with_reducible first | exact HB.out | apply below_alloc | apply pw_below_drewN | apply below_drew1 | refine below_set ?_ GE449.out | refine below_set ?_ GE457.out) | exact HB.out)) hb); clear BK449; clear BK457; clear HB; have BK449 := n0_; have BK457 := n1_; have HB := n2_; clear n0_ n1_ n2_; (try clear hb); (try clear hb2); (try clear hk); (try clear hi)))
    go_ret2
    exact ⟨by first | rfl | (simp [errW_none, errW_some] <;> rfl) | (simp [*, errW_none, errW_some] <;> rfl), by repeat (first | (with_reducible first | exact HB.out | apply below_alloc | apply pw_below_drewN | apply below_drew1 | refine below_set ?_ GE449.out | refine below_set ?_ GE457.out) | exact HB.out)⟩
  · rw [if_neg c3] at H
    have c3b0 : (t450 == 0) = false := beq_eq_false_iff_ne.mpr c3
    have c3b1 : (t450 != 0) = true := bne_iff_ne.mpr c3
    simp only [Option.some.injEq, Prod.mk.injEq] at H
    obtain ⟨rfl, rfl⟩ := H
    go_enter Try.func23, Try.ntmps23
    go_wp2_with (first | ((with_reducible refine gate_dst (N := 1) rfl ?_); refine box_event ?hg (N := 1) ?hd (cs := #[.int .i64 a0_0, .int .i64 a0_1, .int .i64 a0_2, .int .i64 a0_3, .int .i64 a0_4]) (t := 37) ?hr ?_; (case hd => rfl); (case hg => rfl); (case hr => first | (go_simp; done) | (go_simp; rfl)); intro gb449 hg w16 hbox hb; have n0_ := Aside0.mk (below_step (by repeat (first | (with_reducible first | exact HB.out | apply below_alloc | apply pw_below_drewN | apply below_drew1) | exact HB.out)) hb); have n1_ := Aside0.mk (hbox); have n2_ := Aside0.mk ((by rw [hg]; exact (below_size (by repeat (first | (with_reducible first | exact HB.out | apply below_alloc | apply pw_below_drewN | apply below_drew1) | exact HB.out))) : w.heap.size ≤ gb449)); have n3_ := Aside0.mk ((by rw [hg]; exact (below_size (by repeat (first | (with_reducible first | exact HB.out | apply below_alloc | apply pw_below_drewN | apply below_drew1) | exact HB.out))) : w.heap.size ≤ gb449)); clear HB; have HB := n0_; have BK449 := n1_; have GW449 := n2_; have GE449 := n3_; clear n0_ n1_ n2_ n3_; clear hb hbox hg; have hcz17_0 : w16.cell? ⟨gb449, 0, none⟩ = some (.int .i64 a0_0) := (blk_cell BK449.out 0).trans rfl; have hcz17_1 : w16.cell? ⟨gb449, 1, none⟩ = some (.int .i64 a0_1) := (blk_cell BK449.out 1).trans rfl; have hcz17_2 : w16.cell? ⟨gb449, 2, none⟩ = some (.int .i64 a0_2) := (blk_cell BK449.out 2).trans rfl; have hcz17_3 : w16.cell? ⟨gb449, 3, none⟩ = some (.int .i64 a0_3) := (blk_cell BK449.out 3).trans rfl; have hcz17_4 : w16.cell? ⟨gb449, 4, none⟩ = some (.int .i64 a0_4) := (blk_cell BK449.out 4).trans rfl; have hfz17_0 := blk_frozen BK449.out 0; have hfz17_1 := blk_frozen BK449.out 1; have hfz17_2 := blk_frozen BK449.out 2; have hfz17_3 := blk_frozen BK449.out 3; have hfz17_4 := blk_frozen BK449.out 4) | ((with_reducible refine gate_callee (f := 43) rfl ?_); refine goesL_ (some 8) rfl rfl Try.func43 (by kernel_rfl) rfl #[.agg #[.int .i64 a0_0, .int .i64 a0_1, .int .i64 a0_2, .int .i64 a0_3, .int .i64 a0_4]] rfl (by (try simp only [List.map_toArray, List.map_cons, List.map_nil]); first | done | rfl | (simp only [List.length_drop, List.length_take]; rfl)) ?_; (with_reducible refine (rotaref06_Check.calls a0_0 a0_1 a0_2 a0_3 a0_4 t450 _ A2.out).mono ?_); rintro e w18 ⟨rfl, hb⟩; refine ⟨_, rfl, ?_⟩; have n0_ := Aside0.mk (blk_below (g := gb449) (o := .cells #[.int .i64 a0_0, .int .i64 a0_1, .int .i64 a0_2, .int .i64 a0_3, .int .i64 a0_4] 37 (0, 0)) (by (with_reducible repeat (first | refine blk_drewN ?_ _ | refine blk_drew ?_ | refine blk_alloc ?_ _)); exact BK449.out) hb); have n1_ := Aside0.mk (below_step (by repeat (first | (with_reducible first | exact HB.out | apply below_alloc | apply pw_below_drewN | apply below_drew1 | refine below_set ?_ GE449.out) | exact HB.out)) hb); clear BK449; clear HB; have BK449 := n0_; have HB := n1_; clear n0_ n1_; (try clear hb); (try clear hb2); (try clear hk); (try clear hi)))
    go_ret2
    exact ⟨by first | rfl | (simp [errW_none, errW_some] <;> rfl) | (simp [*, errW_none, errW_some] <;> rfl), by repeat (first | (with_reducible first | exact HB.out | apply below_alloc | apply pw_below_drewN | apply below_drew1 | refine below_set ?_ GE449.out) | exact HB.out)⟩

end Go.Proofs.Ythjfmlehkcccfaa.GA
end
