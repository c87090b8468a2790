import Derived.Test.YthjfmlehkcccfaaMSafe2
import Derived.IntWalk
import Derived.Lib.Hide
import Derived.Deep.QuietTactic
import Derived.BigQuiet
import Derived.Deep.MidRow
import Derived.Outline
section
/-
  Answer, both sides, walked.
-/
set_option linter.unusedVariables false
set_option linter.unusedSimpArgs false
namespace Go.Proofs.Ythjfmlehkcccfaa.Hans
open Go.RowKit Go.Proofs.YthjfmlehkcccfaaW.PrintWords Go.Proofs.YthjfmlehkcccfaaW.PrintLast Go.Proofs.YthjfmlehkcccfaaW.PrintMore GA Hctx Hsmall
theorem and15 (x : Int) : 0 ≤ Go.bits .and .i64 x 15 ∧ Go.bits .and .i64 x 15 < 16 := by
  have e : Go.bits .and .i64 x 15 = IntKind.i64.wrap ((BitVec.ofInt 64 x &&& BitVec.ofInt 64 15).toNat : Int) := rfl
  have h : (BitVec.ofInt 64 x &&& BitVec.ofInt 64 15).toNat ≤ 15 := by
    rw [BitVec.toNat_and]
    exact Nat.le_trans Nat.and_le_right (by decide)
  rw [e, IntWalk.i64_in _ (by omega)]
  omega
/-- The registers behind an answer. -/
def ansR (op a b c v ok : Int) (r : Regs) : Regs :=
  if op = 22 ∨ op = 28 ∨ op = 32 ∨ op = 33 ∨ op = 34 ∨ op = 47 ∨ op = 49 ∨ op = 50 ∨ op = 55 ∨ op = 56 ∨ op = 57 then r.set (Go.bits .and .i64 a 15).toNat v
  else if op = 30 ∨ op = 51 ∨ op = 54 then (r.set (Go.bits .and .i64 a 15).toNat v).set (Go.bits .and .i64 b 15).toNat ok
  else if op = 53 then r.set (Go.bits .and .i64 c 15).toNat v
  else r
set_option maxHeartbeats 2000000 in
set_option maxRecDepth 100000 in
theorem answer20 (op a b c' m v ok pc : Int) (r : Regs) (A : Option Addr) (c : Nat) (l : List Int) (w : World) (hl : Kd.C (Kd.int .i64) w A l.length l) (kl : l.length ≤ c) (hlim : l.length < 17592186044416) :
    Calls Try.prog 20 #[.agg (ctx pc r (.slice A l.length c)), .agg (instC op a b c' m), .int .i64 v, .int .i64 ok] w (PostC w pc (ansR op a b c' v ok r) l) := by
  have hu30 := Try.underlying30
  obtain ⟨fa0, fa1⟩ := and15 a
  have hna : (Go.bits .and .i64 a 15).toNat < 16 := by omega
  obtain ⟨fb0, fb1⟩ := and15 b
  have hnb : (Go.bits .and .i64 b 15).toNat < 16 := by omega
  obtain ⟨fc0, fc1⟩ := and15 c'
  have hnc : (Go.bits .and .i64 c' 15).toNat < 16 := by omega
  have HL := Aside0.mk hl
  clear hl
  have M0 := Aside0.mk (Mem.start [3] w)
  go_enter Try.func20, Try.ntmps20
  go_wp2_with (first
    | (refine eB M0 4 (ctx pc r (.slice A l.length c)) 30 ?_; clear M0; intro g4 w4 M1)
    | (refine eB M1 5 (instC op a b c' m) 37 ?_; clear M1; intro g5 w5 M2)
    | (refine eB M2 8 (ctx 0 zeroR (.slice none 0 0)) 30 ?_; clear M2; intro g8 w8 M3)
    | (refine eC M3 10 0 17 (.slice A l.length c) ?_))
  refine (Hclone.clone_calls A c l _ (Kd.C_below HL.out M3.out.below) kl hlim).mono ?_
  rintro e W11 ⟨v11, rfl, hR, hb⟩
  obtain ⟨A11, c11, rfl⟩ := Kd.R_slice hR
  have M4 := Aside0.mk (Mem.row M3.out hb hR)
  clear M3 hR hb
  by_cases hg : op = 22 ∨ op = 28 ∨ op = 32 ∨ op = 33 ∨ op = 34 ∨ op = 47 ∨ op = 49 ∨ op = 50 ∨ op = 55 ∨ op = 56 ∨ op = 57
  · rcases hg with rfl | rfl | rfl | rfl | rfl | rfl | rfl | rfl | rfl | rfl | rfl
    all_goals
      go_wp2_with (first
        | (refine eS M4 28 12 0 17 (.slice A11 l.length c11) (ctx pc r (.slice A11 l.length c11)) ?_; clear M4; intro w_ M5)
        | (refine eC M5 14 1 0 (.int .i64 _) ?_)
        | (refine eC M5 28 1 1 (.int .i64 a) ?_)
        | (refine eS M5 2 32 0 (1 + (Go.bits .and .i64 a 15).toNat) (.int .i64 v) (ctx pc (r.set (Go.bits .and .i64 a 15).toNat v) (.slice A11 l.length c11)) (hj := ctx_some _ _ _ _ hna) (hnew := ctx_setreg _ _ _ _ hna _) ?_; clear M5; intro w_ M6)
        | (refine eL M6 57 0 hu30 ?_)
        | (refine eR M6 30 8 2 (ctx pc (r.set (Go.bits .and .i64 a 15).toNat v) (.slice A11 l.length c11)) ?_; clear M6; intro w_ M7))
      refine bodyPost_ret (results_cell_row rfl _ _ g8 30 (ctx pc (r.set (Go.bits .and .i64 a 15).toNat v) (.slice A11 l.length c11)) (0, 0) _ rfl (M7.out.at 2 rfl) hu30 rfl (by kernel_rfl)) rfl ⟨_, rfl, M7.out.own, M7.out.below⟩
  obtain ⟨n22, n28, n32, n33, n34, n47, n49, n50, n55, n56, n57⟩ : op ≠ 22 ∧ op ≠ 28 ∧ op ≠ 32 ∧ op ≠ 33 ∧ op ≠ 34 ∧ op ≠ 47 ∧ op ≠ 49 ∧ op ≠ 50 ∧ op ≠ 55 ∧ op ≠ 56 ∧ op ≠ 57 := by omega
  clear hg
  by_cases hg : op = 30 ∨ op = 51 ∨ op = 54
  · rcases hg with rfl | rfl | rfl
    all_goals
      go_wp2_with (first
        | (refine eS M4 28 12 0 17 (.slice A11 l.length c11) (ctx pc r (.slice A11 l.length c11)) ?_; clear M4; intro w_ M5)
        | (refine eC M5 14 1 0 (.int .i64 _) ?_)
        | (refine eC M5 38 1 1 (.int .i64 a) ?_)
        | (refine eS M5 2 42 0 (1 + (Go.bits .and .i64 a 15).toNat) (.int .i64 v) (ctx pc (r.set (Go.bits .and .i64 a 15).toNat v) (.slice A11 l.length c11)) (hj := ctx_some _ _ _ _ hna) (hnew := ctx_setreg _ _ _ _ hna _) ?_; clear M5; intro w_ M6)
        | (refine eC M6 44 1 2 (.int .i64 b) ?_)
        | (refine eS M6 2 48 0 (1 + (Go.bits .and .i64 b 15).toNat) (.int .i64 ok) (ctx pc ((r.set (Go.bits .and .i64 a 15).toNat v).set (Go.bits .and .i64 b 15).toNat ok) (.slice A11 l.length c11)) (hj := ctx_some _ _ _ _ hnb) (hnew := ctx_setreg _ _ _ _ hnb _) ?_; clear M6; intro w_ M7)
        | (refine eL M7 57 0 hu30 ?_)
        | (refine eR M7 30 8 2 (ctx pc ((r.set (Go.bits .and .i64 a 15).toNat v).set (Go.bits .and .i64 b 15).toNat ok) (.slice A11 l.length c11)) ?_; clear M7; intro w_ M8))
      refine bodyPost_ret (results_cell_row rfl _ _ g8 30 (ctx pc ((r.set (Go.bits .and .i64 a 15).toNat v).set (Go.bits .and .i64 b 15).toNat ok) (.slice A11 l.length c11)) (0, 0) _ rfl (M8.out.at 2 rfl) hu30 rfl (by kernel_rfl)) rfl ⟨_, rfl, M8.out.own, M8.out.below⟩
  obtain ⟨n30, n51, n54⟩ : op ≠ 30 ∧ op ≠ 51 ∧ op ≠ 54 := by omega
  clear hg
  by_cases hg : op = 53
  · rcases hg with rfl
    all_goals
      go_wp2_with (first
        | (refine eS M4 28 12 0 17 (.slice A11 l.length c11) (ctx pc r (.slice A11 l.length c11)) ?_; clear M4; intro w_ M5)
        | (refine eC M5 14 1 0 (.int .i64 _) ?_)
        | (refine eC M5 52 1 3 (.int .i64 c') ?_)
        | (refine eS M5 2 56 0 (1 + (Go.bits .and .i64 c' 15).toNat) (.int .i64 v) (ctx pc (r.set (Go.bits .and .i64 c' 15).toNat v) (.slice A11 l.length c11)) (hj := ctx_some _ _ _ _ hnc) (hnew := ctx_setreg _ _ _ _ hnc _) ?_; clear M5; intro w_ M6)
        | (refine eL M6 57 0 hu30 ?_)
        | (refine eR M6 30 8 2 (ctx pc (r.set (Go.bits .and .i64 c' 15).toNat v) (.slice A11 l.length c11)) ?_; clear M6; intro w_ M7))
      refine bodyPost_ret (results_cell_row rfl _ _ g8 30 (ctx pc (r.set (Go.bits .and .i64 c' 15).toNat v) (.slice A11 l.length c11)) (0, 0) _ rfl (M7.out.at 2 rfl) hu30 rfl (by kernel_rfl)) rfl ⟨_, rfl, M7.out.own, M7.out.below⟩
  have n53 := hg
  clear hg
  have hR0 : ansR op a b c' v ok r = r := by simp [ansR, n22, n28, n32, n33, n34, n47, n49, n50, n55, n56, n57, n30, n51, n54, n53]
  have HR0 := Lib.hid hR0
  clear hR0
  replace n22 := beq_eq_false_iff_ne.2 n22
  replace n28 := beq_eq_false_iff_ne.2 n28
  replace n32 := beq_eq_false_iff_ne.2 n32
  replace n33 := beq_eq_false_iff_ne.2 n33
  replace n34 := beq_eq_false_iff_ne.2 n34
  replace n47 := beq_eq_false_iff_ne.2 n47
  replace n49 := beq_eq_false_iff_ne.2 n49
  replace n50 := beq_eq_false_iff_ne.2 n50
  replace n55 := beq_eq_false_iff_ne.2 n55
  replace n56 := beq_eq_false_iff_ne.2 n56
  replace n57 := beq_eq_false_iff_ne.2 n57
  replace n30 := beq_eq_false_iff_ne.2 n30
  replace n51 := beq_eq_false_iff_ne.2 n51
  replace n54 := beq_eq_false_iff_ne.2 n54
  replace n53 := beq_eq_false_iff_ne.2 n53
  go_wp2_with (first
    | (refine eS M4 28 12 0 17 (.slice A11 l.length c11) (ctx pc r (.slice A11 l.length c11)) ?_; clear M4; intro w_ M5)
    | (refine eC M5 14 1 0 (.int .i64 op) ?_)
    | (refine eL M5 57 0 hu30 ?_)
    | (refine eR M5 30 8 2 (ctx pc r (.slice A11 l.length c11)) ?_; clear M5; intro w_ M6))
  rw [HR0.out]
  refine bodyPost_ret (results_cell_row rfl _ _ g8 30 (ctx pc r (.slice A11 l.length c11)) (0, 0) _ rfl (M6.out.at 2 rfl) hu30 rfl (by kernel_rfl)) rfl ⟨_, rfl, M6.out.own, M6.out.below⟩
set_option maxHeartbeats 2000000 in
set_option maxRecDepth 100000 in
theorem answer21 (op a b c' m v ok pc : Int) (r : Regs) (A : Option Addr) (c : Nat) (l : List Int) (w : World) (hl : Kd.C (Kd.int .i64) w A l.length l) (kl : l.length ≤ c) (hlim : l.length < 17592186044416) :
    Calls Try.prog 21 #[.agg (ctx pc r (.slice A l.length c)), .agg (instC op a b c' m), .int .i64 v, .int .i64 ok] w (PostC w pc (ansR op a b c' v ok r) l) := by
  have hu30 := Try.underlying30
  obtain ⟨fa0, fa1⟩ := and15 a
  have hna : (Go.bits .and .i64 a 15).toNat < 16 := by omega
  obtain ⟨fb0, fb1⟩ := and15 b
  have hnb : (Go.bits .and .i64 b 15).toNat < 16 := by omega
  obtain ⟨fc0, fc1⟩ := and15 c'
  have hnc : (Go.bits .and .i64 c' 15).toNat < 16 := by omega
  have HL := Aside0.mk hl
  clear hl
  have M0 := Aside0.mk (Mem.start [3] w)
  go_enter Try.func21, Try.ntmps21
  go_wp2_with (first
    | (refine eB M0 4 (ctx pc r (.slice A l.length c)) 30 ?_; clear M0; intro g4 w4 M1)
    | (refine eB M1 5 (instC op a b c' m) 37 ?_; clear M1; intro g5 w5 M2)
    | (refine eB M2 8 (ctx 0 zeroR (.slice none 0 0)) 30 ?_; clear M2; intro g8 w8 M3)
    | (refine eC M3 10 0 17 (.slice A l.length c) ?_))
  refine (rotaref09_calls_copy A c l _ (Kd.C_below HL.out M3.out.below) kl hlim).mono ?_
  rintro e W11 ⟨v11, rfl, hR, hb⟩
  obtain ⟨A11, c11, rfl⟩ := Kd.R_slice hR
  have M4 := Aside0.mk (Mem.row M3.out hb hR)
  clear M3 hR hb
  by_cases hg : op = 22 ∨ op = 28 ∨ op = 32 ∨ op = 33 ∨ op = 34 ∨ op = 47 ∨ op = 49 ∨ op = 50 ∨ op = 55 ∨ op = 56 ∨ op = 57
  · rcases hg with rfl | rfl | rfl | rfl | rfl | rfl | rfl | rfl | rfl | rfl | rfl
    all_goals
      go_wp2_with (first
        | (refine eS M4 28 12 0 17 (.slice A11 l.length c11) (ctx pc r (.slice A11 l.length c11)) ?_; clear M4; intro w_ M5)
        | (refine eC M5 14 1 0 (.int .i64 _) ?_)
        | (refine eC M5 28 1 1 (.int .i64 a) ?_)
        | (refine eS M5 2 32 0 (1 + (Go.bits .and .i64 a 15).toNat) (.int .i64 v) (ctx pc (r.set (Go.bits .and .i64 a 15).toNat v) (.slice A11 l.length c11)) (hj := ctx_some _ _ _ _ hna) (hnew := ctx_setreg _ _ _ _ hna _) ?_; clear M5; intro w_ M6)
        | (refine eL M6 57 0 hu30 ?_)
        | (refine eR M6 30 8 2 (ctx pc (r.set (Go.bits .and .i64 a 15).toNat v) (.slice A11 l.length c11)) ?_; clear M6; intro w_ M7))
      refine bodyPost_ret (results_cell_row rfl _ _ g8 30 (ctx pc (r.set (Go.bits .and .i64 a 15).toNat v) (.slice A11 l.length c11)) (0, 0) _ rfl (M7.out.at 2 rfl) hu30 rfl (by kernel_rfl)) rfl ⟨_, rfl, M7.out.own, M7.out.below⟩
  obtain ⟨n22, n28, n32, n33, n34, n47, n49, n50, n55, n56, n57⟩ : op ≠ 22 ∧ op ≠ 28 ∧ op ≠ 32 ∧ op ≠ 33 ∧ op ≠ 34 ∧ op ≠ 47 ∧ op ≠ 49 ∧ op ≠ 50 ∧ op ≠ 55 ∧ op ≠ 56 ∧ op ≠ 57 := by omega
  clear hg
  by_cases hg : op = 30 ∨ op = 51 ∨ op = 54
  · rcases hg with rfl | rfl | rfl
    all_goals
      go_wp2_with (first
        | (refine eS M4 28 12 0 17 (.slice A11 l.length c11) (ctx pc r (.slice A11 l.length c11)) ?_; clear M4; intro w_ M5)
        | (refine eC M5 14 1 0 (.int .i64 _) ?_)
        | (refine eC M5 38 1 1 (.int .i64 a) ?_)
        | (refine eS M5 2 42 0 (1 + (Go.bits .and .i64 a 15).toNat) (.int .i64 v) (ctx pc (r.set (Go.bits .and .i64 a 15).toNat v) (.slice A11 l.length c11)) (hj := ctx_some _ _ _ _ hna) (hnew := ctx_setreg _ _ _ _ hna _) ?_; clear M5; intro w_ M6)
        | (refine eC M6 44 1 2 (.int .i64 b) ?_)
        | (refine eS M6 2 48 0 (1 + (Go.bits .and .i64 b 15).toNat) (.int .i64 ok) (ctx pc ((r.set (Go.bits .and .i64 a 15).toNat v).set (Go.bits .and .i64 b 15).toNat ok) (.slice A11 l.length c11)) (hj := ctx_some _ _ _ _ hnb) (hnew := ctx_setreg _ _ _ _ hnb _) ?_; clear M6; intro w_ M7)
        | (refine eL M7 57 0 hu30 ?_)
        | (refine eR M7 30 8 2 (ctx pc ((r.set (Go.bits .and .i64 a 15).toNat v).set (Go.bits .and .i64 b 15).toNat ok) (.slice A11 l.length c11)) ?_; clear M7; intro w_ M8))
      refine bodyPost_ret (results_cell_row rfl _ _ g8 30 (ctx pc ((r.set (Go.bits .and .i64 a 15).toNat v).set (Go.bits .and .i64 b 15).toNat ok) (.slice A11 l.length c11)) (0, 0) _ rfl (M8.out.at 2 rfl) hu30 rfl (by kernel_rfl)) rfl ⟨_, rfl, M8.out.own, M8.out.below⟩
  obtain ⟨n30, n51, n54⟩ : op ≠ 30 ∧ op ≠ 51 ∧ op ≠ 54 := by omega
  clear hg
  by_cases hg : op = 53
  · rcases hg with rfl
    all_goals
      go_wp2_with (first
        | (refine eS M4 28 12 0 17 (.slice A11 l.length c11) (ctx pc r (.slice A11 l.length c11)) ?_; clear M4; intro w_ M5)
        | (refine eC M5 14 1 0 (.int .i64 _) ?_)
        | (refine eC M5 52 1 3 (.int .i64 c') ?_)
        | (refine eS M5 2 56 0 (1 + (Go.bits .and .i64 c' 15).toNat) (.int .i64 v) (ctx pc (r.set (Go.bits .and .i64 c' 15).toNat v) (.slice A11 l.length c11)) (hj := ctx_some _ _ _ _ hnc) (hnew := ctx_setreg _ _ _ _ hnc _) ?_; clear M5; intro w_ M6)
        | (refine eL M6 57 0 hu30 ?_)
        | (refine eR M6 30 8 2 (ctx pc (r.set (Go.bits .and .i64 c' 15).toNat v) (.slice A11 l.length c11)) ?_; clear M6; intro w_ M7))
      refine bodyPost_ret (results_cell_row rfl _ _ g8 30 (ctx pc (r.set (Go.bits .and .i64 c' 15).toNat v) (.slice A11 l.length c11)) (0, 0) _ rfl (M7.out.at 2 rfl) hu30 rfl (by kernel_rfl)) rfl ⟨_, rfl, M7.out.own, M7.out.below⟩
  have n53 := hg
  clear hg
  have hR0 : ansR op a b c' v ok r = r := by simp [ansR, n22, n28, n32, n33, n34, n47, n49, n50, n55, n56, n57, n30, n51, n54, n53]
  have HR0 := Lib.hid hR0
  clear hR0
  replace n22 := beq_eq_false_iff_ne.2 n22
  replace n28 := beq_eq_false_iff_ne.2 n28
  replace n32 := beq_eq_false_iff_ne.2 n32
  replace n33 := beq_eq_false_iff_ne.2 n33
  replace n34 := beq_eq_false_iff_ne.2 n34
  replace n47 := beq_eq_false_iff_ne.2 n47
  replace n49 := beq_eq_false_iff_ne.2 n49
  replace n50 := beq_eq_false_iff_ne.2 n50
  replace n55 := beq_eq_false_iff_ne.2 n55
  replace n56 := beq_eq_false_iff_ne.2 n56
  replace n57 := beq_eq_false_iff_ne.2 n57
  replace n30 := beq_eq_false_iff_ne.2 n30
  replace n51 := beq_eq_false_iff_ne.2 n51
  replace n54 := beq_eq_false_iff_ne.2 n54
  replace n53 := beq_eq_false_iff_ne.2 n53
  go_wp2_with (first
    | (refine eS M4 28 12 0 17 (.slice A11 l.length c11) (ctx pc r (.slice A11 l.length c11)) ?_; clear M4; intro w_ M5)
    | (refine eC M5 14 1 0 (.int .i64 op) ?_)
    | (refine eL M5 57 0 hu30 ?_)
    | (refine eR M5 30 8 2 (ctx pc r (.slice A11 l.length c11)) ?_; clear M5; intro w_ M6))
  rw [HR0.out]
  refine bodyPost_ret (results_cell_row rfl _ _ g8 30 (ctx pc r (.slice A11 l.length c11)) (0, 0) _ rfl (M6.out.at 2 rfl) hu30 rfl (by kernel_rfl)) rfl ⟨_, rfl, M6.out.own, M6.out.below⟩
end Go.Proofs.Ythjfmlehkcccfaa.Hans
end

section
/-
  Begin, walked.
-/
set_option linter.unusedVariables false
set_option linter.unusedSimpArgs false
namespace Go.Proofs.Ythjfmlehkcccfaa.Hbegp
open Go.RowKit Go.Proofs.YthjfmlehkcccfaaW.PrintWords Go.Proofs.YthjfmlehkcccfaaW.PrintLast Go.Proofs.YthjfmlehkcccfaaW.PrintMore GA Hctx Hsmall

def regsA (r : Regs) : Array Value := #[.int .i64 r.r0, .int .i64 r.r1, .int .i64 r.r2, .int .i64 r.r3, .int .i64 r.r4, .int .i64 r.r5, .int .i64 r.r6, .int .i64 r.r7, .int .i64 r.r8, .int .i64 r.r9, .int .i64 r.r10, .int .i64 r.r11, .int .i64 r.r12, .int .i64 r.r13, .int .i64 r.r14, .int .i64 r.r15]
theorem block_lt {w : World} {a : Addr} {v : Value} (h : w.cell? a = some v) : a.block < w.heap.size := by
  unfold World.cell? at h
  rcases Nat.lt_or_ge a.block w.heap.size with h1 | h1
  · exact h1
  · rw [Array.getElem?_eq_none h1] at h; simp at h

set_option maxHeartbeats 2000000 in
set_option maxRecDepth 100000 in
theorem begin16_neg (l0 : List Int) (l1 : List S75) (l2 : List S98) (A0 A1 A2 : Option Addr) (c0 c1 c2 : Nat) (f : Int) (r : Regs) (w : World)
    (h0 : Kd.C (Kd.int .u32) w A0 l0.length l0) (k0 : l0.length ≤ c0) (h1 : Kd.C k75 w A1 l1.length l1) (k1 : l1.length ≤ c1) (h2 : Kd.C k98 w A2 l2.length l2) (k2 : l2.length ≤ c2)
    (hf : f < 0) :
    Calls Try.prog 16 #[.agg #[.slice A0 l0.length c0, .slice A1 l1.length c1, .slice A2 l2.length c2], .int .i64 f, .agg (regsA r)] w fun x w' => x = .returned (.tuple #[.agg (ctx 0 zeroR (.slice none 0 0)), .int .i64 1]) ∧ Below w.heap.size w w' := by

  have hu30 := Try.underlying30
  have hd1 : decide (f < 0) = true := decide_eq_true hf
  have H0 := Aside0.mk h0
  clear h0
  have H1 := Aside0.mk h1
  clear h1
  have H2 := Aside0.mk h2
  clear h2
  have M0 := Aside0.mk (Mem.start [3] w)
  go_enter Try.func16, Try.ntmps16
  go_wp2_with (first
    | (refine eB M0 3 #[.slice A0 l0.length c0, .slice A1 l1.length c1, .slice A2 l2.length c2] 26 ?_; clear M0; intro g3 w3 M1)
    | (refine eB M1 5 (regsA r) 27 ?_; clear M1; intro g5 w5 M2)
    | (refine eB M2 6 (ctx 0 zeroR (.slice none 0 0)) 30 ?_; clear M2; intro g6 w6 M3)
    | (refine eR M3 30 6 2 (ctx 0 zeroR (.slice none 0 0)) ?_; clear M3; intro w_ M4))
  refine bodyPost_ret (results_ct rfl _ _ g6 30 (ctx 0 zeroR (.slice none 0 0)) (0, 0) _ rfl (M4.out.at 2 rfl) hu30 rfl (by kernel_rfl)) rfl ⟨rfl, M4.out.below⟩

set_option maxHeartbeats 2000000 in
set_option maxRecDepth 100000 in
theorem begin16_big (l0 : List Int) (l1 : List S75) (l2 : List S98) (A0 A1 A2 : Option Addr) (c0 c1 c2 : Nat) (f : Int) (r : Regs) (w : World)
    (h0 : Kd.C (Kd.int .u32) w A0 l0.length l0) (k0 : l0.length ≤ c0) (h1 : Kd.C k75 w A1 l1.length l1) (k1 : l1.length ≤ c1) (h2 : Kd.C k98 w A2 l2.length l2) (k2 : l2.length ≤ c2)
    (hf0 : 0 ≤ f) (hf : (l1.length : Int) ≤ f) :
    Calls Try.prog 16 #[.agg #[.slice A0 l0.length c0, .slice A1 l1.length c1, .slice A2 l2.length c2], .int .i64 f, .agg (regsA r)] w fun x w' => x = .returned (.tuple #[.agg (ctx 0 zeroR (.slice none 0 0)), .int .i64 1]) ∧ Below w.heap.size w w' := by

  have hu30 := Try.underlying30
  have hd1 : decide (f < 0) = false := decide_eq_false (by omega)
  have hd2 : decide ((l1.length : Int) ≤ f) = true := decide_eq_true hf
  have H0 := Aside0.mk h0
  clear h0
  have H1 := Aside0.mk h1
  clear h1
  have H2 := Aside0.mk h2
  clear h2
  have M0 := Aside0.mk (Mem.start [3] w)
  go_enter Try.func16, Try.ntmps16
  go_wp2_with (first
    | (refine eB M0 3 #[.slice A0 l0.length c0, .slice A1 l1.length c1, .slice A2 l2.length c2] 26 ?_; clear M0; intro g3 w3 M1)
    | (refine eB M1 5 (regsA r) 27 ?_; clear M1; intro g5 w5 M2)
    | (refine eB M2 6 (ctx 0 zeroR (.slice none 0 0)) 30 ?_; clear M2; intro g6 w6 M3)
    | ((with_reducible refine gate_dst (N := 13) rfl ?_); (refine gate_guard (by rfl) ?_; dsimp only); refine eC M3 13 0 1 (.slice A1 l1.length c1) ?_)
    | (refine eR M3 30 6 2 (ctx 0 zeroR (.slice none 0 0)) ?_; clear M3; intro w_ M4))
  refine bodyPost_ret (results_ct rfl _ _ g6 30 (ctx 0 zeroR (.slice none 0 0)) (0, 0) _ rfl (M4.out.at 2 rfl) hu30 rfl (by kernel_rfl)) rfl ⟨rfl, M4.out.below⟩

set_option maxHeartbeats 2000000 in
set_option maxRecDepth 100000 in
theorem begin16_ok (l0 : List Int) (l1 : List S75) (l2 : List S98) (A0 A1 A2 : Option Addr) (c0 c1 c2 : Nat) (f : Int) (r : Regs) (w : World)
    (h0 : Kd.C (Kd.int .u32) w A0 l0.length l0) (k0 : l0.length ≤ c0) (h1 : Kd.C k75 w A1 l1.length l1) (k1 : l1.length ≤ c1) (h2 : Kd.C k98 w A2 l2.length l2) (k2 : l2.length ≤ c2)
    (hf0 : 0 ≤ f) (hf1 : f < (l1.length : Int)) :
    Calls Try.prog 16 #[.agg #[.slice A0 l0.length c0, .slice A1 l1.length c1, .slice A2 l2.length c2], .int .i64 f, .agg (regsA r)] w fun x w' => x = .returned (.tuple #[.agg (ctx (rd_T75 l1 f).f0 r (.slice none 0 0)), .int .i64 0]) ∧ Below w.heap.size w w' := by
  have hu27 := Try.underlying27
  have hu30 := Try.underlying30
  obtain ⟨ad, rfl, _, _⟩ := at_T75 h1 f hf0 hf1
  have hd1 : decide (f < 0) = false := decide_eq_false (by omega)
  have hd2 : decide ((l1.length : Int) ≤ f) = false := decide_eq_false (by omega)
  have H0 := Aside0.mk h0
  clear h0
  have H1 := Aside0.mk h1
  clear h1
  have H2 := Aside0.mk h2
  clear h2
  have M0 := Aside0.mk (Mem.start [3] w)
  go_enter Try.func16, Try.ntmps16
  go_wp2_with (first
    | (refine eB M0 3 #[.slice A0 l0.length c0, .slice (some ad) l1.length c1, .slice A2 l2.length c2] 26 ?_; clear M0; intro g3 w3 M1)
    | (refine eB M1 5 (regsA r) 27 ?_; clear M1; intro g5 w5 M2)
    | (refine eB M2 6 (ctx 0 zeroR (.slice none 0 0)) 30 ?_; clear M2; intro g6 w6 M3)
    | ((with_reducible refine gate_dst (N := 13) rfl ?_); (refine gate_guard (by rfl) ?_; dsimp only); refine eC M3 13 0 1 (.slice (some ad) l1.length c1) ?_))
  have y1 := ((Mem.drew M3.out).cell 0 rfl 1).trans (show _ = some (Value.slice (some ad) l1.length c1) from rfl)
  obtain ⟨ad_, e_, y2, _⟩ := at_T75 (Kd.C_below H1.out (Mem.drew M3.out).below) f hf0 hf1
  cases e_
  have bl : (ad.add (f.toNat * 2)).block < w.heap.size := by obtain ⟨ad_, e_, hx_, _⟩ := at_T75 H1.out f hf0 hf1; cases e_; exact block_lt hx_
  have ra : World.rangeAt _ g5 0 (regsA r).toList := (Mem.drew M3.out).range 1 rfl
  have th : World.there _ g6 0 18 := (Mem.drew M3.out).there 2 rfl
  have na : g3 ≠ g6 := M3.out.ne 0 2 (by decide) rfl rfl
  have nb : g5 ≠ g6 := M3.out.ne 1 2 (by decide) rfl rfl
  have nc : (ad.add (f.toNat * 2)).block ≠ g6 := by have := M3.out.ge 2 rfl; omega
  have hi27 : (Try.prog.info? 27).map (·.size) = some (regsA r).toList.length := by kernel_rfl
  refine wp_region_noPanic ?_
  refine wp_region_held_drew (S := fun w' => w'.cell? ⟨g3, 1, none⟩ = some (.slice (some ad) l1.length c1) ∧ w'.cell? (ad.add (f.toNat * 2)) = some (.int .i64 (rd_T75 l1 f).f0) ∧ w'.rangeAt g5 0 (regsA r).toList ∧ w'.there g6 0 18) (by kernel_rfl) ⟨y1, y2, ra, th⟩ (fun hS => ?_)
  refine wpAnyH_take (i := 0) (oi := { dst := some 18, op := Op.fieldAddr 26 (Operand.tmp 3) 1, type := 0, pos := "step.go:17", after := #[], guard := none }) (v := Value.pointer (some ⟨g3, 1, none⟩)) rfl (by kernel_rfl) (by kernel_rfl) (by kernel_rfl) (fun _ _ _ h => h) (Or.inl ⟨by rfl, fun wq hw => ?_⟩) hS ?_
  · clear hw; go_simp
  simp only [Act.put, List.setIfInBounds_toArray, List.set_cons_zero, List.set_cons_succ]
  refine wpAnyH_take (i := 1) (oi := { dst := some 19, op := Op.load 23 (Operand.tmp 18), type := 23, pos := "step.go:17", after := #[{ on := 0, ground := Ground.data }], guard := none }) (v := Value.slice (some ad) l1.length c1) rfl (by kernel_rfl) (by kernel_rfl) (by kernel_rfl) (fun _ _ _ h => h) (Or.inl ⟨by rfl, fun wq hw => ?_⟩) hS ?_
  · have yq := hw.1; clear hw; go_simp
  simp only [Act.put, List.setIfInBounds_toArray, List.set_cons_zero, List.set_cons_succ]
  refine wpAnyH_take (i := 2) (oi := { dst := some 20, op := Op.move (Operand.tmp 1), type := 3, pos := "step.go:17", after := #[], guard := none }) (v := Value.int .i64 f) rfl (by kernel_rfl) (by kernel_rfl) (by kernel_rfl) (fun _ _ _ h => h) (Or.inl ⟨by rfl, fun wq hw => ?_⟩) hS ?_
  · clear hw; go_simp
  simp only [Act.put, List.setIfInBounds_toArray, List.set_cons_zero, List.set_cons_succ]
  refine wpAnyH_take (i := 3) (oi := { dst := some 21, op := Op.indexAddr 23 (Operand.tmp 19) (Operand.tmp 20), type := 0, pos := "step.go:17", after := #[{ on := 1, ground := Ground.data }, { on := 2, ground := Ground.data }], guard := none }) (v := Value.pointer (some (ad.add (f.toNat * 2)))) rfl (by kernel_rfl) (by kernel_rfl) (by kernel_rfl) (fun _ _ _ h => h) (Or.inl ⟨by rfl, fun wq hw => ?_⟩) hS ?_
  · clear hw; first | (go_simp; done) | (go_simp; rfl)
  simp only [Act.put, List.setIfInBounds_toArray, List.set_cons_zero, List.set_cons_succ]
  refine wpAnyH_take (i := 4) (oi := { dst := some 22, op := Op.fieldAddr 75 (Operand.tmp 21) 0, type := 0, pos := "step.go:17", after := #[{ on := 3, ground := Ground.data }], guard := none }) (v := Value.pointer (some (ad.add (f.toNat * 2)))) rfl (by kernel_rfl) (by kernel_rfl) (by kernel_rfl) (fun _ _ _ h => h) (Or.inl ⟨by rfl, fun wq hw => ?_⟩) hS ?_
  · clear hw; first | (go_simp; done) | (go_simp; rfl)
  simp only [Act.put, List.setIfInBounds_toArray, List.set_cons_zero, List.set_cons_succ]
  refine wpAnyH_take (i := 5) (oi := { dst := some 23, op := Op.load 3 (Operand.tmp 22), type := 3, pos := "step.go:17", after := #[{ on := 4, ground := Ground.data }], guard := none }) (v := Value.int .i64 (rd_T75 l1 f).f0) rfl (by kernel_rfl) (by kernel_rfl) (by kernel_rfl) (fun _ _ _ h => h) (Or.inl ⟨by rfl, fun wq hw => ?_⟩) hS ?_
  · have yq := hw.2.1; clear hw; go_simp
  simp only [Act.put, List.setIfInBounds_toArray, List.set_cons_zero, List.set_cons_succ]
  refine wpAnyH_take (i := 6) (oi := { dst := some 24, op := Op.load 27 (Operand.tmp 5), type := 27, pos := "step.go:17", after := #[], guard := none }) (v := _) rfl (by kernel_rfl) (by kernel_rfl) (by kernel_rfl) (fun _ _ _ h => h) (yieldsIf_load_mid (by rfl) _ _ rfl _ _ rfl _ _ (fun wq hw => hw.2.2.1) hu27 rfl hi27) hS ?_
  simp only [Array.toArray_toList, Act.put, List.setIfInBounds_toArray, List.set_cons_zero, List.set_cons_succ]
  refine wpAnyH_take (i := 7) (oi := { dst := some 25, op := Op.build 30 #[(0, Operand.tmp 23), (1, Operand.tmp 24)], type := 30, pos := "step.go:17", after := #[{ on := 5, ground := Ground.data }, { on := 6, ground := Ground.data }], guard := none }) (v := Value.agg (ctx (rd_T75 l1 f).f0 r (.slice none 0 0))) rfl (by kernel_rfl) (by kernel_rfl) (by kernel_rfl) (fun _ _ _ h => h) (Or.inl ⟨by rfl, fun wq hw => ?_⟩) hS ?_
  · clear hw; go_simp; kernel_rfl
  simp only [Act.put, List.setIfInBounds_toArray, List.set_cons_zero, List.set_cons_succ]
  refine anyH_store (i := 8) (o := { dst := none, op := Op.store 30 (Operand.tmp 6) (Operand.tmp 25), type := 0, pos := "step.go:17", after := #[{ on := 7, ground := Ground.data }, { on := 0, ground := Ground.phase }, { on := 1, ground := Ground.phase }, { on := 2, ground := Ground.phase }, { on := 3, ground := Ground.phase }, { on := 4, ground := Ground.phase }, { on := 5, ground := Ground.phase }, { on := 6, ground := Ground.phase }, { on := 7, ground := Ground.phase }], guard := none }) (by kernel_rfl) rfl (by rfl) rfl 30 (.tmp 6) (.tmp 25) rfl g6 0 (ctx (rd_T75 l1 f).f0 r (.slice none 0 0)) ?hx ?hy ?ht ?hi ?h1 ?hS ?rest
  case hx => rfl
  case hy => rfl
  case ht => exact hS.2.2.2
  case hi => kernel_rfl
  case h1 => kernel_rfl
  case hS => exact ⟨(by rw [World.cell?_setCells_out _ _ _ _ _ (fun hb_ _ => absurd hb_ na)]; exact hS.1), (by rw [World.cell?_setCells_out _ _ _ _ _ (fun hb_ _ => absurd hb_ nc)]; exact hS.2.1), World.rangeAt_setCells_apart hS.2.2.1 _ _ _ (.inl nb), World.there_setCells hS.2.2.2 _ _ _⟩
  clear hS
  intro hS
  refine wpAnyH_take (i := 9) (oi := { dst := some 7, op := Op.assign (Operand.const (Value.int IntKind.i64 0)), type := 47, pos := "step.go:17", after := #[{ on := 8, ground := Ground.chain }, { on := 0, ground := Ground.phase }, { on := 1, ground := Ground.phase }, { on := 2, ground := Ground.phase }, { on := 3, ground := Ground.phase }, { on := 4, ground := Ground.phase }, { on := 5, ground := Ground.phase }, { on := 6, ground := Ground.phase }, { on := 7, ground := Ground.phase }, { on := 8, ground := Ground.phase }], guard := none }) (v := Value.int .i64 0) rfl (by kernel_rfl) (by kernel_rfl) (by kernel_rfl) (fun _ _ _ h => h) (Or.inl ⟨by rfl, fun wq hw => ?_⟩) hS ?_
  · clear hw; go_simp
  simp only [Act.put, List.setIfInBounds_toArray, List.set_cons_zero, List.set_cons_succ]
  refine wpAnyH_done (by kernel_rfl) ?_ _
  refine NoPanic.normal ?_
  clear hS ra y1 y2 th na nb nc hi27
  have M4 := Aside0.mk (Mem.cells (Mem.drew M3.out) 2 rfl (ctx (rd_T75 l1 f).f0 r (.slice none 0 0)) rfl)
  clear M3
  go_wp2_with fail
  refine bodyPost_ret (results_ct rfl _ _ g6 30 (ctx (rd_T75 l1 f).f0 r (.slice none 0 0)) (0, 0) _ rfl (M4.out.at 2 rfl) hu30 rfl (by kernel_rfl)) rfl ⟨rfl, M4.out.below⟩

end Go.Proofs.Ythjfmlehkcccfaa.Hbegp
end
