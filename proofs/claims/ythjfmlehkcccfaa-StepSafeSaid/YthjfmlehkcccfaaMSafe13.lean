import Derived.Test.YthjfmlehkcccfaaMSafe2
import Derived.Test.YthjfmlehkcccfaaMSafe5
import Derived.Test.YthjfmlehkcccfaaMSafe6
import Derived.Test.YthjfmlehkcccfaaMSafe11
import Derived.Test.YthjfmlehkcccfaaMSafe12
import Derived.Deep.QuietTactic
import Derived.BigQuiet
import Derived.Deep.MidRow
import Derived.Lib.Hide
import Derived.Outline
section
/-
  step.Step and rotaref09.Step: ways (p_a).
-/
set_option linter.unusedVariables false
set_option linter.unusedSimpArgs false
namespace Go.Proofs.Ythjfmlehkcccfaa.Hs0
open Go.RowKit Go.Proofs.YthjfmlehkcccfaaW.PrintWords Go.Proofs.YthjfmlehkcccfaaW.PrintLast Go.Proofs.YthjfmlehkcccfaaW.PrintMore GA Hctx Hsmall Qstep
set_option maxHeartbeats 2000000 in
set_option maxRecDepth 100000 in
theorem p_a (l0 : List Int) (l1 : List S75) (l2 : List S98) (A0 A1 A2 : Option Addr) (c0 c1 c2 : Nat) (pc : Int) (r : Regs) (A : Option Addr) (c : Nat) (l : List Int) (clk slot gen : Int) (w : World)
    (h0 : Kd.C (Kd.int .u32) w A0 l0.length l0) (k0 : l0.length ≤ c0) (h1 : Kd.C k75 w A1 l1.length l1) (k1 : l1.length ≤ c1) (h2 : Kd.C k98 w A2 l2.length l2) (k2 : l2.length ≤ c2) (hl : Kd.C (Kd.int .i64) w A l.length l) (kl : l.length ≤ c) (hlim : l.length < 17592186044416)
    (op : Int) (a b c' : Nat) (m : Int) (ha : a < 16) (hb : b < 16) (hc : c' < 16) (q1 : 0 ≤ pc) (q2 : pc < 9223372036854775807) (q6 : op ≠ 2 → 0 ≤ m) (hop : op = 1 ∨ op = 2 ∨ op = 3 ∨ op = 4 ∨ op = 17 ∨ op = 18 ∨ op = 19) (hn : step_next.f l0 l1 l2 pc r.r0 r.r1 r.r2 r.r3 r.r4 r.r5 r.r6 r.r7 r.r8 r.r9 r.r10 r.r11 r.r12 r.r13 r.r14 r.r15 l = some (op, (a : Int), (b : Int), (c' : Int), m, true)) :
    Calls Try.prog 11 #[.agg #[.slice A0 l0.length c0, .slice A1 l1.length c1, .slice A2 l2.length c2], .agg (ctx pc r (.slice A l.length c)), .agg #[.int .u64 clk, .int .i64 slot, .int .i64 gen]] w (Post w (stepO l1 pc r l clk slot gen true op a b c' m).pc (stepO l1 pc r l clk slot gen true op a b c' m).r (stepO l1 pc r l clk slot gen true op a b c' m).calls (stepO l1 pc r l clk slot gen true op a b c' m).want) := by
  have hu26 := Try.underlying26
  have hu30 := Try.underlying30
  have hu37 := Try.underlying37
  have hu40 := Try.underlying40
  have p1 : (0 : Int) ≤ (a : Int) := by omega
  have p2 : (a : Int) < 16 := by omega
  have p3 : (0 : Int) ≤ (b : Int) := by omega
  have p4 : (b : Int) < 16 := by omega
  have p5 : (0 : Int) ≤ (c' : Int) := by omega
  have p6 : (c' : Int) < 16 := by omega
  have H0 := Aside0.mk h0
  clear h0
  have H1 := Aside0.mk h1
  clear h1
  have H2 := Aside0.mk h2
  clear h2
  have HL := Aside0.mk hl
  clear hl
  have HN := Aside0.mk hn
  clear hn
  have HQ6 := Lib.hid q6
  clear q6
  have M0 := Aside0.mk (Mem.start [3] w)
  go_enter Try.func11, Try.ntmps11
  go_wp2_with (first
    | (refine eB M0 3 #[.slice A0 l0.length c0, .slice A1 l1.length c1, .slice A2 l2.length c2] 26 ?_; clear M0; intro g3 w3 M1)
    | (refine eB M1 4 (ctx pc r (.slice A l.length c)) 30 ?_; clear M1; intro g4 w4 M2)
    | (refine eB M2 5 #[.int .u64 clk, .int .i64 slot, .int .i64 gen] 35 ?_; clear M2; intro g5 w5 M3)
    | (refine eB M3 6 (ctx 0 zeroR (.slice none 0 0)) 30 ?_; clear M3; intro g6 w6 M4)
    | (refine eB M4 7 want0 40 ?_; clear M4; intro g7 w7 M5)
    | (refine eL M5 18 0 hu26 ?_)
    | (refine eL M5 19 1 hu30 ?_))
  refine (step_next.calls A0 c0 l0 _ c1 l1 A2 c2 l2 pc r.r0 r.r1 r.r2 r.r3 r.r4 r.r5 r.r6 r.r7 r.r8 r.r9 r.r10 r.r11 r.r12 r.r13 r.r14 r.r15 A c l _ _ _ _ _ _ _ (Kd.C_below H0.out M5.out.below) k0 (Kd.C_below H1.out M5.out.below) k1 (Kd.C_below H2.out M5.out.below) k2 (Kd.C_below HL.out M5.out.below) kl HN.out).mono ?_
  rintro e W20 ⟨rfl, hb⟩
  have M6 := Aside0.mk (Mem.call M5.out hb)
  clear M5 hb
  go_wp2_with (first
    | (refine eB M6 8 (instC 0 0 0 0 0) 37 ?_; clear M6; intro g8 w8 M7)
    | (refine eR M7 37 8 5 (instC op (a : Int) (b : Int) (c' : Int) m) ?_; clear M7; intro w_ M8)
    | (refine eL M8 29 1 hu30 ?_)
    | (refine eB M8 10 (ctx 0 zeroR (.slice none 0 0)) 30 ?_; clear M8; intro g10 w10 M9)
    | (refine eR M9 30 10 6 (ctx pc r (.slice A l.length c)) ?_; clear M9; intro w_ M10))
  have y1 := (M10.out.cell 5 rfl 1).trans (show _ = some (Value.int .i64 (a : Int)) from rfl)
  have z1 := (M10.out.cell 1 rfl (1 + a)).trans (ctx_reg pc r (.slice A l.length c) a ha)
  have y2 := (M10.out.cell 5 rfl 2).trans (show _ = some (Value.int .i64 (b : Int)) from rfl)
  have z2 := (M10.out.cell 1 rfl (1 + b)).trans (ctx_reg pc r (.slice A l.length c) b hb)
  have y3 := (M10.out.cell 5 rfl 3).trans (show _ = some (Value.int .i64 (c' : Int)) from rfl)
  have z3 := (M10.out.cell 1 rfl (1 + c')).trans (ctx_reg pc r (.slice A l.length c) c' hc)
  go_quiet (fail)
  clear y1 y2 y3 z1 z2 z3
  have M11 := Aside0.mk (Mem.drewN M10.out nq)
  clear M10
  go_wp2_with (first
    | (refine eC M11 46 5 1 (.int .i64 (a : Int)) ?_)
    | (refine eC M11 50 1 17 (.slice A l.length c) ?_))
  refine (Hclone.clone_calls A c l _ (Kd.C_below HL.out M11.out.below) kl hlim).mono ?_
  rintro e W51 ⟨v51, rfl, hR, hb⟩
  obtain ⟨A51, c51, rfl⟩ := Kd.R_slice hR
  have M12 := Aside0.mk (Mem.row M11.out hb hR)
  clear M11 hR hb
  have q6 := HQ6.out
  clear HQ6
  rcases hop with rfl | rfl | rfl | rfl | rfl | rfl | rfl
  · clear q6
    go_wp2_with (first
        | (refine eS M12 28 52 1 17 (.slice A51 l.length c51) (ctx pc r (.slice A51 l.length c51)) ?_; clear M12; intro w_ M13)
        | (refine eC M13 54 1 0 (.int .i64 pc) ?_)
        | (refine eS M13 3 56 1 0 (.int .i64 (pc + 1)) (ctx (pc + 1) r (.slice A51 l.length c51)) ?_; clear M13; intro w_ M14)
        | (refine eC M14 58 5 0 (.int .i64 1) ?_)
        | (refine eL M14 232 1 hu30 ?_)
        | (refine eR M14 30 6 3 (ctx (pc + 1) r (.slice A51 l.length c51)) ?_; clear M14; intro w_ M15)
        | (refine eR M15 40 7 4 want0 ?_; clear M15; intro w_ M16))
    rw [show stepO l1 pc r l clk slot gen true 1 a b c' m = ⟨pc + 1, r, l, want0⟩ from by simp [stepO]]
    refine bodyPost_ret (results_cc rfl _ _ g6 g7 30 40 (ctx (pc + 1) r (.slice A51 l.length c51)) want0 (0, 0) (0, 0) _ _ rfl (M16.out.at 3 rfl) hu30 rfl (by kernel_rfl) rfl (M16.out.at 4 rfl) hu40 rfl (by kernel_rfl)) rfl ⟨_, rfl, M16.out.own, M16.out.below⟩
  · clear q6
    go_wp2_with (first
        | (refine eS M12 28 52 1 17 (.slice A51 l.length c51) (ctx pc r (.slice A51 l.length c51)) ?_; clear M12; intro w_ M13)
        | (refine eC M13 54 1 0 (.int .i64 pc) ?_)
        | (refine eS M13 3 56 1 0 (.int .i64 (pc + 1)) (ctx (pc + 1) r (.slice A51 l.length c51)) ?_; clear M13; intro w_ M14)
        | (refine eC M14 58 5 0 (.int .i64 2) ?_)
        | (refine eC M14 86 5 4 (.int .i64 m) ?_)
        | (refine eS M14 2 87 1 (1 + a) (.int .i64 m) (ctx (pc + 1) (r.set a m) (.slice A51 l.length c51)) (hj := ctx_some _ _ _ _ ha) (hnew := ctx_setreg _ _ _ _ ha _) ?_; clear M14; intro w_ M15)
        | (refine eL M15 232 1 hu30 ?_)
        | (refine eR M15 30 6 3 (ctx (pc + 1) (r.set a m) (.slice A51 l.length c51)) ?_; clear M15; intro w_ M16)
        | (refine eR M16 40 7 4 want0 ?_; clear M16; intro w_ M17))
    rw [show stepO l1 pc r l clk slot gen true 2 a b c' m = ⟨pc + 1, r.set a m, l, want0⟩ from by simp [stepO]]
    refine bodyPost_ret (results_cc rfl _ _ g6 g7 30 40 (ctx (pc + 1) (r.set a m) (.slice A51 l.length c51)) want0 (0, 0) (0, 0) _ _ rfl (M17.out.at 3 rfl) hu30 rfl (by kernel_rfl) rfl (M17.out.at 4 rfl) hu40 rfl (by kernel_rfl)) rfl ⟨_, rfl, M17.out.own, M17.out.below⟩
  · clear q6
    go_wp2_with (first
        | (refine eS M12 28 52 1 17 (.slice A51 l.length c51) (ctx pc r (.slice A51 l.length c51)) ?_; clear M12; intro w_ M13)
        | (refine eC M13 54 1 0 (.int .i64 pc) ?_)
        | (refine eS M13 3 56 1 0 (.int .i64 (pc + 1)) (ctx (pc + 1) r (.slice A51 l.length c51)) ?_; clear M13; intro w_ M14)
        | (refine eC M14 58 5 0 (.int .i64 3) ?_)
        | (refine eC M14 94 5 4 (.int .i64 m) ?_)
        | (refine eS M14 2 96 1 (1 + a) (.int .i64 (wrap64 (wrap64 (r.get a * 65536) + m))) (ctx (pc + 1) (r.set a (wrap64 (wrap64 (r.get a * 65536) + m))) (.slice A51 l.length c51)) (hj := ctx_some _ _ _ _ ha) (hnew := ctx_setreg _ _ _ _ ha _) ?_; clear M14; intro w_ M15)
        | (refine eL M15 232 1 hu30 ?_)
        | (refine eR M15 30 6 3 (ctx (pc + 1) (r.set a (wrap64 (wrap64 (r.get a * 65536) + m))) (.slice A51 l.length c51)) ?_; clear M15; intro w_ M16)
        | (refine eR M16 40 7 4 want0 ?_; clear M16; intro w_ M17))
    rw [show stepO l1 pc r l clk slot gen true 3 a b c' m = ⟨pc + 1, r.set a (wrap64 (wrap64 (r.get a * 65536) + m)), l, want0⟩ from by simp [stepO]]
    refine bodyPost_ret (results_cc rfl _ _ g6 g7 30 40 (ctx (pc + 1) (r.set a (wrap64 (wrap64 (r.get a * 65536) + m))) (.slice A51 l.length c51)) want0 (0, 0) (0, 0) _ _ rfl (M17.out.at 3 rfl) hu30 rfl (by kernel_rfl) rfl (M17.out.at 4 rfl) hu40 rfl (by kernel_rfl)) rfl ⟨_, rfl, M17.out.own, M17.out.below⟩
  · clear q6
    go_wp2_with (first
        | (refine eS M12 28 52 1 17 (.slice A51 l.length c51) (ctx pc r (.slice A51 l.length c51)) ?_; clear M12; intro w_ M13)
        | (refine eC M13 54 1 0 (.int .i64 pc) ?_)
        | (refine eS M13 3 56 1 0 (.int .i64 (pc + 1)) (ctx (pc + 1) r (.slice A51 l.length c51)) ?_; clear M13; intro w_ M14)
        | (refine eC M14 58 5 0 (.int .i64 4) ?_)
        | (refine eS M14 2 101 1 (1 + a) (.int .i64 (r.get b)) (ctx (pc + 1) (r.set a (r.get b)) (.slice A51 l.length c51)) (hj := ctx_some _ _ _ _ ha) (hnew := ctx_setreg _ _ _ _ ha _) ?_; clear M14; intro w_ M15)
        | (refine eL M15 232 1 hu30 ?_)
        | (refine eR M15 30 6 3 (ctx (pc + 1) (r.set a (r.get b)) (.slice A51 l.length c51)) ?_; clear M15; intro w_ M16)
        | (refine eR M16 40 7 4 want0 ?_; clear M16; intro w_ M17))
    rw [show stepO l1 pc r l clk slot gen true 4 a b c' m = ⟨pc + 1, r.set a (r.get b), l, want0⟩ from by simp [stepO]]
    refine bodyPost_ret (results_cc rfl _ _ g6 g7 30 40 (ctx (pc + 1) (r.set a (r.get b)) (.slice A51 l.length c51)) want0 (0, 0) (0, 0) _ _ rfl (M17.out.at 3 rfl) hu30 rfl (by kernel_rfl) rfl (M17.out.at 4 rfl) hu40 rfl (by kernel_rfl)) rfl ⟨_, rfl, M17.out.own, M17.out.below⟩
  · clear q6
    go_wp2_with (first
        | (refine eS M12 28 52 1 17 (.slice A51 l.length c51) (ctx pc r (.slice A51 l.length c51)) ?_; clear M12; intro w_ M13)
        | (refine eC M13 54 1 0 (.int .i64 pc) ?_)
        | (refine eS M13 3 56 1 0 (.int .i64 (pc + 1)) (ctx (pc + 1) r (.slice A51 l.length c51)) ?_; clear M13; intro w_ M14)
        | (refine eC M14 58 5 0 (.int .i64 17) ?_)
        | (refine eC M14 105 5 4 (.int .i64 m) ?_)
        | (refine eS M14 3 106 1 0 (.int .i64 m) (ctx m r (.slice A51 l.length c51)) ?_; clear M14; intro w_ M15)
        | (refine eL M15 232 1 hu30 ?_)
        | (refine eR M15 30 6 3 (ctx m r (.slice A51 l.length c51)) ?_; clear M15; intro w_ M16)
        | (refine eR M16 40 7 4 want0 ?_; clear M16; intro w_ M17))
    rw [show stepO l1 pc r l clk slot gen true 17 a b c' m = ⟨m, r, l, want0⟩ from by simp [stepO]]
    refine bodyPost_ret (results_cc rfl _ _ g6 g7 30 40 (ctx m r (.slice A51 l.length c51)) want0 (0, 0) (0, 0) _ _ rfl (M17.out.at 3 rfl) hu30 rfl (by kernel_rfl) rfl (M17.out.at 4 rfl) hu40 rfl (by kernel_rfl)) rfl ⟨_, rfl, M17.out.own, M17.out.below⟩
  · clear q6
    by_cases z : r.get a = 0
    · have hx : (r.get a == 0) = true := beq_iff_eq.2 z
      have hx' : (r.get a != 0) = false := bne_eq_false_iff_eq.2 z
      have Z := Lib.hid z
      clear z
      go_wp2_with (first
        | (refine eS M12 28 52 1 17 (.slice A51 l.length c51) (ctx pc r (.slice A51 l.length c51)) ?_; clear M12; intro w_ M13)
        | (refine eC M13 54 1 0 (.int .i64 pc) ?_)
        | (refine eS M13 3 56 1 0 (.int .i64 (pc + 1)) (ctx (pc + 1) r (.slice A51 l.length c51)) ?_; clear M13; intro w_ M14)
        | (refine eC M14 58 5 0 (.int .i64 18) ?_)
        | (refine eC M14 113 5 0 (.int .i64 18) ?_)
        | (refine eC M14 117 5 4 (.int .i64 m) ?_)
        | (refine eS M14 3 118 1 0 (.int .i64 m) (ctx m r (.slice A51 l.length c51)) ?_; clear M14; intro w_ M15)
        | (refine eL M15 232 1 hu30 ?_)
        | (refine eR M15 30 6 3 (ctx m r (.slice A51 l.length c51)) ?_; clear M15; intro w_ M16)
        | (refine eR M16 40 7 4 want0 ?_; clear M16; intro w_ M17))
      rw [show stepO l1 pc r l clk slot gen true 18 a b c' m = ⟨m, r, l, want0⟩ from by simp [stepO, Z.out]]
      refine bodyPost_ret (results_cc rfl _ _ g6 g7 30 40 (ctx m r (.slice A51 l.length c51)) want0 (0, 0) (0, 0) _ _ rfl (M17.out.at 3 rfl) hu30 rfl (by kernel_rfl) rfl (M17.out.at 4 rfl) hu40 rfl (by kernel_rfl)) rfl ⟨_, rfl, M17.out.own, M17.out.below⟩
    · have hx : (r.get a == 0) = false := beq_eq_false_iff_ne.2 z
      have hx' : (r.get a != 0) = true := bne_iff_ne.2 z
      have Z := Lib.hid z
      clear z
      go_wp2_with (first
        | (refine eS M12 28 52 1 17 (.slice A51 l.length c51) (ctx pc r (.slice A51 l.length c51)) ?_; clear M12; intro w_ M13)
        | (refine eC M13 54 1 0 (.int .i64 pc) ?_)
        | (refine eS M13 3 56 1 0 (.int .i64 (pc + 1)) (ctx (pc + 1) r (.slice A51 l.length c51)) ?_; clear M13; intro w_ M14)
        | (refine eC M14 58 5 0 (.int .i64 18) ?_)
        | (refine eC M14 113 5 0 (.int .i64 18) ?_)
        | (refine eL M14 232 1 hu30 ?_)
        | (refine eR M14 30 6 3 (ctx (pc + 1) r (.slice A51 l.length c51)) ?_; clear M14; intro w_ M15)
        | (refine eR M15 40 7 4 want0 ?_; clear M15; intro w_ M16))
      rw [show stepO l1 pc r l clk slot gen true 18 a b c' m = ⟨pc + 1, r, l, want0⟩ from by simp [stepO, Z.out]]
      refine bodyPost_ret (results_cc rfl _ _ g6 g7 30 40 (ctx (pc + 1) r (.slice A51 l.length c51)) want0 (0, 0) (0, 0) _ _ rfl (M16.out.at 3 rfl) hu30 rfl (by kernel_rfl) rfl (M16.out.at 4 rfl) hu40 rfl (by kernel_rfl)) rfl ⟨_, rfl, M16.out.own, M16.out.below⟩
  · clear q6
    by_cases z : r.get a = 0
    · have hx : (r.get a == 0) = true := beq_iff_eq.2 z
      have hx' : (r.get a != 0) = false := bne_eq_false_iff_eq.2 z
      have Z := Lib.hid z
      clear z
      go_wp2_with (first
        | (refine eS M12 28 52 1 17 (.slice A51 l.length c51) (ctx pc r (.slice A51 l.length c51)) ?_; clear M12; intro w_ M13)
        | (refine eC M13 54 1 0 (.int .i64 pc) ?_)
        | (refine eS M13 3 56 1 0 (.int .i64 (pc + 1)) (ctx (pc + 1) r (.slice A51 l.length c51)) ?_; clear M13; intro w_ M14)
        | (refine eC M14 58 5 0 (.int .i64 19) ?_)
        | (refine eC M14 113 5 0 (.int .i64 19) ?_)
        | (refine eL M14 232 1 hu30 ?_)
        | (refine eR M14 30 6 3 (ctx (pc + 1) r (.slice A51 l.length c51)) ?_; clear M14; intro w_ M15)
        | (refine eR M15 40 7 4 want0 ?_; clear M15; intro w_ M16))
      rw [show stepO l1 pc r l clk slot gen true 19 a b c' m = ⟨pc + 1, r, l, want0⟩ from by simp [stepO, Z.out]]
      refine bodyPost_ret (results_cc rfl _ _ g6 g7 30 40 (ctx (pc + 1) r (.slice A51 l.length c51)) want0 (0, 0) (0, 0) _ _ rfl (M16.out.at 3 rfl) hu30 rfl (by kernel_rfl) rfl (M16.out.at 4 rfl) hu40 rfl (by kernel_rfl)) rfl ⟨_, rfl, M16.out.own, M16.out.below⟩
    · have hx : (r.get a == 0) = false := beq_eq_false_iff_ne.2 z
      have hx' : (r.get a != 0) = true := bne_iff_ne.2 z
      have Z := Lib.hid z
      clear z
      go_wp2_with (first
        | (refine eS M12 28 52 1 17 (.slice A51 l.length c51) (ctx pc r (.slice A51 l.length c51)) ?_; clear M12; intro w_ M13)
        | (refine eC M13 54 1 0 (.int .i64 pc) ?_)
        | (refine eS M13 3 56 1 0 (.int .i64 (pc + 1)) (ctx (pc + 1) r (.slice A51 l.length c51)) ?_; clear M13; intro w_ M14)
        | (refine eC M14 58 5 0 (.int .i64 19) ?_)
        | (refine eC M14 113 5 0 (.int .i64 19) ?_)
        | (refine eC M14 117 5 4 (.int .i64 m) ?_)
        | (refine eS M14 3 118 1 0 (.int .i64 m) (ctx m r (.slice A51 l.length c51)) ?_; clear M14; intro w_ M15)
        | (refine eL M15 232 1 hu30 ?_)
        | (refine eR M15 30 6 3 (ctx m r (.slice A51 l.length c51)) ?_; clear M15; intro w_ M16)
        | (refine eR M16 40 7 4 want0 ?_; clear M16; intro w_ M17))
      rw [show stepO l1 pc r l clk slot gen true 19 a b c' m = ⟨m, r, l, want0⟩ from by simp [stepO, Z.out]]
      refine bodyPost_ret (results_cc rfl _ _ g6 g7 30 40 (ctx m r (.slice A51 l.length c51)) want0 (0, 0) (0, 0) _ _ rfl (M17.out.at 3 rfl) hu30 rfl (by kernel_rfl) rfl (M17.out.at 4 rfl) hu40 rfl (by kernel_rfl)) rfl ⟨_, rfl, M17.out.own, M17.out.below⟩
set_option maxHeartbeats 2000000 in
set_option maxRecDepth 100000 in
theorem p_bad (l0 : List Int) (l1 : List S75) (l2 : List S98) (A0 A1 A2 : Option Addr) (c0 c1 c2 : Nat) (pc : Int) (r : Regs) (A : Option Addr) (c : Nat) (l : List Int) (clk slot gen : Int) (w : World)
    (h0 : Kd.C (Kd.int .u32) w A0 l0.length l0) (k0 : l0.length ≤ c0) (h1 : Kd.C k75 w A1 l1.length l1) (k1 : l1.length ≤ c1) (h2 : Kd.C k98 w A2 l2.length l2) (k2 : l2.length ≤ c2) (hl : Kd.C (Kd.int .i64) w A l.length l) (kl : l.length ≤ c) (hlim : l.length < 17592186044416)
      (hn : step_next.f l0 l1 l2 pc r.r0 r.r1 r.r2 r.r3 r.r4 r.r5 r.r6 r.r7 r.r8 r.r9 r.r10 r.r11 r.r12 r.r13 r.r14 r.r15 l = some (0, 0, 0, 0, 0, false)) :
    Calls Try.prog 11 #[.agg #[.slice A0 l0.length c0, .slice A1 l1.length c1, .slice A2 l2.length c2], .agg (ctx pc r (.slice A l.length c)), .agg #[.int .u64 clk, .int .i64 slot, .int .i64 gen]] w (Post w pc r l (wantC 58 0 0 0 0 0 0 0 0 1 0)) := by
  have hu26 := Try.underlying26
  have hu30 := Try.underlying30
  have hu40 := Try.underlying40
  have H0 := Aside0.mk h0
  clear h0
  have H1 := Aside0.mk h1
  clear h1
  have H2 := Aside0.mk h2
  clear h2
  have HL := Aside0.mk hl
  clear hl
  have HN := Aside0.mk hn
  clear hn
  have M0 := Aside0.mk (Mem.start [3] w)
  go_enter Try.func11, Try.ntmps11
  go_wp2_with (first
    | (refine eB M0 3 #[.slice A0 l0.length c0, .slice A1 l1.length c1, .slice A2 l2.length c2] 26 ?_; clear M0; intro g3 w3 M1)
    | (refine eB M1 4 (ctx pc r (.slice A l.length c)) 30 ?_; clear M1; intro g4 w4 M2)
    | (refine eB M2 5 #[.int .u64 clk, .int .i64 slot, .int .i64 gen] 35 ?_; clear M2; intro g5 w5 M3)
    | (refine eB M3 6 (ctx 0 zeroR (.slice none 0 0)) 30 ?_; clear M3; intro g6 w6 M4)
    | (refine eB M4 7 want0 40 ?_; clear M4; intro g7 w7 M5)
    | (refine eL M5 18 0 hu26 ?_)
    | (refine eL M5 19 1 hu30 ?_))
  refine (step_next.calls A0 c0 l0 _ c1 l1 A2 c2 l2 pc r.r0 r.r1 r.r2 r.r3 r.r4 r.r5 r.r6 r.r7 r.r8 r.r9 r.r10 r.r11 r.r12 r.r13 r.r14 r.r15 A c l _ _ _ _ _ _ _ (Kd.C_below H0.out M5.out.below) k0 (Kd.C_below H1.out M5.out.below) k1 (Kd.C_below H2.out M5.out.below) k2 (Kd.C_below HL.out M5.out.below) kl HN.out).mono ?_
  rintro e W20 ⟨rfl, hb⟩
  have M6 := Aside0.mk (Mem.call M5.out hb)
  clear M5 hb
  go_wp2_with (first
    | (refine eB M6 8 (instC 0 0 0 0 0) 37 ?_; clear M6; intro g8 w8 M7)
    | (refine eR M7 37 8 5 (instC 0 0 0 0 0) ?_; clear M7; intro w_ M8)
    | (refine eL M8 25 1 hu30 ?_))
  refine (step_trapped pc r A c l 1 _ (Kd.C_below HL.out M8.out.below) kl hlim).mono ?_
  rintro e W26 ⟨v26, rfl, hR, hb⟩
  obtain ⟨A26, c26, rfl⟩ := Kd.R_slice hR
  have M9 := Aside0.mk (Mem.row M8.out hb hR)
  clear M8 hR hb
  go_wp2_with (first
    | (refine eR M9 30 6 3 (ctx pc r (.slice A26 l.length c26)) ?_; clear M9; intro w_ M10)
    | (refine eR M10 40 7 4 (wantC 58 0 0 0 0 0 0 0 0 1 0) ?_; clear M10; intro w_ M11))
  refine bodyPost_ret (results_cc rfl _ _ g6 g7 30 40 (ctx pc r (.slice A26 l.length c26)) (wantC 58 0 0 0 0 0 0 0 0 1 0) (0, 0) (0, 0) _ _ rfl (M11.out.at 3 rfl) hu30 rfl (by kernel_rfl) rfl (M11.out.at 4 rfl) hu40 rfl (by kernel_rfl)) rfl ⟨_, rfl, M11.out.own, M11.out.below⟩
end Go.Proofs.Ythjfmlehkcccfaa.Hs0
end
