import Derived.Test.YthjfmlehkcccfaaMSafe2
import Derived.Test.YthjfmlehkcccfaaMSafe5
import Derived.Test.YthjfmlehkcccfaaMSafe6
import Derived.Test.YthjfmlehkcccfaaMSafe11
import Derived.Test.YthjfmlehkcccfaaMSafe12
import Derived.Deep.QuietTactic
import Derived.BigQuiet
import Derived.Deep.MidRow
import Derived.Lib.Hide
import Derived.Outline
section
/-
  step.Step and rotaref09.Step: ways (p_b).
-/
set_option linter.unusedVariables false
set_option linter.unusedSimpArgs false
namespace Go.Proofs.Ythjfmlehkcccfaa.Hs1
open Go.RowKit Go.Proofs.YthjfmlehkcccfaaW.PrintWords Go.Proofs.YthjfmlehkcccfaaW.PrintLast Go.Proofs.YthjfmlehkcccfaaW.PrintMore GA Hctx Hsmall Qstep
set_option maxHeartbeats 2000000 in
set_option maxRecDepth 100000 in
theorem p_b (l0 : List Int) (l1 : List S75) (l2 : List S98) (A0 A1 A2 : Option Addr) (c0 c1 c2 : Nat) (pc : Int) (r : Regs) (A : Option Addr) (c : Nat) (l : List Int) (clk slot gen : Int) (w : World)
    (h0 : Kd.C (Kd.int .u32) w A0 l0.length l0) (k0 : l0.length ≤ c0) (h1 : Kd.C k75 w A1 l1.length l1) (k1 : l1.length ≤ c1) (h2 : Kd.C k98 w A2 l2.length l2) (k2 : l2.length ≤ c2) (hl : Kd.C (Kd.int .i64) w A l.length l) (kl : l.length ≤ c) (hlim : l.length < 17592186044416)
    (op : Int) (a b c' : Nat) (m : Int) (ha : a < 16) (hb : b < 16) (hc : c' < 16) (q1 : 0 ≤ pc) (q2 : pc < 9223372036854775807) (q6 : op ≠ 2 → 0 ≤ m) (hop : op = 8 ∨ op = 9 ∨ op = 20 ∨ op = 21) (hn : step_next.f l0 l1 l2 pc r.r0 r.r1 r.r2 r.r3 r.r4 r.r5 r.r6 r.r7 r.r8 r.r9 r.r10 r.r11 r.r12 r.r13 r.r14 r.r15 l = some (op, (a : Int), (b : Int), (c' : Int), m, true)) :
    Calls Try.prog 11 #[.agg #[.slice A0 l0.length c0, .slice A1 l1.length c1, .slice A2 l2.length c2], .agg (ctx pc r (.slice A l.length c)), .agg #[.int .u64 clk, .int .i64 slot, .int .i64 gen]] w (Post w (stepO l1 pc r l clk slot gen true op a b c' m).pc (stepO l1 pc r l clk slot gen true op a b c' m).r (stepO l1 pc r l clk slot gen true op a b c' m).calls (stepO l1 pc r l clk slot gen true op a b c' m).want) := by
  have hu26 := Try.underlying26
  have hu30 := Try.underlying30
  have hu37 := Try.underlying37
  have hu40 := Try.underlying40
  have p1 : (0 : Int) ≤ (a : Int) := by omega
  have p2 : (a : Int) < 16 := by omega
  have p3 : (0 : Int) ≤ (b : Int) := by omega
  have p4 : (b : Int) < 16 := by omega
  have p5 : (0 : Int) ≤ (c' : Int) := by omega
  have p6 : (c' : Int) < 16 := by omega
  have H0 := Aside0.mk h0
  clear h0
  have H1 := Aside0.mk h1
  clear h1
  have H2 := Aside0.mk h2
  clear h2
  have HL := Aside0.mk hl
  clear hl
  have HN := Aside0.mk hn
  clear hn
  have HQ6 := Lib.hid q6
  clear q6
  have M0 := Aside0.mk (Mem.start [3] w)
  go_enter Try.func11, Try.ntmps11
  go_wp2_with (first
    | (refine eB M0 3 #[.slice A0 l0.length c0, .slice A1 l1.length c1, .slice A2 l2.length c2] 26 ?_; clear M0; intro g3 w3 M1)
    | (refine eB M1 4 (ctx pc r (.slice A l.length c)) 30 ?_; clear M1; intro g4 w4 M2)
    | (refine eB M2 5 #[.int .u64 clk, .int .i64 slot, .int .i64 gen] 35 ?_; clear M2; intro g5 w5 M3)
    | (refine eB M3 6 (ctx 0 zeroR (.slice none 0 0)) 30 ?_; clear M3; intro g6 w6 M4)
    | (refine eB M4 7 want0 40 ?_; clear M4; intro g7 w7 M5)
    | (refine eL M5 18 0 hu26 ?_)
    | (refine eL M5 19 1 hu30 ?_))
  refine (step_next.calls A0 c0 l0 _ c1 l1 A2 c2 l2 pc r.r0 r.r1 r.r2 r.r3 r.r4 r.r5 r.r6 r.r7 r.r8 r.r9 r.r10 r.r11 r.r12 r.r13 r.r14 r.r15 A c l _ _ _ _ _ _ _ (Kd.C_below H0.out M5.out.below) k0 (Kd.C_below H1.out M5.out.below) k1 (Kd.C_below H2.out M5.out.below) k2 (Kd.C_below HL.out M5.out.below) kl HN.out).mono ?_
  rintro e W20 ⟨rfl, hb⟩
  have M6 := Aside0.mk (Mem.call M5.out hb)
  clear M5 hb
  go_wp2_with (first
    | (refine eB M6 8 (instC 0 0 0 0 0) 37 ?_; clear M6; intro g8 w8 M7)
    | (refine eR M7 37 8 5 (instC op (a : Int) (b : Int) (c' : Int) m) ?_; clear M7; intro w_ M8)
    | (refine eL M8 29 1 hu30 ?_)
    | (refine eB M8 10 (ctx 0 zeroR (.slice none 0 0)) 30 ?_; clear M8; intro g10 w10 M9)
    | (refine eR M9 30 10 6 (ctx pc r (.slice A l.length c)) ?_; clear M9; intro w_ M10))
  have y1 := (M10.out.cell 5 rfl 1).trans (show _ = some (Value.int .i64 (a : Int)) from rfl)
  have z1 := (M10.out.cell 1 rfl (1 + a)).trans (ctx_reg pc r (.slice A l.length c) a ha)
  have y2 := (M10.out.cell 5 rfl 2).trans (show _ = some (Value.int .i64 (b : Int)) from rfl)
  have z2 := (M10.out.cell 1 rfl (1 + b)).trans (ctx_reg pc r (.slice A l.length c) b hb)
  have y3 := (M10.out.cell 5 rfl 3).trans (show _ = some (Value.int .i64 (c' : Int)) from rfl)
  have z3 := (M10.out.cell 1 rfl (1 + c')).trans (ctx_reg pc r (.slice A l.length c) c' hc)
  go_quiet (fail)
  clear y1 y2 y3 z1 z2 z3
  have M11 := Aside0.mk (Mem.drewN M10.out nq)
  clear M10
  go_wp2_with (first
    | (refine eC M11 46 5 1 (.int .i64 (a : Int)) ?_)
    | (refine eC M11 50 1 17 (.slice A l.length c) ?_))
  refine (Hclone.clone_calls A c l _ (Kd.C_below HL.out M11.out.below) kl hlim).mono ?_
  rintro e W51 ⟨v51, rfl, hR, hb⟩
  obtain ⟨A51, c51, rfl⟩ := Kd.R_slice hR
  have M12 := Aside0.mk (Mem.row M11.out hb hR)
  clear M11 hR hb
  have q6 := HQ6.out
  clear HQ6
  rcases hop with rfl | rfl | rfl | rfl
  · clear q6
    by_cases z : r.get c' = 0
    · have hz : (r.get c' == 0) = true := beq_iff_eq.2 z
      have Z := Lib.hid z
      clear z
      go_wp2_with (first
        | (refine eS M12 28 52 1 17 (.slice A51 l.length c51) (ctx pc r (.slice A51 l.length c51)) ?_; clear M12; intro w_ M13)
        | (refine eC M13 54 1 0 (.int .i64 pc) ?_)
        | (refine eS M13 3 56 1 0 (.int .i64 (pc + 1)) (ctx (pc + 1) r (.slice A51 l.length c51)) ?_; clear M13; intro w_ M14)
        | (refine eC M14 58 5 0 (.int .i64 8) ?_)
        | (refine eL M14 221 6 hu30 ?_))
      refine (step_trapped pc r A c l 2 _ (Kd.C_below HL.out M14.out.below) kl hlim).mono ?_
      rintro e W222 ⟨v222, rfl, hR, hb⟩
      obtain ⟨A222, c222, rfl⟩ := Kd.R_slice hR
      have M15 := Aside0.mk (Mem.row M14.out hb hR)
      clear M14 hR hb
      go_wp2_with (first
        | (refine eR M15 30 6 3 (ctx pc r (.slice A222 l.length c222)) ?_; clear M15; intro w_ M16)
        | (refine eR M16 40 7 4 (wantC 58 0 0 0 0 0 0 0 0 2 0) ?_; clear M16; intro w_ M17))
      rw [show stepO l1 pc r l clk slot gen true 8 a b c' m = ⟨pc, r, l, wantC 58 0 0 0 0 0 0 0 0 2 0⟩ from by simp [stepO, Z.out]]
      refine bodyPost_ret (results_cc rfl _ _ g6 g7 30 40 (ctx pc r (.slice A222 l.length c222)) (wantC 58 0 0 0 0 0 0 0 0 2 0) (0, 0) (0, 0) _ _ rfl (M17.out.at 3 rfl) hu30 rfl (by kernel_rfl) rfl (M17.out.at 4 rfl) hu40 rfl (by kernel_rfl)) rfl ⟨_, rfl, M17.out.own, M17.out.below⟩
    · have hz : (r.get c' == 0) = false := beq_eq_false_iff_ne.2 z
      obtain ⟨kd, hq⟩ := div_p 8 (r.get b) (r.get c') (by simp) z
      obtain ⟨v, hv⟩ : ∃ v, v = divV 8 (r.get b) (r.get c') := ⟨_, rfl⟩
      rw [← hv] at hq
      have HQ := Lib.hid hq
      clear hq
      have HV := Lib.hid hv
      clear hv
      have Z := Lib.hid z
      clear z
      go_wp2_with (first
        | (refine eS M12 28 52 1 17 (.slice A51 l.length c51) (ctx pc r (.slice A51 l.length c51)) ?_; clear M12; intro w_ M13)
        | (refine eC M13 54 1 0 (.int .i64 pc) ?_)
        | (refine eS M13 3 56 1 0 (.int .i64 (pc + 1)) (ctx (pc + 1) r (.slice A51 l.length c51)) ?_; clear M13; intro w_ M14)
        | (refine eC M14 58 5 0 (.int .i64 8) ?_)
        | (refine eC M14 227 5 0 (.int .i64 8) ?_))
      refine (step_divided.calls kd 8 (r.get b) (r.get c') _ _ HQ.out).mono ?_
      rintro e W230 ⟨rfl, hb⟩
      have M15 := Aside0.mk (Mem.drawn M14.out hb)
      clear M14 hb
      go_wp2_with (first
        | (refine eS M15 2 231 1 (1 + a) (.int .i64 v) (ctx (pc + 1) (r.set a v) (.slice A51 l.length c51)) (hj := ctx_some _ _ _ _ ha) (hnew := ctx_setreg _ _ _ _ ha _) ?_; clear M15; intro w_ M16)
        | (refine eL M16 232 1 hu30 ?_)
        | (refine eR M16 30 6 3 (ctx (pc + 1) (r.set a v) (.slice A51 l.length c51)) ?_; clear M16; intro w_ M17)
        | (refine eR M17 40 7 4 want0 ?_; clear M17; intro w_ M18))
      rw [show stepO l1 pc r l clk slot gen true 8 a b c' m = ⟨pc + 1, r.set a v, l, want0⟩ from by rw [HV.out]; simp [stepO, Z.out]]
      refine bodyPost_ret (results_cc rfl _ _ g6 g7 30 40 (ctx (pc + 1) (r.set a v) (.slice A51 l.length c51)) want0 (0, 0) (0, 0) _ _ rfl (M18.out.at 3 rfl) hu30 rfl (by kernel_rfl) rfl (M18.out.at 4 rfl) hu40 rfl (by kernel_rfl)) rfl ⟨_, rfl, M18.out.own, M18.out.below⟩
  · clear q6
    by_cases z : r.get c' = 0
    · have hz : (r.get c' == 0) = true := beq_iff_eq.2 z
      have Z := Lib.hid z
      clear z
      go_wp2_with (first
        | (refine eS M12 28 52 1 17 (.slice A51 l.length c51) (ctx pc r (.slice A51 l.length c51)) ?_; clear M12; intro w_ M13)
        | (refine eC M13 54 1 0 (.int .i64 pc) ?_)
        | (refine eS M13 3 56 1 0 (.int .i64 (pc + 1)) (ctx (pc + 1) r (.slice A51 l.length c51)) ?_; clear M13; intro w_ M14)
        | (refine eC M14 58 5 0 (.int .i64 9) ?_)
        | (refine eL M14 221 6 hu30 ?_))
      refine (step_trapped pc r A c l 2 _ (Kd.C_below HL.out M14.out.below) kl hlim).mono ?_
      rintro e W222 ⟨v222, rfl, hR, hb⟩
      obtain ⟨A222, c222, rfl⟩ := Kd.R_slice hR
      have M15 := Aside0.mk (Mem.row M14.out hb hR)
      clear M14 hR hb
      go_wp2_with (first
        | (refine eR M15 30 6 3 (ctx pc r (.slice A222 l.length c222)) ?_; clear M15; intro w_ M16)
        | (refine eR M16 40 7 4 (wantC 58 0 0 0 0 0 0 0 0 2 0) ?_; clear M16; intro w_ M17))
      rw [show stepO l1 pc r l clk slot gen true 9 a b c' m = ⟨pc, r, l, wantC 58 0 0 0 0 0 0 0 0 2 0⟩ from by simp [stepO, Z.out]]
      refine bodyPost_ret (results_cc rfl _ _ g6 g7 30 40 (ctx pc r (.slice A222 l.length c222)) (wantC 58 0 0 0 0 0 0 0 0 2 0) (0, 0) (0, 0) _ _ rfl (M17.out.at 3 rfl) hu30 rfl (by kernel_rfl) rfl (M17.out.at 4 rfl) hu40 rfl (by kernel_rfl)) rfl ⟨_, rfl, M17.out.own, M17.out.below⟩
    · have hz : (r.get c' == 0) = false := beq_eq_false_iff_ne.2 z
      obtain ⟨kd, hq⟩ := div_p 9 (r.get b) (r.get c') (by simp) z
      obtain ⟨v, hv⟩ : ∃ v, v = divV 9 (r.get b) (r.get c') := ⟨_, rfl⟩
      rw [← hv] at hq
      have HQ := Lib.hid hq
      clear hq
      have HV := Lib.hid hv
      clear hv
      have Z := Lib.hid z
      clear z
      go_wp2_with (first
        | (refine eS M12 28 52 1 17 (.slice A51 l.length c51) (ctx pc r (.slice A51 l.length c51)) ?_; clear M12; intro w_ M13)
        | (refine eC M13 54 1 0 (.int .i64 pc) ?_)
        | (refine eS M13 3 56 1 0 (.int .i64 (pc + 1)) (ctx (pc + 1) r (.slice A51 l.length c51)) ?_; clear M13; intro w_ M14)
        | (refine eC M14 58 5 0 (.int .i64 9) ?_)
        | (refine eC M14 227 5 0 (.int .i64 9) ?_))
      refine (step_divided.calls kd 9 (r.get b) (r.get c') _ _ HQ.out).mono ?_
      rintro e W230 ⟨rfl, hb⟩
      have M15 := Aside0.mk (Mem.drawn M14.out hb)
      clear M14 hb
      go_wp2_with (first
        | (refine eS M15 2 231 1 (1 + a) (.int .i64 v) (ctx (pc + 1) (r.set a v) (.slice A51 l.length c51)) (hj := ctx_some _ _ _ _ ha) (hnew := ctx_setreg _ _ _ _ ha _) ?_; clear M15; intro w_ M16)
        | (refine eL M16 232 1 hu30 ?_)
        | (refine eR M16 30 6 3 (ctx (pc + 1) (r.set a v) (.slice A51 l.length c51)) ?_; clear M16; intro w_ M17)
        | (refine eR M17 40 7 4 want0 ?_; clear M17; intro w_ M18))
      rw [show stepO l1 pc r l clk slot gen true 9 a b c' m = ⟨pc + 1, r.set a v, l, want0⟩ from by rw [HV.out]; simp [stepO, Z.out]]
      refine bodyPost_ret (results_cc rfl _ _ g6 g7 30 40 (ctx (pc + 1) (r.set a v) (.slice A51 l.length c51)) want0 (0, 0) (0, 0) _ _ rfl (M18.out.at 3 rfl) hu30 rfl (by kernel_rfl) rfl (M18.out.at 4 rfl) hu40 rfl (by kernel_rfl)) rfl ⟨_, rfl, M18.out.own, M18.out.below⟩
  · by_cases z : 64 ≤ l.length
    · have hd : 64 ≤ l.length := z
      have hd' : (64 : Int) ≤ l.length := by omega
      have Z := Lib.hid z
      clear z
      go_wp2_with (first
        | (refine eS M12 28 52 1 17 (.slice A51 l.length c51) (ctx pc r (.slice A51 l.length c51)) ?_; clear M12; intro w_ M13)
        | (refine eC M13 54 1 0 (.int .i64 pc) ?_)
        | (refine eS M13 3 56 1 0 (.int .i64 (pc + 1)) (ctx (pc + 1) r (.slice A51 l.length c51)) ?_; clear M13; intro w_ M14)
        | (refine eC M14 58 5 0 (.int .i64 20) ?_)
        | (refine eC M14 123 1 17 (.slice A51 l.length c51) ?_)
        | (refine eL M14 126 6 hu30 ?_))
      refine (step_trapped pc r A c l 3 _ (Kd.C_below HL.out M14.out.below) kl hlim).mono ?_
      rintro e W127 ⟨v127, rfl, hR, hb⟩
      obtain ⟨A127, c127, rfl⟩ := Kd.R_slice hR
      have M15 := Aside0.mk (Mem.row M14.out hb hR)
      clear M14 hR hb
      go_wp2_with (first
        | (refine eR M15 30 6 3 (ctx pc r (.slice A127 l.length c127)) ?_; clear M15; intro w_ M16)
        | (refine eR M16 40 7 4 (wantC 58 0 0 0 0 0 0 0 0 3 0) ?_; clear M16; intro w_ M17))
      rw [show stepO l1 pc r l clk slot gen true 20 a b c' m = ⟨pc, r, l, wantC 58 0 0 0 0 0 0 0 0 3 0⟩ from by simp [stepO, Z.out]]
      refine bodyPost_ret (results_cc rfl _ _ g6 g7 30 40 (ctx pc r (.slice A127 l.length c127)) (wantC 58 0 0 0 0 0 0 0 0 3 0) (0, 0) (0, 0) _ _ rfl (M17.out.at 3 rfl) hu30 rfl (by kernel_rfl) rfl (M17.out.at 4 rfl) hu40 rfl (by kernel_rfl)) rfl ⟨_, rfl, M17.out.own, M17.out.below⟩
    · by_cases z2 : (l1.length : Int) ≤ m
      · have hd : l.length < 64 := by omega
        have hd' : (l.length : Int) < 64 := by omega
        have hm := z2
        have Z := Lib.hid z
        clear z
        have Z2 := Lib.hid z2
        clear z2
        go_wp2_with (first
        | (refine eS M12 28 52 1 17 (.slice A51 l.length c51) (ctx pc r (.slice A51 l.length c51)) ?_; clear M12; intro w_ M13)
        | (refine eC M13 54 1 0 (.int .i64 pc) ?_)
        | (refine eS M13 3 56 1 0 (.int .i64 (pc + 1)) (ctx (pc + 1) r (.slice A51 l.length c51)) ?_; clear M13; intro w_ M14)
        | (refine eC M14 58 5 0 (.int .i64 20) ?_)
        | (refine eC M14 123 1 17 (.slice A51 l.length c51) ?_)
        | (refine eC M14 132 5 4 (.int .i64 m) ?_)
        | (refine eC M14 134 0 1 (.slice A1 l1.length c1) ?_)
        | (refine eL M14 137 6 hu30 ?_))
        refine (step_trapped pc r A c l 1 _ (Kd.C_below HL.out M14.out.below) kl hlim).mono ?_
        rintro e W138 ⟨v138, rfl, hR, hb⟩
        obtain ⟨A138, c138, rfl⟩ := Kd.R_slice hR
        have M15 := Aside0.mk (Mem.row M14.out hb hR)
        clear M14 hR hb
        go_wp2_with (first
        | (refine eR M15 30 6 3 (ctx pc r (.slice A138 l.length c138)) ?_; clear M15; intro w_ M16)
        | (refine eR M16 40 7 4 (wantC 58 0 0 0 0 0 0 0 0 1 0) ?_; clear M16; intro w_ M17))
        rw [show stepO l1 pc r l clk slot gen true 20 a b c' m = ⟨pc, r, l, wantC 58 0 0 0 0 0 0 0 0 1 0⟩ from by simp [stepO, Z.out, Z2.out]]
        refine bodyPost_ret (results_cc rfl _ _ g6 g7 30 40 (ctx pc r (.slice A138 l.length c138)) (wantC 58 0 0 0 0 0 0 0 0 1 0) (0, 0) (0, 0) _ _ rfl (M17.out.at 3 rfl) hu30 rfl (by kernel_rfl) rfl (M17.out.at 4 rfl) hu40 rfl (by kernel_rfl)) rfl ⟨_, rfl, M17.out.own, M17.out.below⟩
      · have hd : l.length < 64 := by omega
        have hd' : (l.length : Int) < 64 := by omega
        have hm0 := q6 (by omega)
        have hm1 : m < (l1.length : Int) := by omega
        obtain ⟨ad, rfl, _, _⟩ := at_T75 (Kd.C_below H1.out M12.out.below) m hm0 hm1
        have Z := Lib.hid z
        clear z
        have Z2 := Lib.hid z2
        clear z2
        go_wp2_with (first
        | (refine eS M12 28 52 1 17 (.slice A51 l.length c51) (ctx pc r (.slice A51 l.length c51)) ?_; clear M12; intro w_ M13)
        | (refine eC M13 54 1 0 (.int .i64 pc) ?_)
        | (refine eS M13 3 56 1 0 (.int .i64 (pc + 1)) (ctx (pc + 1) r (.slice A51 l.length c51)) ?_; clear M13; intro w_ M14)
        | (refine eC M14 58 5 0 (.int .i64 20) ?_)
        | (refine eC M14 123 1 17 (.slice A51 l.length c51) ?_)
        | (refine eC M14 132 5 4 (.int .i64 m) ?_)
        | (refine eC M14 134 0 1 (.slice (some ad) l1.length c1) ?_)
        | (refine eC M14 142 1 17 (.slice A51 l.length c51) ?_)
        | (refine eC M14 144 1 0 (.int .i64 (pc + 1)) ?_)
        | ((with_reducible refine gate_builtin (b := .append) (xs := #[.tmp 142, .tmp 145]) rfl ?_); at_builtin; refine Kd.R_append (Kd.int .i64) (w0 := w) w.heap.size rfl (.tmp 142) (.tmp 145) 28 3 (.int .i64 0) 8 rfl Try.underlying28 Hclone.info3 rfl (by decide) (by decide) (.slice A51 l.length c51) l (pc + 1) [.int .i64 (pc + 1)] (fun _ => True) (fun _ => False) rfl rfl ?aP146 (fun _ hk => hk.elim) (fun _ _ => trivial) M14.out.own M14.out.below M14.out.below.size (by omega) ?_; (case aP146 => rfl); intro v146 W146 hR hB hg hat; obtain ⟨A146, c146, hv_⟩ := Kd.R_slice hR; simp only [List.length_append, List.length_cons, List.length_nil, Nat.zero_add] at hv_; subst hv_; have M15 := Aside0.mk (Mem.append M14.out hB hg hR hat); clear M14 hR hB hg hat)
        | (refine eS M15 28 147 1 17 (.slice A146 (l.length + 1) c146) (ctx (pc + 1) r (.slice A146 (l.length + 1) c146)) ?_; clear M15; intro w_ M16)
        | (refine eC M16 149 0 1 (.slice (some ad) l1.length c1) ?_)
        | (refine eC M16 151 5 4 (.int .i64 m) ?_)
        | ((with_reducible refine gate_dst (N := 154) rfl ?_); refine load_event rfl (N := 154) rfl (t := 3) (p := 153) rfl (ad.add (m.toNat * 2)) (.int .i64 (rd_T75 l1 m).f0) ?hp (fun _ => by kernel_rfl) (by obtain ⟨ad_, e_, hx_, _⟩ := at_T75 (Kd.C_below H1.out M16.out.below) m hm0 hm1; cases e_; exact hx_) ?_; (case hp => first | rfl | (go_simp; done) | (go_simp; rfl)))
        | (refine eS M16 3 155 1 0 (.int .i64 (rd_T75 l1 m).f0) (ctx (rd_T75 l1 m).f0 r (.slice A146 (l.length + 1) c146)) ?_; clear M16; intro w_ M17)
        | (refine eL M17 232 1 hu30 ?_)
        | (refine eR M17 30 6 3 (ctx (rd_T75 l1 m).f0 r (.slice A146 (l.length + 1) c146)) ?_; clear M17; intro w_ M18)
        | (refine eR M18 40 7 4 want0 ?_; clear M18; intro w_ M19))
        rw [show stepO l1 pc r l clk slot gen true 20 a b c' m = ⟨(rd_T75 l1 m).f0, r, l ++ [pc + 1], want0⟩ from by simp [stepO, Z.out, Z2.out]]
        refine bodyPost_ret (results_cc rfl _ _ g6 g7 30 40 (ctx (rd_T75 l1 m).f0 r (.slice A146 (l.length + 1) c146)) want0 (0, 0) (0, 0) _ _ rfl (M19.out.at 3 rfl) hu30 rfl (by kernel_rfl) rfl (M19.out.at 4 rfl) hu40 rfl (by kernel_rfl)) rfl ⟨_, rfl, M19.out.own, M19.out.below⟩
  · clear q6
    by_cases z : l.length = 0
    · have he : ((l.length : Int) == 0) = true := beq_iff_eq.2 (by omega)
      have Z := Lib.hid (List.length_eq_zero_iff.1 z)
      clear z
      go_wp2_with (first
        | (refine eS M12 28 52 1 17 (.slice A51 l.length c51) (ctx pc r (.slice A51 l.length c51)) ?_; clear M12; intro w_ M13)
        | (refine eC M13 54 1 0 (.int .i64 pc) ?_)
        | (refine eS M13 3 56 1 0 (.int .i64 (pc + 1)) (ctx (pc + 1) r (.slice A51 l.length c51)) ?_; clear M13; intro w_ M14)
        | (refine eC M14 58 5 0 (.int .i64 21) ?_)
        | (refine eC M14 159 1 17 (.slice A51 l.length c51) ?_)
        | (refine eL M14 162 1 hu30 ?_)
        | (refine eR M14 30 6 3 (ctx (pc + 1) r (.slice A51 l.length c51)) ?_; clear M14; intro w_ M15)
        | (refine eR M15 40 7 4 #[.int .i64 24, .int .i64 0, .int .i64 0, .int .i64 0, .int .i64 0, .int .i64 0, .int .i64 0, .int .i64 0, .int .i64 0, .int .i64 0, .int .i64 0] ?_; clear M15; intro w_ M16))
      rw [show stepO l1 pc r l clk slot gen true 21 a b c' m = ⟨pc + 1, r, l, wantC 24 0 0 0 0 0 0 0 0 0 0⟩ from by simp [stepO, Z.out]]
      refine bodyPost_ret (results_cc rfl _ _ g6 g7 30 40 (ctx (pc + 1) r (.slice A51 l.length c51)) #[.int .i64 24, .int .i64 0, .int .i64 0, .int .i64 0, .int .i64 0, .int .i64 0, .int .i64 0, .int .i64 0, .int .i64 0, .int .i64 0, .int .i64 0] (0, 0) (0, 0) _ _ rfl (M16.out.at 3 rfl) hu30 rfl (by kernel_rfl) rfl (M16.out.at 4 rfl) hu40 rfl (by kernel_rfl)) rfl ⟨_, rfl, M16.out.own, M16.out.below⟩
    · have he : ((l.length : Int) == 0) = false := beq_eq_false_iff_ne.2 (by omega)
      have hl1 : 0 < l.length := by omega
      have hl2 : (1 : Int) ≤ l.length := by omega
      have hl3 : (0 : Int) ≤ (l.length : Int) - 1 := by omega
      have hl4 : (l.length : Int) - 1 < l.length := by omega
      have kc := (Kd.R_reads' M12.out.own).2.1
      obtain ⟨ad, rfl, _⟩ := Kd.at_int (Kd.R_reads' M12.out.own).2.2 ((l.length : Int) - 1) hl3 hl4
      have Z : Hid (l ≠ []) := Lib.hid (fun h => z (by rw [h]; rfl))
      clear z
      go_wp2_with (first
        | (refine eS M12 28 52 1 17 (.slice (some ad) l.length c51) (ctx pc r (.slice (some ad) l.length c51)) ?_; clear M12; intro w_ M13)
        | (refine eC M13 54 1 0 (.int .i64 pc) ?_)
        | (refine eS M13 3 56 1 0 (.int .i64 (pc + 1)) (ctx (pc + 1) r (.slice (some ad) l.length c51)) ?_; clear M13; intro w_ M14)
        | (refine eC M14 58 5 0 (.int .i64 21) ?_)
        | (refine eC M14 159 1 17 (.slice (some ad) l.length c51) ?_)
        | (refine eC M14 165 1 17 (.slice (some ad) l.length c51) ?_)
        | (refine eC M14 167 1 17 (.slice (some ad) l.length c51) ?_)
        | ((with_reducible refine gate_dst (N := 171) rfl ?_); refine load_event rfl (N := 171) rfl (t := 3) (p := 170) rfl (ad.add (l.length - 1)) (.int .i64 (rd l ((l.length : Int) - 1))) ?hp171 (fun _ => by kernel_rfl) ?hc171 ?_; (case hp171 => first | rfl | (go_simp; done) | (go_simp; rfl)); (case hc171 => obtain ⟨ad_, e_, hx_⟩ := Kd.at_int (Kd.R_reads' M14.out.own).2.2 ((l.length : Int) - 1) hl3 hl4; cases e_; rw [show ((l.length : Int) - 1).toNat = l.length - 1 from by omega] at hx_; exact hx_))
        | (refine eS M14 3 172 1 0 (.int .i64 (rd l ((l.length : Int) - 1))) (ctx (rd l ((l.length : Int) - 1)) r (.slice (some ad) l.length c51)) ?_; clear M14; intro w_ M15)
        | (refine eC M15 174 1 17 (.slice (some ad) l.length c51) ?_)
        | (refine eC M15 176 1 17 (.slice (some ad) l.length c51) ?_)
        | (refine eS M15 28 180 1 17 (.slice (some ad) (l.length - 1) c51) (ctx (rd l ((l.length : Int) - 1)) r (.slice (some ad) (l.length - 1) c51)) ?_; clear M15; intro w_ M16)
        | (refine eL M16 232 1 hu30 ?_)
        | (refine eR M16 30 6 3 (ctx (rd l ((l.length : Int) - 1)) r (.slice (some ad) (l.length - 1) c51)) ?_; clear M16; intro w_ M17)
        | (refine eR M17 40 7 4 want0 ?_; clear M17; intro w_ M18))
      have M19 := Aside0.mk (Mem.own_to M18.out (Kd.R_take M18.out.own (m := l.length - 1) (by omega)))
      rw [show stepO l1 pc r l clk slot gen true 21 a b c' m = ⟨rd l ((l.length : Int) - 1), r, l.take (l.length - 1), want0⟩ from by simp [stepO, Z.out]]
      refine bodyPost_ret (results_cc rfl _ _ g6 g7 30 40 (ctx (rd l ((l.length : Int) - 1)) r (.slice (some ad) (l.length - 1) c51)) want0 (0, 0) (0, 0) _ _ rfl (M19.out.at 3 rfl) hu30 rfl (by kernel_rfl) rfl (M19.out.at 4 rfl) hu40 rfl (by kernel_rfl)) rfl ⟨_, rfl, M19.out.own, M19.out.below⟩
set_option maxHeartbeats 2000000 in
set_option maxRecDepth 100000 in
theorem p_plain (l0 : List Int) (l1 : List S75) (l2 : List S98) (A0 A1 A2 : Option Addr) (c0 c1 c2 : Nat) (pc : Int) (r : Regs) (A : Option Addr) (c : Nat) (l : List Int) (clk slot gen : Int) (w : World)
    (h0 : Kd.C (Kd.int .u32) w A0 l0.length l0) (k0 : l0.length ≤ c0) (h1 : Kd.C k75 w A1 l1.length l1) (k1 : l1.length ≤ c1) (h2 : Kd.C k98 w A2 l2.length l2) (k2 : l2.length ≤ c2) (hl : Kd.C (Kd.int .i64) w A l.length l) (kl : l.length ≤ c) (hlim : l.length < 17592186044416)
    (a b c' : Nat) (m : Int) (ha : a < 16) (hb : b < 16) (hc : c' < 16) (q1 : 0 ≤ pc) (q2 : pc < 9223372036854775807) (op v : Int) (o1 : (op == 1) = false) (o2 : (op == 2) = false) (o3 : (op == 3) = false) (o4 : (op == 4) = false) (o8 : (op == 8) = false) (o9 : (op == 9) = false) (o17 : (op == 17) = false) (o18 : (op == 18) = false) (o19 : (op == 19) = false) (o20 : (op == 20) = false) (o21 : (op == 21) = false) (o23 : (op == 23) = false) (o24 : (op == 24) = false) (o25 : (op == 25) = false) (o26 : (op == 26) = false) (o58 : (op == 58) = false) (hk : step_reckoned.f op (r.get b) (r.get c') = some (v, true)) (hn : step_next.f l0 l1 l2 pc r.r0 r.r1 r.r2 r.r3 r.r4 r.r5 r.r6 r.r7 r.r8 r.r9 r.r10 r.r11 r.r12 r.r13 r.r14 r.r15 l = some (op, (a : Int), (b : Int), (c' : Int), m, true)) :
    Calls Try.prog 11 #[.agg #[.slice A0 l0.length c0, .slice A1 l1.length c1, .slice A2 l2.length c2], .agg (ctx pc r (.slice A l.length c)), .agg #[.int .u64 clk, .int .i64 slot, .int .i64 gen]] w (Post w (pc + 1) (r.set a v) l want0) := by
  have hu26 := Try.underlying26
  have hu30 := Try.underlying30
  have hu40 := Try.underlying40
  have p1 : (0 : Int) ≤ (a : Int) := by omega
  have p2 : (a : Int) < 16 := by omega
  have p3 : (0 : Int) ≤ (b : Int) := by omega
  have p4 : (b : Int) < 16 := by omega
  have p5 : (0 : Int) ≤ (c' : Int) := by omega
  have p6 : (c' : Int) < 16 := by omega
  have HK := Aside0.mk hk
  clear hk
  have H0 := Aside0.mk h0
  clear h0
  have H1 := Aside0.mk h1
  clear h1
  have H2 := Aside0.mk h2
  clear h2
  have HL := Aside0.mk hl
  clear hl
  have HN := Aside0.mk hn
  clear hn
  have M0 := Aside0.mk (Mem.start [3] w)
  go_enter Try.func11, Try.ntmps11
  go_wp2_with (first
    | (refine eB M0 3 #[.slice A0 l0.length c0, .slice A1 l1.length c1, .slice A2 l2.length c2] 26 ?_; clear M0; intro g3 w3 M1)
    | (refine eB M1 4 (ctx pc r (.slice A l.length c)) 30 ?_; clear M1; intro g4 w4 M2)
    | (refine eB M2 5 #[.int .u64 clk, .int .i64 slot, .int .i64 gen] 35 ?_; clear M2; intro g5 w5 M3)
    | (refine eB M3 6 (ctx 0 zeroR (.slice none 0 0)) 30 ?_; clear M3; intro g6 w6 M4)
    | (refine eB M4 7 want0 40 ?_; clear M4; intro g7 w7 M5)
    | (refine eL M5 18 0 hu26 ?_)
    | (refine eL M5 19 1 hu30 ?_))
  refine (step_next.calls A0 c0 l0 _ c1 l1 A2 c2 l2 pc r.r0 r.r1 r.r2 r.r3 r.r4 r.r5 r.r6 r.r7 r.r8 r.r9 r.r10 r.r11 r.r12 r.r13 r.r14 r.r15 A c l _ _ _ _ _ _ _ (Kd.C_below H0.out M5.out.below) k0 (Kd.C_below H1.out M5.out.below) k1 (Kd.C_below H2.out M5.out.below) k2 (Kd.C_below HL.out M5.out.below) kl HN.out).mono ?_
  rintro e W20 ⟨rfl, hb⟩
  have M6 := Aside0.mk (Mem.call M5.out hb)
  clear M5 hb
  go_wp2_with (first
    | (refine eB M6 8 (instC 0 0 0 0 0) 37 ?_; clear M6; intro g8 w8 M7)
    | (refine eR M7 37 8 5 (instC op (a : Int) (b : Int) (c' : Int) m) ?_; clear M7; intro w_ M8)
    | (refine eL M8 29 1 hu30 ?_)
    | (refine eB M8 10 (ctx 0 zeroR (.slice none 0 0)) 30 ?_; clear M8; intro g10 w10 M9)
    | (refine eR M9 30 10 6 (ctx pc r (.slice A l.length c)) ?_; clear M9; intro w_ M10))
  have y1 := (M10.out.cell 5 rfl 1).trans (show _ = some (Value.int .i64 (a : Int)) from rfl)
  have z1 := (M10.out.cell 1 rfl (1 + a)).trans (ctx_reg pc r (.slice A l.length c) a ha)
  have y2 := (M10.out.cell 5 rfl 2).trans (show _ = some (Value.int .i64 (b : Int)) from rfl)
  have z2 := (M10.out.cell 1 rfl (1 + b)).trans (ctx_reg pc r (.slice A l.length c) b hb)
  have y3 := (M10.out.cell 5 rfl 3).trans (show _ = some (Value.int .i64 (c' : Int)) from rfl)
  have z3 := (M10.out.cell 1 rfl (1 + c')).trans (ctx_reg pc r (.slice A l.length c) c' hc)
  go_quiet (fail)
  clear y1 y2 y3 z1 z2 z3
  have M11 := Aside0.mk (Mem.drewN M10.out nq)
  clear M10
  go_wp2_with (first
    | (refine eC M11 46 5 1 (.int .i64 (a : Int)) ?_)
    | (refine eC M11 50 1 17 (.slice A l.length c) ?_))
  refine (Hclone.clone_calls A c l _ (Kd.C_below HL.out M11.out.below) kl hlim).mono ?_
  rintro e W51 ⟨v51, rfl, hR, hb⟩
  obtain ⟨A51, c51, rfl⟩ := Kd.R_slice hR
  have M12 := Aside0.mk (Mem.row M11.out hb hR)
  clear M11 hR hb
  go_wp2_with (first
    | (refine eS M12 28 52 1 17 (.slice A51 l.length c51) (ctx pc r (.slice A51 l.length c51)) ?_; clear M12; intro w_ M13)
    | (refine eC M13 54 1 0 (.int .i64 pc) ?_)
    | (refine eS M13 3 56 1 0 (.int .i64 (pc + 1)) (ctx (pc + 1) r (.slice A51 l.length c51)) ?_; clear M13; intro w_ M14)
    | (refine eC M14 58 5 0 (.int .i64 op) ?_)
    | (refine eC M14 61 5 0 (.int .i64 op) ?_))
  refine (step_reckoned.calls op (r.get b) (r.get c') _ _ _ HK.out).mono ?_
  rintro e W64 ⟨rfl, hb⟩
  have M15 := Aside0.mk (Mem.drawn M14.out hb)
  clear M14 hb
  go_wp2_with (first
    | (refine eS M15 2 79 1 (1 + a) (.int .i64 v) (ctx (pc + 1) (r.set a v) (.slice A51 l.length c51)) (hj := ctx_some _ _ _ _ ha) (hnew := ctx_setreg _ _ _ _ ha _) ?_; clear M15; intro w_ M16)
    | (refine eL M16 232 1 hu30 ?_)
    | (refine eR M16 30 6 3 (ctx (pc + 1) (r.set a v) (.slice A51 l.length c51)) ?_; clear M16; intro w_ M17)
    | (refine eR M17 40 7 4 want0 ?_; clear M17; intro w_ M18))
  refine bodyPost_ret (results_cc rfl _ _ g6 g7 30 40 (ctx (pc + 1) (r.set a v) (.slice A51 l.length c51)) want0 (0, 0) (0, 0) _ _ rfl (M18.out.at 3 rfl) hu30 rfl (by kernel_rfl) rfl (M18.out.at 4 rfl) hu40 rfl (by kernel_rfl)) rfl ⟨_, rfl, M18.out.own, M18.out.below⟩
end Go.Proofs.Ythjfmlehkcccfaa.Hs1
end
