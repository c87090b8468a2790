import Derived.Test.YthjfmlehkcccfaaMSafe2
import Derived.Test.YthjfmlehkcccfaaMSafe5
import Derived.Deep.QuietTactic
import Derived.BigQuiet
import Derived.Deep.MidRow
import Derived.Lib.Hide
import Derived.Outline
import Derived.Test.YthjfmlehkcccfaaWEqStruct
import Derived.Test.YthjfmlehkcccfaaMSafe1
import Derived.Test.YthjfmlehkcccfaaMSafe8
section
/-
  step.Step: the one way that 'lives' takes.
-/
set_option linter.unusedVariables false
set_option linter.unusedSimpArgs false
namespace Go.Proofs.Ythjfmlehkcccfaa.Hone
open Go.RowKit Go.Proofs.YthjfmlehkcccfaaW.PrintWords Go.Proofs.YthjfmlehkcccfaaW.PrintLast Go.Proofs.YthjfmlehkcccfaaW.PrintMore GA Hctx Hsmall
set_option maxHeartbeats 2000000 in
set_option maxRecDepth 100000 in
theorem p_set (l0 : List Int) (l1 : List S75) (l2 : List S98) (A0 A1 A2 : Option Addr) (c0 c1 c2 : Nat) (pc : Int) (r : Regs) (A : Option Addr) (c : Nat) (l : List Int) (clk slot gen : Int) (w : World)
    (h0 : Kd.C (Kd.int .u32) w A0 l0.length l0) (k0 : l0.length ≤ c0) (h1 : Kd.C k75 w A1 l1.length l1) (k1 : l1.length ≤ c1) (h2 : Kd.C k98 w A2 l2.length l2) (k2 : l2.length ≤ c2) (hl : Kd.C (Kd.int .i64) w A l.length l) (kl : l.length ≤ c) (hlim : l.length < 17592186044416)
    (a b c' : Nat) (m : Int) (ha : a < 16) (hb : b < 16) (hc : c' < 16) (q1 : 0 ≤ pc) (q2 : pc < 9223372036854775807)  (hn : step_next.f l0 l1 l2 pc r.r0 r.r1 r.r2 r.r3 r.r4 r.r5 r.r6 r.r7 r.r8 r.r9 r.r10 r.r11 r.r12 r.r13 r.r14 r.r15 l = some (2, (a : Int), (b : Int), (c' : Int), m, true)) :
    Calls Try.prog 11 #[.agg #[.slice A0 l0.length c0, .slice A1 l1.length c1, .slice A2 l2.length c2], .agg (ctx pc r (.slice A l.length c)), .agg #[.int .u64 clk, .int .i64 slot, .int .i64 gen]] w (Post w (pc + 1) (r.set a m) l want0) := by
  have hu26 := Try.underlying26
  have hu30 := Try.underlying30
  have hu40 := Try.underlying40
  have p1 : (0 : Int) ≤ (a : Int) := by omega
  have p2 : (a : Int) < 16 := by omega
  have p3 : (0 : Int) ≤ (b : Int) := by omega
  have p4 : (b : Int) < 16 := by omega
  have p5 : (0 : Int) ≤ (c' : Int) := by omega
  have p6 : (c' : Int) < 16 := by omega
  have H0 := Aside0.mk h0
  clear h0
  have H1 := Aside0.mk h1
  clear h1
  have H2 := Aside0.mk h2
  clear h2
  have HL := Aside0.mk hl
  clear hl
  have HN := Aside0.mk hn
  clear hn
  have M0 := Aside0.mk (Mem.start [3] w)
  go_enter Try.func11, Try.ntmps11
  go_wp2_with (first
    | (refine eB M0 3 #[.slice A0 l0.length c0, .slice A1 l1.length c1, .slice A2 l2.length c2] 26 ?_; clear M0; intro g3 w3 M1)
    | (refine eB M1 4 (ctx pc r (.slice A l.length c)) 30 ?_; clear M1; intro g4 w4 M2)
    | (refine eB M2 5 #[.int .u64 clk, .int .i64 slot, .int .i64 gen] 35 ?_; clear M2; intro g5 w5 M3)
    | (refine eB M3 6 (ctx 0 zeroR (.slice none 0 0)) 30 ?_; clear M3; intro g6 w6 M4)
    | (refine eB M4 7 want0 40 ?_; clear M4; intro g7 w7 M5)
    | (refine eL M5 18 0 hu26 ?_)
    | (refine eL M5 19 1 hu30 ?_))
  refine (step_next.calls A0 c0 l0 _ c1 l1 A2 c2 l2 pc r.r0 r.r1 r.r2 r.r3 r.r4 r.r5 r.r6 r.r7 r.r8 r.r9 r.r10 r.r11 r.r12 r.r13 r.r14 r.r15 A c l _ _ _ _ _ _ _ (Kd.C_below H0.out M5.out.below) k0 (Kd.C_below H1.out M5.out.below) k1 (Kd.C_below H2.out M5.out.below) k2 (Kd.C_below HL.out M5.out.below) kl HN.out).mono ?_
  rintro e W20 ⟨rfl, hb⟩
  have M6 := Aside0.mk (Mem.call M5.out hb)
  clear M5 hb
  go_wp2_with (first
    | (refine eB M6 8 (instC 0 0 0 0 0) 37 ?_; clear M6; intro g8 w8 M7)
    | (refine eR M7 37 8 5 (instC 2 (a : Int) (b : Int) (c' : Int) m) ?_; clear M7; intro w_ M8)
    | (refine eL M8 29 1 hu30 ?_)
    | (refine eB M8 10 (ctx 0 zeroR (.slice none 0 0)) 30 ?_; clear M8; intro g10 w10 M9)
    | (refine eR M9 30 10 6 (ctx pc r (.slice A l.length c)) ?_; clear M9; intro w_ M10))
  have y1 := (M10.out.cell 5 rfl 1).trans (show _ = some (Value.int .i64 (a : Int)) from rfl)
  have z1 := (M10.out.cell 1 rfl (1 + a)).trans (ctx_reg pc r (.slice A l.length c) a ha)
  have y2 := (M10.out.cell 5 rfl 2).trans (show _ = some (Value.int .i64 (b : Int)) from rfl)
  have z2 := (M10.out.cell 1 rfl (1 + b)).trans (ctx_reg pc r (.slice A l.length c) b hb)
  have y3 := (M10.out.cell 5 rfl 3).trans (show _ = some (Value.int .i64 (c' : Int)) from rfl)
  have z3 := (M10.out.cell 1 rfl (1 + c')).trans (ctx_reg pc r (.slice A l.length c) c' hc)
  go_quiet (fail)
  clear y1 y2 y3 z1 z2 z3
  have M11 := Aside0.mk (Mem.drewN M10.out nq)
  clear M10
  go_wp2_with (first
    | (refine eC M11 46 5 1 (.int .i64 (a : Int)) ?_)
    | (refine eC M11 50 1 17 (.slice A l.length c) ?_))
  refine (Hclone.clone_calls A c l _ (Kd.C_below HL.out M11.out.below) kl hlim).mono ?_
  rintro e W51 ⟨v51, rfl, hR, hb⟩
  obtain ⟨A51, c51, rfl⟩ := Kd.R_slice hR
  have M12 := Aside0.mk (Mem.row M11.out hb hR)
  clear M11 hR hb
  go_wp2_with (first
    | (refine eS M12 28 52 1 17 (.slice A51 l.length c51) (ctx pc r (.slice A51 l.length c51)) ?_; clear M12; intro w_ M13)
    | (refine eC M13 54 1 0 (.int .i64 pc) ?_)
    | (refine eS M13 3 56 1 0 (.int .i64 (pc + 1)) (ctx (pc + 1) r (.slice A51 l.length c51)) ?_; clear M13; intro w_ M14)
    | (refine eC M14 58 5 0 (.int .i64 2) ?_)
    | (refine eC M14 86 5 4 (.int .i64 m) ?_)
    | (refine eS M14 2 87 1 (1 + a) (.int .i64 m) (ctx (pc + 1) (r.set a m) (.slice A51 l.length c51)) (hj := ctx_some _ _ _ _ ha) (hnew := ctx_setreg _ _ _ _ ha _) ?_; clear M14; intro w_ M15)
    | (refine eL M15 232 1 hu30 ?_)
    | (refine eR M15 30 6 3 (ctx (pc + 1) (r.set a m) (.slice A51 l.length c51)) ?_; clear M15; intro w_ M16)
    | (refine eR M16 40 7 4 want0 ?_; clear M16; intro w_ M17))
  refine bodyPost_ret (results_cc rfl _ _ g6 g7 30 40 (ctx (pc + 1) (r.set a m) (.slice A51 l.length c51)) want0 (0, 0) (0, 0) _ _ rfl (M17.out.at 3 rfl) hu30 rfl (by kernel_rfl) rfl (M17.out.at 4 rfl) hu40 rfl (by kernel_rfl)) rfl ⟨_, rfl, M17.out.own, M17.out.below⟩
end Go.Proofs.Ythjfmlehkcccfaa.Hone
end

section
/-
  Comparisons: of what is wanted, and of registers.
-/
set_option linter.unusedVariables false
set_option linter.unusedSimpArgs false
namespace Go.Proofs.Ythjfmlehkcccfaa.Heq
open Go.RowKit Go.Proofs.YthjfmlehkcccfaaW.PrintWords Go.Proofs.YthjfmlehkcccfaaW.PrintLast Go.Proofs.YthjfmlehkcccfaaW.PrintMore Hctx Hsmall
theorem eqA37 (d : Nat) (w : World) (x0 y0 : Int) (x1 y1 : Int) (x2 y2 : Int) (x3 y3 : Int) (x4 y4 : Int) :
    (Op.equalIn (d + 2) 37 (.agg #[.int .i64 x0, .int .i64 x1, .int .i64 x2, .int .i64 x3, .int .i64 x4]) (.agg #[.int .i64 y0, .int .i64 y1, .int .i64 y2, .int .i64 y3, .int .i64 y4])).run Try.prog w = .ok (x0 == y0 && (x1 == y1 && (x2 == y2 && (x3 == y3 && (x4 == y4))))) w := by
  refine eqA_of Try.underlying37 (by kernel_rfl) ?_
  refine eqf_cons (by rfl) (by go_simp; rfl) (by go_simp; rfl) (by go_simp) ?_
  refine eqf_cons (by rfl) (by go_simp; rfl) (by go_simp; rfl) (by go_simp) ?_
  refine eqf_cons (by rfl) (by go_simp; rfl) (by go_simp; rfl) (by go_simp) ?_
  refine eqf_cons (by rfl) (by go_simp; rfl) (by go_simp; rfl) (by go_simp) ?_
  exact eqf_last (by rfl) (by go_simp; rfl) (by go_simp; rfl) (by go_simp)
theorem eqA40 (d : Nat) (w : World) (x0 y0 : Int) (x1 y1 : Int) (x2 y2 : Int) (x3 y3 : Int) (x4 y4 : Int) (x5 y5 : Int) (x6 y6 : Int) (x7 y7 : Int) (x8 y8 : Int) (x9 y9 : Int) (x10 y10 : Int) :
    (Op.equalIn (d + 3) 40 (.agg #[.int .i64 x0, .int .i64 x1, .int .i64 x2, .int .i64 x3, .int .i64 x4, .int .i64 x5, .int .i64 x6, .int .i64 x7, .int .i64 x8, .int .i64 x9, .int .i64 x10]) (.agg #[.int .i64 y0, .int .i64 y1, .int .i64 y2, .int .i64 y3, .int .i64 y4, .int .i64 y5, .int .i64 y6, .int .i64 y7, .int .i64 y8, .int .i64 y9, .int .i64 y10])).run Try.prog w = .ok (x0 == y0 && ((x1 == y1 && (x2 == y2 && (x3 == y3 && (x4 == y4 && (x5 == y5))))) && (x6 == y6 && (x7 == y7 && (x8 == y8 && (x9 == y9 && (x10 == y10))))))) w := by
  refine eqA_of Try.underlying40 (by kernel_rfl) ?_
  refine eqf_cons (by rfl) (by go_simp; rfl) (by go_simp; rfl) (by go_simp) ?_
  refine eqf_cons (by rfl) (by go_simp) (by go_simp) (eqA37 (d + 0) w _ _ _ _ _ _ _ _ _ _) ?_
  refine eqf_cons (by rfl) (by go_simp; rfl) (by go_simp; rfl) (by go_simp) ?_
  refine eqf_cons (by rfl) (by go_simp; rfl) (by go_simp; rfl) (by go_simp) ?_
  refine eqf_cons (by rfl) (by go_simp; rfl) (by go_simp; rfl) (by go_simp) ?_
  refine eqf_cons (by rfl) (by go_simp; rfl) (by go_simp; rfl) (by go_simp) ?_
  exact eqf_last (by rfl) (by go_simp; rfl) (by go_simp; rfl) (by go_simp)
def Regs.eqb (r s : Regs) : Bool := (List.range 16).all fun i => r.get i == s.get i
def arr (r : Regs) : Array Value := #[.int .i64 r.r0, .int .i64 r.r1, .int .i64 r.r2, .int .i64 r.r3, .int .i64 r.r4, .int .i64 r.r5, .int .i64 r.r6, .int .i64 r.r7,
    .int .i64 r.r8, .int .i64 r.r9, .int .i64 r.r10, .int .i64 r.r11, .int .i64 r.r12, .int .i64 r.r13, .int .i64 r.r14, .int .i64 r.r15]
theorem arr_at (r : Regs) (j : Nat) (h : j < 16) : (arr r)[j]? = some (.int .i64 (r.get j)) := match j, h with
  | 0, _ => rfl | 1, _ => rfl | 2, _ => rfl | 3, _ => rfl | 4, _ => rfl | 5, _ => rfl | 6, _ => rfl | 7, _ => rfl
  | 8, _ => rfl | 9, _ => rfl | 10, _ => rfl | 11, _ => rfl | 12, _ => rfl | 13, _ => rfl | 14, _ => rfl | 15, _ => rfl
  | (n + 16), h => absurd h (by omega)
theorem eqA27 (d : Nat) (w : World) (r s : Regs) : (Op.equalIn (d + 2) 27 (.agg (arr r)) (.agg (arr s))).run Try.prog w = .ok (Regs.eqb r s) w := by
  have hn : ∀ w, (sizeOf 2).run Try.prog w = .ok 1 w := fun w => by kernel_rfl
  have ha : ∀ w, (isAgg 2).run Try.prog w = .ok false w := fun w => by kernel_rfl
  have hp : ∀ (q : Regs) (j : Nat) w, j < 16 → (part 2 (arr q) (j * 1)).run Try.prog w = .ok (.int .i64 (q.get j)) w := fun q j w hj => by
    unfold part
    rw [Sem.run_bind, ha w, Nat.mul_one]
    simp [arr_at q j hj]
  have he : ∀ (x y : Int) w, (Op.equalIn (d + 1) 2 (.int .i64 x) (.int .i64 y)).run Try.prog w = .ok (x == y) w := fun x y w => by go_simp
  unfold Regs.eqb
  rw [List.range_eq_range', Op.equalIn]
  simp only [Sem.run_bind, run_underlying Try.underlying27, Result.andThen_ok, hn, Std.Legacy.Range.forIn_eq_forIn_range', Std.Legacy.Range.size, Nat.sub_zero, Nat.add_sub_cancel, Nat.div_one]
  have hl : ∀ i ∈ List.range' 0 16 1, i < 16 := fun i hi => by simpa using (List.mem_range'_1.1 hi).2
  generalize List.range' 0 16 1 = l at hl ⊢
  induction l with
  | nil => simp
  | cons i l ih =>
    have hi : i < 16 := hl i (by simp)
    simp only [List.forIn_cons, Sem.run_bind, hp r i w hi, hp s i w hi, he, Result.andThen_ok, List.all_cons]
    cases hb : (r.get i == s.get i)
    · simp
    · simp only [Bool.not_true, Bool.false_eq_true, if_false, Sem.run_pure, Result.andThen_ok, Bool.true_and]
      exact ih fun j hj => hl j (by simp [hj])
theorem Regs.ext_get {r s : Regs} (h : Regs.eqb r s = true) : r = s := by
  have hg : ∀ i, i < 16 → r.get i = s.get i := fun i hi => by simpa using List.all_eq_true.1 h i (List.mem_range.2 hi)
  cases r; cases s
  simp only [Regs.mk.injEq]
  exact ⟨hg 0 (by omega), hg 1 (by omega), hg 2 (by omega), hg 3 (by omega), hg 4 (by omega), hg 5 (by omega), hg 6 (by omega), hg 7 (by omega), hg 8 (by omega), hg 9 (by omega), hg 10 (by omega), hg 11 (by omega), hg 12 (by omega), hg 13 (by omega), hg 14 (by omega), hg 15 (by omega)⟩
theorem Regs.eqb_self (r : Regs) : Regs.eqb r r = true := List.all_eq_true.2 fun i _ => by simp
theorem eq_want (w : World) (op o a b c m x y z t k : Int) : (binOp .eql 40 (.agg (wantC op o a b c m x y z t k)) (.agg (wantC op o a b c m x y z t k))).run Try.prog w = .ok (.bool true) w := by
  rw [run_eql_struct]
  unfold wantC
  rw [show (10000 : Nat) = 9997 + 3 from rfl, eqA40 9997 w]
  simp
theorem neq_regs (w : World) (r s : Regs) : (binOp .neq 27 (.agg (arr r)) (.agg (arr s))).run Try.prog w = .ok (.bool (!Regs.eqb r s)) w := by
  rw [run_neq_struct, show (10000 : Nat) = 9998 + 2 from rfl, eqA27 9998 w]
  rfl
end Go.Proofs.Ythjfmlehkcccfaa.Heq
end

section
-- laid by a program of this session (wip/gp.sh)
namespace Go.Proofs.Ythjfmlehkcccfaa.GA
open Go.RowKit Go.Proofs.YthjfmlehkcccfaaW.PrintWords Go.Proofs.YthjfmlehkcccfaaW.PrintLast Go.Proofs.YthjfmlehkcccfaaW.PrintMore
attribute [local go_sem] max2_int min2_int max_two min_two max_three min_three max_four min_four   -- for this text's walks alone
set_option linter.unusedVariables false
set_option linter.unusedSimpArgs false

/-! ### rotaref06_Encode: function 37 -/
def rotaref06_Encode.f (a0_0 : Int) (a0_1 : Int) (a0_2 : Int) (a0_3 : Int) (a0_4 : Int) : Option (Int × Int) := (rotaref06_Check.f a0_0 a0_1 a0_2 a0_3 a0_4).bind fun t287 => (if t287 = 0 then (if a0_4 < 0 then (some ((((((((((((a0_0) % 4294967296) * 16777216) % 4294967296) + ((((a0_1) % 4294967296) * 1048576) % 4294967296)) % 4294967296) + ((((a0_2) % 4294967296) * 65536) % 4294967296)) % 4294967296) + ((wrap64 (a0_4 + 65536)) % 4294967296)) % 4294967296) + ((a0_3) % 4294967296)) % 4294967296, 0)) else (some ((((((((((((a0_0) % 4294967296) * 16777216) % 4294967296) + ((((a0_1) % 4294967296) * 1048576) % 4294967296)) % 4294967296) + ((((a0_2) % 4294967296) * 65536) % 4294967296)) % 4294967296) + ((a0_4) % 4294967296)) % 4294967296) + ((a0_3) % 4294967296)) % 4294967296, 0))) else (some (0, t287)))
set_option maxHeartbeats 8000000 in
set_option maxRecDepth 100000 in
theorem rotaref06_Encode.calls (a0_0 : Int) (a0_1 : Int) (a0_2 : Int) (a0_3 : Int) (a0_4 : Int) (r1 : Int) (r2 : Int) (w : World) (h : rotaref06_Encode.f a0_0 a0_1 a0_2 a0_3 a0_4 = some (r1, r2)) :
    Calls Try.prog 37 #[.agg #[.int .i64 a0_0, .int .i64 a0_1, .int .i64 a0_2, .int .i64 a0_3, .int .i64 a0_4]] w fun e w' => e = .returned (.tuple #[.int .u32 r1, .int .i64 r2]) ∧ Below w.heap.size w w' := by
  have hu37 := Try.underlying37
  have HB := Aside0.mk (Below.refl w.heap.size w)
  have H : ((rotaref06_Check.f a0_0 a0_1 a0_2 a0_3 a0_4).bind fun t287 => (if t287 = 0 then (if a0_4 < 0 then (some ((((((((((((a0_0) % 4294967296) * 16777216) % 4294967296) + ((((a0_1) % 4294967296) * 1048576) % 4294967296)) % 4294967296) + ((((a0_2) % 4294967296) * 65536) % 4294967296)) % 4294967296) + ((wrap64 (a0_4 + 65536)) % 4294967296)) % 4294967296) + ((a0_3) % 4294967296)) % 4294967296, 0)) else (some ((((((((((((a0_0) % 4294967296) * 16777216) % 4294967296) + ((((a0_1) % 4294967296) * 1048576) % 4294967296)) % 4294967296) + ((((a0_2) % 4294967296) * 65536) % 4294967296)) % 4294967296) + ((a0_4) % 4294967296)) % 4294967296) + ((a0_3) % 4294967296)) % 4294967296, 0))) else (some (0, t287)))) = some (r1, r2) := h
  clear h
  replace H := Option.bind_eq_some_iff.mp H
  obtain ⟨t287, A20, H⟩ := H
  replace H : (if t287 = 0 then (if a0_4 < 0 then (some ((((((((((((a0_0) % 4294967296) * 16777216) % 4294967296) + ((((a0_1) % 4294967296) * 1048576) % 4294967296)) % 4294967296) + ((((a0_2) % 4294967296) * 65536) % 4294967296)) % 4294967296) + ((wrap64 (a0_4 + 65536)) % 4294967296)) % 4294967296) + ((a0_3) % 4294967296)) % 4294967296, 0)) else (some ((((((((((((a0_0) % 4294967296) * 16777216) % 4294967296) + ((((a0_1) % 4294967296) * 1048576) % 4294967296)) % 4294967296) + ((((a0_2) % 4294967296) * 65536) % 4294967296)) % 4294967296) + ((a0_4) % 4294967296)) % 4294967296) + ((a0_3) % 4294967296)) % 4294967296, 0))) else (some (0, t287))) = some (r1, r2) := H
  have A2 := Aside0.mk A20
  clear A20
  by_cases c3 : t287 = 0
  · rw [if_pos c3] at H
    have c3b0 : (t287 == 0) = true := beq_iff_eq.mpr c3
    have c3b1 : (t287 != 0) = false := bne_eq_false_iff_eq.mpr c3
    clear c3
    by_cases c4 : a0_4 < 0
    · rw [if_pos c4] at H
      have c4b0 : decide (a0_4 < 0) = true := decide_eq_true c4
      clear c4
      simp only [Option.some.injEq, Prod.mk.injEq] at H
      obtain ⟨rfl, rfl⟩ := H
      go_enter Try.func37, Try.ntmps37
      go_wp2_with (first | ((with_reducible refine gate_dst (N := 1) rfl ?_); refine box_event ?hg (N := 1) ?hd (cs := #[.int .i64 a0_0, .int .i64 a0_1, .int .i64 a0_2, .int .i64 a0_3, .int .i64 a0_4]) (t := 37) ?hr ?_; (case hd => rfl); (case hg => rfl); (case hr => first | (go_simp; done) | (go_simp; rfl)); intro gb286 hg w5 hbox hb; have n0_ := Aside0.mk (below_step (by repeat (first | (with_reducible first | exact HB.out | apply below_alloc | apply pw_below_drewN | apply below_drew1) | exact HB.out)) hb); have n1_ := Aside0.mk (hbox); have n2_ := Aside0.mk ((by rw [hg]; exact (below_size (by repeat (first | (with_reducible first | exact HB.out | apply below_alloc | apply pw_below_drewN | apply below_drew1) | exact HB.out))) : w.heap.size ≤ gb286)); have n3_ := Aside0.mk ((by rw [hg]; exact (below_size (by repeat (first | (with_reducible first | exact HB.out | apply below_alloc | apply pw_below_drewN | apply below_drew1) | exact HB.out))) : w.heap.size ≤ gb286)); clear HB; have HB := n0_; have BK286 := n1_; have GW286 := n2_; have GE286 := n3_; clear n0_ n1_ n2_ n3_; clear hb hbox hg; have hcz6_0 : w5.cell? ⟨gb286, 0, none⟩ = some (.int .i64 a0_0) := (blk_cell BK286.out 0).trans rfl; have hcz6_1 : w5.cell? ⟨gb286, 1, none⟩ = some (.int .i64 a0_1) := (blk_cell BK286.out 1).trans rfl; have hcz6_2 : w5.cell? ⟨gb286, 2, none⟩ = some (.int .i64 a0_2) := (blk_cell BK286.out 2).trans rfl; have hcz6_3 : w5.cell? ⟨gb286, 3, none⟩ = some (.int .i64 a0_3) := (blk_cell BK286.out 3).trans rfl; have hcz6_4 : w5.cell? ⟨gb286, 4, none⟩ = some (.int .i64 a0_4) := (blk_cell BK286.out 4).trans rfl; have hfz6_0 := blk_frozen BK286.out 0; have hfz6_1 := blk_frozen BK286.out 1; have hfz6_2 := blk_frozen BK286.out 2; have hfz6_3 := blk_frozen BK286.out 3; have hfz6_4 := blk_frozen BK286.out 4) | ((with_reducible refine gate_callee (f := 43) rfl ?_); refine goesL_ (some 7) rfl rfl Try.func43 (by kernel_rfl) rfl #[.agg #[.int .i64 a0_0, .int .i64 a0_1, .int .i64 a0_2, .int .i64 a0_3, .int .i64 a0_4]] rfl (by (try simp only [List.map_toArray, List.map_cons, List.map_nil]); first | done | rfl | (simp only [List.length_drop, List.length_take]; rfl)) ?_; (with_reducible refine (rotaref06_Check.calls a0_0 a0_1 a0_2 a0_3 a0_4 t287 _ A2.out).mono ?_); rintro e w7 ⟨rfl, hb⟩; refine ⟨_, rfl, ?_⟩; have n0_ := Aside0.mk (blk_below (g := gb286) (o := .cells #[.int .i64 a0_0, .int .i64 a0_1, .int .i64 a0_2, .int .i64 a0_3, .int .i64 a0_4] 37 (0, 0)) (by (with_reducible repeat (first | refine blk_drewN ?_ _ | refine blk_drew ?_ | refine blk_alloc ?_ _)); exact BK286.out) hb); have n1_ := Aside0.mk (below_step (by repeat (first | (with_reducible first | exact HB.out | apply below_alloc | apply pw_below_drewN | apply below_drew1 | refine below_set ?_ GE286.out) | exact HB.out)) hb); clear BK286; clear HB; have BK286 := n0_; have HB := n1_; clear n0_ n1_; (try clear hb); (try clear hb2); (try clear hk); (try clear hi); have hcz8_0 : w7.cell? ⟨gb286, 0, none⟩ = some (.int .i64 a0_0) := (blk_cell BK286.out 0).trans rfl; have hcz8_1 : w7.cell? ⟨gb286, 1, none⟩ = some (.int .i64 a0_1) := (blk_cell BK286.out 1).trans rfl; have hcz8_2 : w7.cell? ⟨gb286, 2, none⟩ = some (.int .i64 a0_2) := (blk_cell BK286.out 2).trans rfl; have hcz8_3 : w7.cell? ⟨gb286, 3, none⟩ = some (.int .i64 a0_3) := (blk_cell BK286.out 3).trans rfl; have hcz8_4 : w7.cell? ⟨gb286, 4, none⟩ = some (.int .i64 a0_4) := (blk_cell BK286.out 4).trans rfl; have hfz8_0 := blk_frozen BK286.out 0; have hfz8_1 := blk_frozen BK286.out 1; have hfz8_2 := blk_frozen BK286.out 2; have hfz8_3 := blk_frozen BK286.out 3; have hfz8_4 := blk_frozen BK286.out 4))
      go_ret2
      exact ⟨by first | rfl | (simp [errW_none, errW_some] <;> rfl) | (simp [*, errW_none, errW_some] <;> rfl), by repeat (first | (with_reducible first | exact HB.out | apply below_alloc | apply pw_below_drewN | apply below_drew1 | refine below_set ?_ GE286.out) | exact HB.out)⟩
    · rw [if_neg c4] at H
      have c4b0 : decide (a0_4 < 0) = false := decide_eq_false c4
      clear c4
      simp only [Option.some.injEq, Prod.mk.injEq] at H
      obtain ⟨rfl, rfl⟩ := H
      go_enter Try.func37, Try.ntmps37
      go_wp2_with (first | ((with_reducible refine gate_dst (N := 1) rfl ?_); refine box_event ?hg (N := 1) ?hd (cs := #[.int .i64 a0_0, .int .i64 a0_1, .int .i64 a0_2, .int .i64 a0_3, .int .i64 a0_4]) (t := 37) ?hr ?_; (case hd => rfl); (case hg => rfl); (case hr => first | (go_simp; done) | (go_simp; rfl)); intro gb286 hg w9 hbox hb; have n0_ := Aside0.mk (below_step (by repeat (first | (with_reducible first | exact HB.out | apply below_alloc | apply pw_below_drewN | apply below_drew1) | exact HB.out)) hb); have n1_ := Aside0.mk (hbox); have n2_ := Aside0.mk ((by rw [hg]; exact (below_size (by repeat (first | (with_reducible first | exact HB.out | apply below_alloc | apply pw_below_drewN | apply below_drew1) | exact HB.out))) : w.heap.size ≤ gb286)); have n3_ := Aside0.mk ((by rw [hg]; exact (below_size (by repeat (first | (with_reducible first | exact HB.out | apply below_alloc | apply pw_below_drewN | apply below_drew1) | exact HB.out))) : w.heap.size ≤ gb286)); clear HB; have HB := n0_; have BK286 := n1_; have GW286 := n2_; have GE286 := n3_; clear n0_ n1_ n2_ n3_; clear hb hbox hg; have hcz10_0 : w9.cell? ⟨gb286, 0, none⟩ = some (.int .i64 a0_0) := (blk_cell BK286.out 0).trans rfl; have hcz10_1 : w9.cell? ⟨gb286, 1, none⟩ = some (.int .i64 a0_1) := (blk_cell BK286.out 1).trans rfl; have hcz10_2 : w9.cell? ⟨gb286, 2, none⟩ = some (.int .i64 a0_2) := (blk_cell BK286.out 2).trans rfl; have hcz10_3 : w9.cell? ⟨gb286, 3, none⟩ = some (.int .i64 a0_3) := (blk_cell BK286.out 3).trans rfl; have hcz10_4 : w9.cell? ⟨gb286, 4, none⟩ = some (.int .i64 a0_4) := (blk_cell BK286.out 4).trans rfl; have hfz10_0 := blk_frozen BK286.out 0; have hfz10_1 := blk_frozen BK286.out 1; have hfz10_2 := blk_frozen BK286.out 2; have hfz10_3 := blk_frozen BK286.out 3; have hfz10_4 := blk_frozen BK286.out 4) | ((with_reducible refine gate_callee (f := 43) rfl ?_); refine goesL_ (some 7) rfl rfl Try.func43 (by kernel_rfl) rfl #[.agg #[.int .i64 a0_0, .int .i64 a0_1, .int .i64 a0_2, .int .i64 a0_3, .int .i64 a0_4]] rfl (by (try simp only [List.map_toArray, List.map_cons, List.map_nil]); first | done | rfl | (simp only [List.length_drop, List.length_take]; rfl)) ?_; (with_reducible refine (rotaref06_Check.calls a0_0 a0_1 a0_2 a0_3 a0_4 t287 _ A2.out).mono ?_); rintro e w11 ⟨rfl, hb⟩; refine ⟨_, rfl, ?_⟩; have n0_ := Aside0.mk (blk_below (g := gb286) (o := .cells #[.int .i64 a0_0, .int .i64 a0_1, .int .i64 a0_2, .int .i64 a0_3, .int .i64 a0_4] 37 (0, 0)) (by (with_reducible repeat (first | refine blk_drewN ?_ _ | refine blk_drew ?_ | refine blk_alloc ?_ _)); exact BK286.out) hb); have n1_ := Aside0.mk (below_step (by repeat (first | (with_reducible first | exact HB.out | apply below_alloc | apply pw_below_drewN | apply below_drew1 | refine below_set ?_ GE286.out) | exact HB.out)) hb); clear BK286; clear HB; have BK286 := n0_; have HB := n1_; clear n0_ n1_; (try clear hb); (try clear hb2); (try clear hk); (try clear hi); have hcz12_0 : w11.cell? ⟨gb286, 0, none⟩ = some (.int .i64 a0_0) := (blk_cell BK286.out 0).trans rfl; have hcz12_1 : w11.cell? ⟨gb286, 1, none⟩ = some (.int .i64 a0_1) := (blk_cell BK286.out 1).trans rfl; have hcz12_2 : w11.cell? ⟨gb286, 2, none⟩ = some (.int .i64 a0_2) := (blk_cell BK286.out 2).trans rfl; have hcz12_3 : w11.cell? ⟨gb286, 3, none⟩ = some (.int .i64 a0_3) := (blk_cell BK286.out 3).trans rfl; have hcz12_4 : w11.cell? ⟨gb286, 4, none⟩ = some (.int .i64 a0_4) := (blk_cell BK286.out 4).trans rfl; have hfz12_0 := blk_frozen BK286.out 0; have hfz12_1 := blk_frozen BK286.out 1; have hfz12_2 := blk_frozen BK286.out 2; have hfz12_3 := blk_frozen BK286.out 3; have hfz12_4 := blk_frozen BK286.out 4))
      go_ret2
      exact ⟨by first | rfl | (simp [errW_none, errW_some] <;> rfl) | (simp [*, errW_none, errW_some] <;> rfl), by repeat (first | (with_reducible first | exact HB.out | apply below_alloc | apply pw_below_drewN | apply below_drew1 | refine below_set ?_ GE286.out) | exact HB.out)⟩
  · rw [if_neg c3] at H
    have c3b0 : (t287 == 0) = false := beq_eq_false_iff_ne.mpr c3
    have c3b1 : (t287 != 0) = true := bne_iff_ne.mpr c3
    simp only [Option.some.injEq, Prod.mk.injEq] at H
    obtain ⟨rfl, rfl⟩ := H
    go_enter Try.func37, Try.ntmps37
    go_wp2_with (first | ((with_reducible refine gate_dst (N := 1) rfl ?_); refine box_event ?hg (N := 1) ?hd (cs := #[.int .i64 a0_0, .int .i64 a0_1, .int .i64 a0_2, .int .i64 a0_3, .int .i64 a0_4]) (t := 37) ?hr ?_; (case hd => rfl); (case hg => rfl); (case hr => first | (go_simp; done) | (go_simp; rfl)); intro gb286 hg w13 hbox hb; have n0_ := Aside0.mk (below_step (by repeat (first | (with_reducible first | exact HB.out | apply below_alloc | apply pw_below_drewN | apply below_drew1) | exact HB.out)) hb); have n1_ := Aside0.mk (hbox); have n2_ := Aside0.mk ((by rw [hg]; exact (below_size (by repeat (first | (with_reducible first | exact HB.out | apply below_alloc | apply pw_below_drewN | apply below_drew1) | exact HB.out))) : w.heap.size ≤ gb286)); have n3_ := Aside0.mk ((by rw [hg]; exact (below_size (by repeat (first | (with_reducible first | exact HB.out | apply below_alloc | apply pw_below_drewN | apply below_drew1) | exact HB.out))) : w.heap.size ≤ gb286)); clear HB; have HB := n0_; have BK286 := n1_; have GW286 := n2_; have GE286 := n3_; clear n0_ n1_ n2_ n3_; clear hb hbox hg; have hcz14_0 : w13.cell? ⟨gb286, 0, none⟩ = some (.int .i64 a0_0) := (blk_cell BK286.out 0).trans rfl; have hcz14_1 : w13.cell? ⟨gb286, 1, none⟩ = some (.int .i64 a0_1) := (blk_cell BK286.out 1).trans rfl; have hcz14_2 : w13.cell? ⟨gb286, 2, none⟩ = some (.int .i64 a0_2) := (blk_cell BK286.out 2).trans rfl; have hcz14_3 : w13.cell? ⟨gb286, 3, none⟩ = some (.int .i64 a0_3) := (blk_cell BK286.out 3).trans rfl; have hcz14_4 : w13.cell? ⟨gb286, 4, none⟩ = some (.int .i64 a0_4) := (blk_cell BK286.out 4).trans rfl; have hfz14_0 := blk_frozen BK286.out 0; have hfz14_1 := blk_frozen BK286.out 1; have hfz14_2 := blk_frozen BK286.out 2; have hfz14_3 := blk_frozen BK286.out 3; have hfz14_4 := blk_frozen BK286.out 4) | ((with_reducible refine gate_callee (f := 43) rfl ?_); refine goesL_ (some 7) rfl rfl Try.func43 (by kernel_rfl) rfl #[.agg #[.int .i64 a0_0, .int .i64 a0_1, .int .i64 a0_2, .int .i64 a0_3, .int .i64 a0_4]] rfl (by (try simp only [List.map_toArray, List.map_cons, List.map_nil]); first | done | rfl | (simp only [List.length_drop, List.length_take]; rfl)) ?_; (with_reducible refine (rotaref06_Check.calls a0_0 a0_1 a0_2 a0_3 a0_4 t287 _ A2.out).mono ?_); rintro e w15 ⟨rfl, hb⟩; refine ⟨_, rfl, ?_⟩; have n0_ := Aside0.mk (blk_below (g := gb286) (o := .cells #[.int .i64 a0_0, .int .i64 a0_1, .int .i64 a0_2, .int .i64 a0_3, .int .i64 a0_4] 37 (0, 0)) (by (with_reducible repeat (first | refine blk_drewN ?_ _ | refine blk_drew ?_ | refine blk_alloc ?_ _)); exact BK286.out) hb); have n1_ := Aside0.mk (below_step (by repeat (first | (with_reducible first | exact HB.out | apply below_alloc | apply pw_below_drewN | apply below_drew1 | refine below_set ?_ GE286.out) | exact HB.out)) hb); clear BK286; clear HB; have BK286 := n0_; have HB := n1_; clear n0_ n1_; (try clear hb); (try clear hb2); (try clear hk); (try clear hi)))
    go_ret2
    exact ⟨by first | rfl | (simp [errW_none, errW_some] <;> rfl) | (simp [*, errW_none, errW_some] <;> rfl), by repeat (first | (with_reducible first | exact HB.out | apply below_alloc | apply pw_below_drewN | apply below_drew1 | refine below_set ?_ GE286.out) | exact HB.out)⟩

end Go.Proofs.Ythjfmlehkcccfaa.GA
end
