import Derived.Test.YthjfmlehkcccfaaMSafe2
import Derived.Test.YthjfmlehkcccfaaMSafe5
import Derived.Test.YthjfmlehkcccfaaMSafe6
import Derived.Test.YthjfmlehkcccfaaMSafe11
import Derived.Test.YthjfmlehkcccfaaMSafe12
import Derived.Deep.QuietTactic
import Derived.BigQuiet
import Derived.Deep.MidRow
import Derived.Lib.Hide
import Derived.Outline
section
/-
  step.Step and rotaref09.Step: ways (p_c).
-/
set_option linter.unusedVariables false
set_option linter.unusedSimpArgs false
namespace Go.Proofs.Ythjfmlehkcccfaa.Hs2
open Go.RowKit Go.Proofs.YthjfmlehkcccfaaW.PrintWords Go.Proofs.YthjfmlehkcccfaaW.PrintLast Go.Proofs.YthjfmlehkcccfaaW.PrintMore GA Hctx Hsmall Qstep
set_option maxHeartbeats 2000000 in
set_option maxRecDepth 100000 in
theorem p_c (l0 : List Int) (l1 : List S75) (l2 : List S98) (A0 A1 A2 : Option Addr) (c0 c1 c2 : Nat) (pc : Int) (r : Regs) (A : Option Addr) (c : Nat) (l : List Int) (clk slot gen : Int) (w : World)
    (h0 : Kd.C (Kd.int .u32) w A0 l0.length l0) (k0 : l0.length ≤ c0) (h1 : Kd.C k75 w A1 l1.length l1) (k1 : l1.length ≤ c1) (h2 : Kd.C k98 w A2 l2.length l2) (k2 : l2.length ≤ c2) (hl : Kd.C (Kd.int .i64) w A l.length l) (kl : l.length ≤ c) (hlim : l.length < 17592186044416)
    (op : Int) (a b c' : Nat) (m : Int) (ha : a < 16) (hb : b < 16) (hc : c' < 16) (q1 : 0 ≤ pc) (q2 : pc < 9223372036854775807) (q6 : op ≠ 2 → 0 ≤ m) (hop : op = 23 ∨ op = 24 ∨ op = 25 ∨ op = 26 ∨ op = 58) (hn : step_next.f l0 l1 l2 pc r.r0 r.r1 r.r2 r.r3 r.r4 r.r5 r.r6 r.r7 r.r8 r.r9 r.r10 r.r11 r.r12 r.r13 r.r14 r.r15 l = some (op, (a : Int), (b : Int), (c' : Int), m, true)) :
    Calls Try.prog 11 #[.agg #[.slice A0 l0.length c0, .slice A1 l1.length c1, .slice A2 l2.length c2], .agg (ctx pc r (.slice A l.length c)), .agg #[.int .u64 clk, .int .i64 slot, .int .i64 gen]] w (Post w (stepO l1 pc r l clk slot gen true op a b c' m).pc (stepO l1 pc r l clk slot gen true op a b c' m).r (stepO l1 pc r l clk slot gen true op a b c' m).calls (stepO l1 pc r l clk slot gen true op a b c' m).want) := by
  have hu26 := Try.underlying26
  have hu30 := Try.underlying30
  have hu37 := Try.underlying37
  have hu40 := Try.underlying40
  have p1 : (0 : Int) ≤ (a : Int) := by omega
  have p2 : (a : Int) < 16 := by omega
  have p3 : (0 : Int) ≤ (b : Int) := by omega
  have p4 : (b : Int) < 16 := by omega
  have p5 : (0 : Int) ≤ (c' : Int) := by omega
  have p6 : (c' : Int) < 16 := by omega
  have H0 := Aside0.mk h0
  clear h0
  have H1 := Aside0.mk h1
  clear h1
  have H2 := Aside0.mk h2
  clear h2
  have HL := Aside0.mk hl
  clear hl
  have HN := Aside0.mk hn
  clear hn
  have HQ6 := Lib.hid q6
  clear q6
  have M0 := Aside0.mk (Mem.start [3] w)
  go_enter Try.func11, Try.ntmps11
  go_wp2_with (first
    | (refine eB M0 3 #[.slice A0 l0.length c0, .slice A1 l1.length c1, .slice A2 l2.length c2] 26 ?_; clear M0; intro g3 w3 M1)
    | (refine eB M1 4 (ctx pc r (.slice A l.length c)) 30 ?_; clear M1; intro g4 w4 M2)
    | (refine eB M2 5 #[.int .u64 clk, .int .i64 slot, .int .i64 gen] 35 ?_; clear M2; intro g5 w5 M3)
    | (refine eB M3 6 (ctx 0 zeroR (.slice none 0 0)) 30 ?_; clear M3; intro g6 w6 M4)
    | (refine eB M4 7 want0 40 ?_; clear M4; intro g7 w7 M5)
    | (refine eL M5 18 0 hu26 ?_)
    | (refine eL M5 19 1 hu30 ?_))
  refine (step_next.calls A0 c0 l0 _ c1 l1 A2 c2 l2 pc r.r0 r.r1 r.r2 r.r3 r.r4 r.r5 r.r6 r.r7 r.r8 r.r9 r.r10 r.r11 r.r12 r.r13 r.r14 r.r15 A c l _ _ _ _ _ _ _ (Kd.C_below H0.out M5.out.below) k0 (Kd.C_below H1.out M5.out.below) k1 (Kd.C_below H2.out M5.out.below) k2 (Kd.C_below HL.out M5.out.below) kl HN.out).mono ?_
  rintro e W20 ⟨rfl, hb⟩
  have M6 := Aside0.mk (Mem.call M5.out hb)
  clear M5 hb
  go_wp2_with (first
    | (refine eB M6 8 (instC 0 0 0 0 0) 37 ?_; clear M6; intro g8 w8 M7)
    | (refine eR M7 37 8 5 (instC op (a : Int) (b : Int) (c' : Int) m) ?_; clear M7; intro w_ M8)
    | (refine eL M8 29 1 hu30 ?_)
    | (refine eB M8 10 (ctx 0 zeroR (.slice none 0 0)) 30 ?_; clear M8; intro g10 w10 M9)
    | (refine eR M9 30 10 6 (ctx pc r (.slice A l.length c)) ?_; clear M9; intro w_ M10))
  have y1 := (M10.out.cell 5 rfl 1).trans (show _ = some (Value.int .i64 (a : Int)) from rfl)
  have z1 := (M10.out.cell 1 rfl (1 + a)).trans (ctx_reg pc r (.slice A l.length c) a ha)
  have y2 := (M10.out.cell 5 rfl 2).trans (show _ = some (Value.int .i64 (b : Int)) from rfl)
  have z2 := (M10.out.cell 1 rfl (1 + b)).trans (ctx_reg pc r (.slice A l.length c) b hb)
  have y3 := (M10.out.cell 5 rfl 3).trans (show _ = some (Value.int .i64 (c' : Int)) from rfl)
  have z3 := (M10.out.cell 1 rfl (1 + c')).trans (ctx_reg pc r (.slice A l.length c) c' hc)
  go_quiet (fail)
  clear y1 y2 y3 z1 z2 z3
  have M11 := Aside0.mk (Mem.drewN M10.out nq)
  clear M10
  go_wp2_with (first
    | (refine eC M11 46 5 1 (.int .i64 (a : Int)) ?_)
    | (refine eC M11 50 1 17 (.slice A l.length c) ?_))
  refine (Hclone.clone_calls A c l _ (Kd.C_below HL.out M11.out.below) kl hlim).mono ?_
  rintro e W51 ⟨v51, rfl, hR, hb⟩
  obtain ⟨A51, c51, rfl⟩ := Kd.R_slice hR
  have M12 := Aside0.mk (Mem.row M11.out hb hR)
  clear M11 hR hb
  have q6 := HQ6.out
  clear HQ6
  rcases hop with rfl | rfl | rfl | rfl | rfl
  · clear q6
    go_wp2_with (first
        | (refine eS M12 28 52 1 17 (.slice A51 l.length c51) (ctx pc r (.slice A51 l.length c51)) ?_; clear M12; intro w_ M13)
        | (refine eC M13 54 1 0 (.int .i64 pc) ?_)
        | (refine eS M13 3 56 1 0 (.int .i64 (pc + 1)) (ctx (pc + 1) r (.slice A51 l.length c51)) ?_; clear M13; intro w_ M14)
        | (refine eC M14 58 5 0 (.int .i64 23) ?_))
    have y1 := ((Mem.drew M14.out).cell 5 rfl 0).trans (show _ = some (Value.int .i64 23) from rfl)
    have ra : World.rangeAt _ g4 0 (ctx (pc + 1) r (.slice A51 l.length c51)).toList := (Mem.drew M14.out).range 1 rfl
    have rb : World.rangeAt _ g8 0 ([.int .i64 23, .int .i64 (a : Int), .int .i64 (b : Int), .int .i64 (c' : Int), .int .i64 m] : List Value) := (Mem.drew M14.out).range 5 rfl
    have th1 : World.there _ g6 0 18 := (Mem.drew M14.out).there 3 rfl
    have th2 : World.there _ g7 0 11 := (Mem.drew M14.out).there 4 rfl
    have na : g4 ≠ g6 := M14.out.ne 1 3 (by decide) rfl rfl
    have nb : g8 ≠ g6 := (M14.out.ne 3 5 (by decide) rfl rfl).symm
    have nd : g4 ≠ g7 := M14.out.ne 1 4 (by decide) rfl rfl
    have ne : g8 ≠ g7 := (M14.out.ne 4 5 (by decide) rfl rfl).symm
    have hi30 : (Try.prog.info? 30).map (·.size) = some (ctx (pc + 1) r (.slice A51 l.length c51)).toList.length := by kernel_rfl
    have hi37 : (Try.prog.info? 37).map (·.size) = some ([.int .i64 23, .int .i64 (a : Int), .int .i64 (b : Int), .int .i64 (c' : Int), .int .i64 m] : List Value).length := by kernel_rfl
    refine wp_region_noPanic ?_
    refine wp_region_held_drew (S := fun w' => w'.rangeAt g4 0 (ctx (pc + 1) r (.slice A51 l.length c51)).toList ∧ w'.cell? ⟨g8, 0, none⟩ = some (.int .i64 23) ∧ w'.there g6 0 18 ∧ w'.there g7 0 11 ∧ w'.rangeAt g8 0 ([.int .i64 23, .int .i64 (a : Int), .int .i64 (b : Int), .int .i64 (c' : Int), .int .i64 m] : List Value)) (by kernel_rfl) ⟨ra, y1, th1, th2, rb⟩ (fun hS => ?_)
    refine wpAnyH_take (i := 1) (oi := { dst := some 213, op := Op.fieldAddr 37 (Operand.tmp 8) 0, type := 0, pos := "step.go:99", after := #[{ on := 4, ground := Ground.gcOnly Departure.lateStores }], guard := none }) (v := Value.pointer (some ⟨g8, 0, none⟩)) rfl (by kernel_rfl) (by kernel_rfl) (by kernel_rfl) (fun _ _ _ h => h) (Or.inl ⟨by rfl, fun wq hw => ?_⟩) hS ?_
    · go_simp
    simp only [Act.put, List.setIfInBounds_toArray, List.set_cons_zero, List.set_cons_succ]
    refine wpAnyH_take (i := 2) (oi := { dst := some 214, op := Op.load 3 (Operand.tmp 213), type := 3, pos := "step.go:99", after := #[{ on := 1, ground := Ground.data }, { on := 4, ground := Ground.gcOnly Departure.lateStores }], guard := none }) (v := Value.int .i64 23) rfl (by kernel_rfl) (by kernel_rfl) (by kernel_rfl) (fun _ _ _ h => h) (Or.inl ⟨by rfl, fun wq hw => ?_⟩) hS ?_
    · have yq := hw.2.1; clear hw; go_simp
    simp only [Act.put, List.setIfInBounds_toArray, List.set_cons_zero, List.set_cons_succ]
    refine wpAnyH_take (i := 3) (oi := { dst := some 215, op := Op.build 40 #[(0, Operand.tmp 214)], type := 40, pos := "step.go:99", after := #[{ on := 2, ground := Ground.data }, { on := 4, ground := Ground.gcOnly Departure.lateStores }], guard := none }) (v := Value.agg (wantC 23 0 0 0 0 0 0 0 0 0 0)) rfl (by kernel_rfl) (by kernel_rfl) (by kernel_rfl) (fun _ _ _ h => h) (Or.inl ⟨by rfl, fun wq hw => ?_⟩) hS ?_
    · clear hw; first | (go_simp; done) | (go_simp; rfl)
    simp only [Act.put, List.setIfInBounds_toArray, List.set_cons_zero, List.set_cons_succ]
    refine wpAnyH_take (i := 0) (oi := { dst := some 212, op := Op.load 30 (Operand.tmp 4), type := 30, pos := "step.go:99", after := #[], guard := none }) (v := _) rfl (by kernel_rfl) (by kernel_rfl) (by kernel_rfl) (fun _ _ _ h => h) (yieldsIf_load_mid (by rfl) _ _ rfl _ _ rfl _ _ (fun wq hw => hw.1) hu30 rfl hi30) hS ?_
    simp only [Act.put, List.setIfInBounds_toArray, List.set_cons_zero, List.set_cons_succ]
    refine dSt (i := 4) (o := { dst := none, op := Op.store 30 (Operand.tmp 6) (Operand.tmp 212), type := 0, pos := "step.go:99", after := #[{ on := 0, ground := Ground.data }, { on := 0, ground := Ground.phase }, { on := 1, ground := Ground.textOnly Departure.lateStores }, { on := 2, ground := Ground.textOnly Departure.lateStores }, { on := 3, ground := Ground.textOnly Departure.lateStores }], guard := none }) 30 (.tmp 6) (.tmp 212) g6 0 (ctx (pc + 1) r (.slice A51 l.length c51)) (hS.2.2.1) (⟨World.rangeAt_setCells_apart hS.1 _ _ _ (.inl na), (by rw [World.cell?_setCells_out _ _ _ _ _ (fun hb_ _ => absurd hb_ nb)]; exact hS.2.1), World.there_setCells hS.2.2.1 _ _ _, World.there_setCells hS.2.2.2.1 _ _ _, World.rangeAt_setCells_apart hS.2.2.2.2 _ _ _ (.inl nb)⟩) ?_
    clear hS
    intro hS
    refine dSt (i := 5) (o := { dst := none, op := Op.store 40 (Operand.tmp 7) (Operand.tmp 215), type := 0, pos := "step.go:99", after := #[{ on := 3, ground := Ground.data }, { on := 4, ground := Ground.chain }, { on := 0, ground := Ground.phase }, { on := 1, ground := Ground.phase }, { on := 2, ground := Ground.phase }, { on := 3, ground := Ground.phase }, { on := 4, ground := Ground.phase }], guard := none }) 40 (.tmp 7) (.tmp 215) g7 0 (wantC 23 0 0 0 0 0 0 0 0 0 0) (hS.2.2.2.1) (⟨World.rangeAt_setCells_apart hS.1 _ _ _ (.inl nd), (by rw [World.cell?_setCells_out _ _ _ _ _ (fun hb_ _ => absurd hb_ ne)]; exact hS.2.1), World.there_setCells hS.2.2.1 _ _ _, World.there_setCells hS.2.2.2.1 _ _ _, World.rangeAt_setCells_apart hS.2.2.2.2 _ _ _ (.inl ne)⟩) ?_
    clear hS
    intro hS
    refine wpAnyH_done (by kernel_rfl) ?_ _
    refine NoPanic.normal ?_
    clear hS ra rb y1 th1 th2 na nb nd ne hi30 hi37
    have M15 := Aside0.mk (Mem.cells (Mem.cells (Mem.drew M14.out) 3 rfl (ctx (pc + 1) r (.slice A51 l.length c51)) rfl) 4 rfl (wantC 23 0 0 0 0 0 0 0 0 0 0) rfl)
    clear M14
    go_wp2_with fail
    rw [show stepO l1 pc r l clk slot gen true 23 a b c' m = ⟨pc + 1, r, l, wantC 23 0 0 0 0 0 0 0 0 0 0⟩ from by simp [stepO]]
    refine bodyPost_ret (results_cc rfl _ _ g6 g7 30 40 (ctx (pc + 1) r (.slice A51 l.length c51)) (wantC 23 0 0 0 0 0 0 0 0 0 0) (0, 0) (0, 0) _ _ rfl (M15.out.at 3 rfl) hu30 rfl (by kernel_rfl) rfl (M15.out.at 4 rfl) hu40 rfl (by kernel_rfl)) rfl ⟨_, rfl, M15.out.own, M15.out.below⟩
  · clear q6
    go_wp2_with (first
        | (refine eS M12 28 52 1 17 (.slice A51 l.length c51) (ctx pc r (.slice A51 l.length c51)) ?_; clear M12; intro w_ M13)
        | (refine eC M13 54 1 0 (.int .i64 pc) ?_)
        | (refine eS M13 3 56 1 0 (.int .i64 (pc + 1)) (ctx (pc + 1) r (.slice A51 l.length c51)) ?_; clear M13; intro w_ M14)
        | (refine eC M14 58 5 0 (.int .i64 24) ?_))
    have y1 := ((Mem.drew M14.out).cell 5 rfl 0).trans (show _ = some (Value.int .i64 24) from rfl)
    have ra : World.rangeAt _ g4 0 (ctx (pc + 1) r (.slice A51 l.length c51)).toList := (Mem.drew M14.out).range 1 rfl
    have rb : World.rangeAt _ g8 0 ([.int .i64 24, .int .i64 (a : Int), .int .i64 (b : Int), .int .i64 (c' : Int), .int .i64 m] : List Value) := (Mem.drew M14.out).range 5 rfl
    have th1 : World.there _ g6 0 18 := (Mem.drew M14.out).there 3 rfl
    have th2 : World.there _ g7 0 11 := (Mem.drew M14.out).there 4 rfl
    have na : g4 ≠ g6 := M14.out.ne 1 3 (by decide) rfl rfl
    have nb : g8 ≠ g6 := (M14.out.ne 3 5 (by decide) rfl rfl).symm
    have nd : g4 ≠ g7 := M14.out.ne 1 4 (by decide) rfl rfl
    have ne : g8 ≠ g7 := (M14.out.ne 4 5 (by decide) rfl rfl).symm
    have hi30 : (Try.prog.info? 30).map (·.size) = some (ctx (pc + 1) r (.slice A51 l.length c51)).toList.length := by kernel_rfl
    have hi37 : (Try.prog.info? 37).map (·.size) = some ([.int .i64 24, .int .i64 (a : Int), .int .i64 (b : Int), .int .i64 (c' : Int), .int .i64 m] : List Value).length := by kernel_rfl
    refine wp_region_noPanic ?_
    refine wp_region_held_drew (S := fun w' => w'.rangeAt g4 0 (ctx (pc + 1) r (.slice A51 l.length c51)).toList ∧ w'.cell? ⟨g8, 0, none⟩ = some (.int .i64 24) ∧ w'.there g6 0 18 ∧ w'.there g7 0 11 ∧ w'.rangeAt g8 0 ([.int .i64 24, .int .i64 (a : Int), .int .i64 (b : Int), .int .i64 (c' : Int), .int .i64 m] : List Value)) (by kernel_rfl) ⟨ra, y1, th1, th2, rb⟩ (fun hS => ?_)
    refine wpAnyH_take (i := 1) (oi := { dst := some 213, op := Op.fieldAddr 37 (Operand.tmp 8) 0, type := 0, pos := "step.go:99", after := #[{ on := 4, ground := Ground.gcOnly Departure.lateStores }], guard := none }) (v := Value.pointer (some ⟨g8, 0, none⟩)) rfl (by kernel_rfl) (by kernel_rfl) (by kernel_rfl) (fun _ _ _ h => h) (Or.inl ⟨by rfl, fun wq hw => ?_⟩) hS ?_
    · go_simp
    simp only [Act.put, List.setIfInBounds_toArray, List.set_cons_zero, List.set_cons_succ]
    refine wpAnyH_take (i := 2) (oi := { dst := some 214, op := Op.load 3 (Operand.tmp 213), type := 3, pos := "step.go:99", after := #[{ on := 1, ground := Ground.data }, { on := 4, ground := Ground.gcOnly Departure.lateStores }], guard := none }) (v := Value.int .i64 24) rfl (by kernel_rfl) (by kernel_rfl) (by kernel_rfl) (fun _ _ _ h => h) (Or.inl ⟨by rfl, fun wq hw => ?_⟩) hS ?_
    · have yq := hw.2.1; clear hw; go_simp
    simp only [Act.put, List.setIfInBounds_toArray, List.set_cons_zero, List.set_cons_succ]
    refine wpAnyH_take (i := 3) (oi := { dst := some 215, op := Op.build 40 #[(0, Operand.tmp 214)], type := 40, pos := "step.go:99", after := #[{ on := 2, ground := Ground.data }, { on := 4, ground := Ground.gcOnly Departure.lateStores }], guard := none }) (v := Value.agg (wantC 24 0 0 0 0 0 0 0 0 0 0)) rfl (by kernel_rfl) (by kernel_rfl) (by kernel_rfl) (fun _ _ _ h => h) (Or.inl ⟨by rfl, fun wq hw => ?_⟩) hS ?_
    · clear hw; first | (go_simp; done) | (go_simp; rfl)
    simp only [Act.put, List.setIfInBounds_toArray, List.set_cons_zero, List.set_cons_succ]
    refine wpAnyH_take (i := 0) (oi := { dst := some 212, op := Op.load 30 (Operand.tmp 4), type := 30, pos := "step.go:99", after := #[], guard := none }) (v := _) rfl (by kernel_rfl) (by kernel_rfl) (by kernel_rfl) (fun _ _ _ h => h) (yieldsIf_load_mid (by rfl) _ _ rfl _ _ rfl _ _ (fun wq hw => hw.1) hu30 rfl hi30) hS ?_
    simp only [Act.put, List.setIfInBounds_toArray, List.set_cons_zero, List.set_cons_succ]
    refine dSt (i := 4) (o := { dst := none, op := Op.store 30 (Operand.tmp 6) (Operand.tmp 212), type := 0, pos := "step.go:99", after := #[{ on := 0, ground := Ground.data }, { on := 0, ground := Ground.phase }, { on := 1, ground := Ground.textOnly Departure.lateStores }, { on := 2, ground := Ground.textOnly Departure.lateStores }, { on := 3, ground := Ground.textOnly Departure.lateStores }], guard := none }) 30 (.tmp 6) (.tmp 212) g6 0 (ctx (pc + 1) r (.slice A51 l.length c51)) (hS.2.2.1) (⟨World.rangeAt_setCells_apart hS.1 _ _ _ (.inl na), (by rw [World.cell?_setCells_out _ _ _ _ _ (fun hb_ _ => absurd hb_ nb)]; exact hS.2.1), World.there_setCells hS.2.2.1 _ _ _, World.there_setCells hS.2.2.2.1 _ _ _, World.rangeAt_setCells_apart hS.2.2.2.2 _ _ _ (.inl nb)⟩) ?_
    clear hS
    intro hS
    refine dSt (i := 5) (o := { dst := none, op := Op.store 40 (Operand.tmp 7) (Operand.tmp 215), type := 0, pos := "step.go:99", after := #[{ on := 3, ground := Ground.data }, { on := 4, ground := Ground.chain }, { on := 0, ground := Ground.phase }, { on := 1, ground := Ground.phase }, { on := 2, ground := Ground.phase }, { on := 3, ground := Ground.phase }, { on := 4, ground := Ground.phase }], guard := none }) 40 (.tmp 7) (.tmp 215) g7 0 (wantC 24 0 0 0 0 0 0 0 0 0 0) (hS.2.2.2.1) (⟨World.rangeAt_setCells_apart hS.1 _ _ _ (.inl nd), (by rw [World.cell?_setCells_out _ _ _ _ _ (fun hb_ _ => absurd hb_ ne)]; exact hS.2.1), World.there_setCells hS.2.2.1 _ _ _, World.there_setCells hS.2.2.2.1 _ _ _, World.rangeAt_setCells_apart hS.2.2.2.2 _ _ _ (.inl ne)⟩) ?_
    clear hS
    intro hS
    refine wpAnyH_done (by kernel_rfl) ?_ _
    refine NoPanic.normal ?_
    clear hS ra rb y1 th1 th2 na nb nd ne hi30 hi37
    have M15 := Aside0.mk (Mem.cells (Mem.cells (Mem.drew M14.out) 3 rfl (ctx (pc + 1) r (.slice A51 l.length c51)) rfl) 4 rfl (wantC 24 0 0 0 0 0 0 0 0 0 0) rfl)
    clear M14
    go_wp2_with fail
    rw [show stepO l1 pc r l clk slot gen true 24 a b c' m = ⟨pc + 1, r, l, wantC 24 0 0 0 0 0 0 0 0 0 0⟩ from by simp [stepO]]
    refine bodyPost_ret (results_cc rfl _ _ g6 g7 30 40 (ctx (pc + 1) r (.slice A51 l.length c51)) (wantC 24 0 0 0 0 0 0 0 0 0 0) (0, 0) (0, 0) _ _ rfl (M15.out.at 3 rfl) hu30 rfl (by kernel_rfl) rfl (M15.out.at 4 rfl) hu40 rfl (by kernel_rfl)) rfl ⟨_, rfl, M15.out.own, M15.out.below⟩
  · clear q6
    go_wp2_with (first
        | (refine eS M12 28 52 1 17 (.slice A51 l.length c51) (ctx pc r (.slice A51 l.length c51)) ?_; clear M12; intro w_ M13)
        | (refine eC M13 54 1 0 (.int .i64 pc) ?_)
        | (refine eS M13 3 56 1 0 (.int .i64 (pc + 1)) (ctx (pc + 1) r (.slice A51 l.length c51)) ?_; clear M13; intro w_ M14)
        | (refine eC M14 58 5 0 (.int .i64 25) ?_)
        | (refine eC M14 186 2 1 (.int .i64 slot) ?_)
        | (refine eC M14 189 2 2 (.int .i64 gen) ?_)
        | (refine eS M14 2 192 1 (1 + a) (.int .i64 (wrap64 (slot + wrap64 (gen * 4294967296)))) (ctx (pc + 1) (r.set a (wrap64 (slot + wrap64 (gen * 4294967296)))) (.slice A51 l.length c51)) (hj := ctx_some _ _ _ _ ha) (hnew := ctx_setreg _ _ _ _ ha _) ?_; clear M14; intro w_ M15)
        | (refine eL M15 232 1 hu30 ?_)
        | (refine eR M15 30 6 3 (ctx (pc + 1) (r.set a (wrap64 (slot + wrap64 (gen * 4294967296)))) (.slice A51 l.length c51)) ?_; clear M15; intro w_ M16)
        | (refine eR M16 40 7 4 want0 ?_; clear M16; intro w_ M17))
    rw [show stepO l1 pc r l clk slot gen true 25 a b c' m = ⟨pc + 1, r.set a (wrap64 (slot + wrap64 (gen * 4294967296))), l, want0⟩ from by simp [stepO]]
    refine bodyPost_ret (results_cc rfl _ _ g6 g7 30 40 (ctx (pc + 1) (r.set a (wrap64 (slot + wrap64 (gen * 4294967296)))) (.slice A51 l.length c51)) want0 (0, 0) (0, 0) _ _ rfl (M17.out.at 3 rfl) hu30 rfl (by kernel_rfl) rfl (M17.out.at 4 rfl) hu40 rfl (by kernel_rfl)) rfl ⟨_, rfl, M17.out.own, M17.out.below⟩
  · clear q6
    go_wp2_with (first
        | (refine eS M12 28 52 1 17 (.slice A51 l.length c51) (ctx pc r (.slice A51 l.length c51)) ?_; clear M12; intro w_ M13)
        | (refine eC M13 54 1 0 (.int .i64 pc) ?_)
        | (refine eS M13 3 56 1 0 (.int .i64 (pc + 1)) (ctx (pc + 1) r (.slice A51 l.length c51)) ?_; clear M13; intro w_ M14)
        | (refine eC M14 58 5 0 (.int .i64 26) ?_)
        | (refine eC M14 197 2 0 (.int .u64 clk) ?_)
        | (refine eS M14 2 199 1 (1 + a) (.int .i64 (wrap64 clk)) (ctx (pc + 1) (r.set a (wrap64 clk)) (.slice A51 l.length c51)) (hj := ctx_some _ _ _ _ ha) (hnew := ctx_setreg _ _ _ _ ha _) ?_; clear M14; intro w_ M15)
        | (refine eL M15 232 1 hu30 ?_)
        | (refine eR M15 30 6 3 (ctx (pc + 1) (r.set a (wrap64 clk)) (.slice A51 l.length c51)) ?_; clear M15; intro w_ M16)
        | (refine eR M16 40 7 4 want0 ?_; clear M16; intro w_ M17))
    rw [show stepO l1 pc r l clk slot gen true 26 a b c' m = ⟨pc + 1, r.set a (wrap64 clk), l, want0⟩ from by simp [stepO]]
    refine bodyPost_ret (results_cc rfl _ _ g6 g7 30 40 (ctx (pc + 1) (r.set a (wrap64 clk)) (.slice A51 l.length c51)) want0 (0, 0) (0, 0) _ _ rfl (M17.out.at 3 rfl) hu30 rfl (by kernel_rfl) rfl (M17.out.at 4 rfl) hu40 rfl (by kernel_rfl)) rfl ⟨_, rfl, M17.out.own, M17.out.below⟩
  · clear q6
    go_wp2_with (first
        | (refine eS M12 28 52 1 17 (.slice A51 l.length c51) (ctx pc r (.slice A51 l.length c51)) ?_; clear M12; intro w_ M13)
        | (refine eC M13 54 1 0 (.int .i64 pc) ?_)
        | (refine eS M13 3 56 1 0 (.int .i64 (pc + 1)) (ctx (pc + 1) r (.slice A51 l.length c51)) ?_; clear M13; intro w_ M14)
        | (refine eC M14 58 5 0 (.int .i64 58) ?_)
        | (refine eC M14 203 1 17 (.slice A51 l.length c51) ?_)
        | (refine eS M14 28 204 6 17 (.slice A51 l.length c51) (ctx pc r (.slice A51 l.length c51)) ?_; clear M14; intro w_ M15))
    have y1 := ((Mem.drew M15.out).cell 5 rfl 4).trans (show _ = some (Value.int .i64 m) from rfl)
    have ra : World.rangeAt _ g10 0 (ctx pc r (.slice A51 l.length c51)).toList := (Mem.drew M15.out).range 6 rfl
    have rb : World.rangeAt _ g8 0 ([.int .i64 58, .int .i64 (a : Int), .int .i64 (b : Int), .int .i64 (c' : Int), .int .i64 m] : List Value) := (Mem.drew M15.out).range 5 rfl
    have th1 : World.there _ g6 0 18 := (Mem.drew M15.out).there 3 rfl
    have th2 : World.there _ g7 0 11 := (Mem.drew M15.out).there 4 rfl
    have na : g10 ≠ g6 := (M15.out.ne 3 6 (by decide) rfl rfl).symm
    have nb : g8 ≠ g6 := (M15.out.ne 3 5 (by decide) rfl rfl).symm
    have nd : g10 ≠ g7 := (M15.out.ne 4 6 (by decide) rfl rfl).symm
    have ne : g8 ≠ g7 := (M15.out.ne 4 5 (by decide) rfl rfl).symm
    have hi30 : (Try.prog.info? 30).map (·.size) = some (ctx pc r (.slice A51 l.length c51)).toList.length := by kernel_rfl
    have hi37 : (Try.prog.info? 37).map (·.size) = some ([.int .i64 58, .int .i64 (a : Int), .int .i64 (b : Int), .int .i64 (c' : Int), .int .i64 m] : List Value).length := by kernel_rfl
    refine wp_region_noPanic ?_
    refine wp_region_held_drew (S := fun w' => w'.rangeAt g10 0 (ctx pc r (.slice A51 l.length c51)).toList ∧ w'.cell? ⟨g8, 4, none⟩ = some (.int .i64 m) ∧ w'.there g6 0 18 ∧ w'.there g7 0 11 ∧ w'.rangeAt g8 0 ([.int .i64 58, .int .i64 (a : Int), .int .i64 (b : Int), .int .i64 (c' : Int), .int .i64 m] : List Value)) (by kernel_rfl) ⟨ra, y1, th1, th2, rb⟩ (fun hS => ?_)
    refine wpAnyH_take (i := 1) (oi := { dst := some 206, op := Op.fieldAddr 37 (Operand.tmp 8) 4, type := 0, pos := "step.go:97", after := #[{ on := 4, ground := Ground.gcOnly Departure.lateStores }], guard := none }) (v := Value.pointer (some ⟨g8, 4, none⟩)) rfl (by kernel_rfl) (by kernel_rfl) (by kernel_rfl) (fun _ _ _ h => h) (Or.inl ⟨by rfl, fun wq hw => ?_⟩) hS ?_
    · go_simp
    simp only [Act.put, List.setIfInBounds_toArray, List.set_cons_zero, List.set_cons_succ]
    refine wpAnyH_take (i := 2) (oi := { dst := some 207, op := Op.load 3 (Operand.tmp 206), type := 3, pos := "step.go:97", after := #[{ on := 1, ground := Ground.data }, { on := 4, ground := Ground.gcOnly Departure.lateStores }], guard := none }) (v := Value.int .i64 m) rfl (by kernel_rfl) (by kernel_rfl) (by kernel_rfl) (fun _ _ _ h => h) (Or.inl ⟨by rfl, fun wq hw => ?_⟩) hS ?_
    · have yq := hw.2.1; clear hw; go_simp
    simp only [Act.put, List.setIfInBounds_toArray, List.set_cons_zero, List.set_cons_succ]
    refine wpAnyH_take (i := 3) (oi := { dst := some 208, op := Op.build 40 #[(0, Operand.const (Value.int IntKind.i64 58)), (5, Operand.const (Value.int IntKind.i64 16)), (6, Operand.tmp 207)], type := 40, pos := "step.go:97", after := #[{ on := 2, ground := Ground.data }, { on := 4, ground := Ground.gcOnly Departure.lateStores }], guard := none }) (v := Value.agg (wantC 58 0 0 0 0 0 0 0 0 16 m)) rfl (by kernel_rfl) (by kernel_rfl) (by kernel_rfl) (fun _ _ _ h => h) (Or.inl ⟨by rfl, fun wq hw => ?_⟩) hS ?_
    · clear hw; first | (go_simp; done) | (go_simp; rfl)
    simp only [Act.put, List.setIfInBounds_toArray, List.set_cons_zero, List.set_cons_succ]
    refine wpAnyH_take (i := 0) (oi := { dst := some 205, op := Op.load 30 (Operand.tmp 10), type := 30, pos := "step.go:97", after := #[], guard := none }) (v := _) rfl (by kernel_rfl) (by kernel_rfl) (by kernel_rfl) (fun _ _ _ h => h) (yieldsIf_load_mid (by rfl) _ _ rfl _ _ rfl _ _ (fun wq hw => hw.1) hu30 rfl hi30) hS ?_
    simp only [Act.put, List.setIfInBounds_toArray, List.set_cons_zero, List.set_cons_succ]
    refine dSt (i := 4) (o := { dst := none, op := Op.store 30 (Operand.tmp 6) (Operand.tmp 205), type := 0, pos := "step.go:97", after := #[{ on := 0, ground := Ground.data }, { on := 0, ground := Ground.phase }, { on := 1, ground := Ground.textOnly Departure.lateStores }, { on := 2, ground := Ground.textOnly Departure.lateStores }, { on := 3, ground := Ground.textOnly Departure.lateStores }], guard := none }) 30 (.tmp 6) (.tmp 205) g6 0 (ctx pc r (.slice A51 l.length c51)) (hS.2.2.1) (⟨World.rangeAt_setCells_apart hS.1 _ _ _ (.inl na), (by rw [World.cell?_setCells_out _ _ _ _ _ (fun hb_ _ => absurd hb_ nb)]; exact hS.2.1), World.there_setCells hS.2.2.1 _ _ _, World.there_setCells hS.2.2.2.1 _ _ _, World.rangeAt_setCells_apart hS.2.2.2.2 _ _ _ (.inl nb)⟩) ?_
    clear hS
    intro hS
    refine dSt (i := 5) (o := { dst := none, op := Op.store 40 (Operand.tmp 7) (Operand.tmp 208), type := 0, pos := "step.go:97", after := #[{ on := 3, ground := Ground.data }, { on := 4, ground := Ground.chain }, { on := 0, ground := Ground.phase }, { on := 1, ground := Ground.phase }, { on := 2, ground := Ground.phase }, { on := 3, ground := Ground.phase }, { on := 4, ground := Ground.phase }], guard := none }) 40 (.tmp 7) (.tmp 208) g7 0 (wantC 58 0 0 0 0 0 0 0 0 16 m) (hS.2.2.2.1) (⟨World.rangeAt_setCells_apart hS.1 _ _ _ (.inl nd), (by rw [World.cell?_setCells_out _ _ _ _ _ (fun hb_ _ => absurd hb_ ne)]; exact hS.2.1), World.there_setCells hS.2.2.1 _ _ _, World.there_setCells hS.2.2.2.1 _ _ _, World.rangeAt_setCells_apart hS.2.2.2.2 _ _ _ (.inl ne)⟩) ?_
    clear hS
    intro hS
    refine wpAnyH_done (by kernel_rfl) ?_ _
    refine NoPanic.normal ?_
    clear hS ra rb y1 th1 th2 na nb nd ne hi30 hi37
    have M16 := Aside0.mk (Mem.cells (Mem.cells (Mem.drew M15.out) 3 rfl (ctx pc r (.slice A51 l.length c51)) rfl) 4 rfl (wantC 58 0 0 0 0 0 0 0 0 16 m) rfl)
    clear M15
    go_wp2_with fail
    rw [show stepO l1 pc r l clk slot gen true 58 a b c' m = ⟨pc, r, l, wantC 58 0 0 0 0 0 0 0 0 16 m⟩ from by simp [stepO]]
    refine bodyPost_ret (results_cc rfl _ _ g6 g7 30 40 (ctx pc r (.slice A51 l.length c51)) (wantC 58 0 0 0 0 0 0 0 0 16 m) (0, 0) (0, 0) _ _ rfl (M16.out.at 3 rfl) hu30 rfl (by kernel_rfl) rfl (M16.out.at 4 rfl) hu40 rfl (by kernel_rfl)) rfl ⟨_, rfl, M16.out.own, M16.out.below⟩
set_option maxHeartbeats 2000000 in
set_option maxRecDepth 100000 in
theorem p_asks (l0 : List Int) (l1 : List S75) (l2 : List S98) (A0 A1 A2 : Option Addr) (c0 c1 c2 : Nat) (pc : Int) (r : Regs) (A : Option Addr) (c : Nat) (l : List Int) (clk slot gen : Int) (w : World)
    (h0 : Kd.C (Kd.int .u32) w A0 l0.length l0) (k0 : l0.length ≤ c0) (h1 : Kd.C k75 w A1 l1.length l1) (k1 : l1.length ≤ c1) (h2 : Kd.C k98 w A2 l2.length l2) (k2 : l2.length ≤ c2) (hl : Kd.C (Kd.int .i64) w A l.length l) (kl : l.length ≤ c) (hlim : l.length < 17592186044416)
    (a b c' : Nat) (m : Int) (ha : a < 16) (hb : b < 16) (hc : c' < 16) (q1 : 0 ≤ pc) (q2 : pc < 9223372036854775807) (op v : Int) (o1 : (op == 1) = false) (o2 : (op == 2) = false) (o3 : (op == 3) = false) (o4 : (op == 4) = false) (o8 : (op == 8) = false) (o9 : (op == 9) = false) (o17 : (op == 17) = false) (o18 : (op == 18) = false) (o19 : (op == 19) = false) (o20 : (op == 20) = false) (o21 : (op == 21) = false) (o23 : (op == 23) = false) (o24 : (op == 24) = false) (o25 : (op == 25) = false) (o26 : (op == 26) = false) (o58 : (op == 58) = false) (hk : step_reckoned.f op (r.get b) (r.get c') = some (v, false)) (hn : step_next.f l0 l1 l2 pc r.r0 r.r1 r.r2 r.r3 r.r4 r.r5 r.r6 r.r7 r.r8 r.r9 r.r10 r.r11 r.r12 r.r13 r.r14 r.r15 l = some (op, (a : Int), (b : Int), (c' : Int), m, true)) :
    Calls Try.prog 11 #[.agg #[.slice A0 l0.length c0, .slice A1 l1.length c1, .slice A2 l2.length c2], .agg (ctx pc r (.slice A l.length c)), .agg #[.int .u64 clk, .int .i64 slot, .int .i64 gen]] w (Post w (pc + 1) r l (wantC op op (a : Int) (b : Int) (c' : Int) m (r.get a) (r.get b) (r.get c') 0 0)) := by
  have hu26 := Try.underlying26
  have hu30 := Try.underlying30
  have hu37 := Try.underlying37
  have hu40 := Try.underlying40
  have p1 : (0 : Int) ≤ (a : Int) := by omega
  have p2 : (a : Int) < 16 := by omega
  have p3 : (0 : Int) ≤ (b : Int) := by omega
  have p4 : (b : Int) < 16 := by omega
  have p5 : (0 : Int) ≤ (c' : Int) := by omega
  have p6 : (c' : Int) < 16 := by omega
  have HK := Aside0.mk hk
  clear hk
  have H0 := Aside0.mk h0
  clear h0
  have H1 := Aside0.mk h1
  clear h1
  have H2 := Aside0.mk h2
  clear h2
  have HL := Aside0.mk hl
  clear hl
  have HN := Aside0.mk hn
  clear hn
  have M0 := Aside0.mk (Mem.start [3] w)
  go_enter Try.func11, Try.ntmps11
  go_wp2_with (first
    | (refine eB M0 3 #[.slice A0 l0.length c0, .slice A1 l1.length c1, .slice A2 l2.length c2] 26 ?_; clear M0; intro g3 w3 M1)
    | (refine eB M1 4 (ctx pc r (.slice A l.length c)) 30 ?_; clear M1; intro g4 w4 M2)
    | (refine eB M2 5 #[.int .u64 clk, .int .i64 slot, .int .i64 gen] 35 ?_; clear M2; intro g5 w5 M3)
    | (refine eB M3 6 (ctx 0 zeroR (.slice none 0 0)) 30 ?_; clear M3; intro g6 w6 M4)
    | (refine eB M4 7 want0 40 ?_; clear M4; intro g7 w7 M5)
    | (refine eL M5 18 0 hu26 ?_)
    | (refine eL M5 19 1 hu30 ?_))
  refine (step_next.calls A0 c0 l0 _ c1 l1 A2 c2 l2 pc r.r0 r.r1 r.r2 r.r3 r.r4 r.r5 r.r6 r.r7 r.r8 r.r9 r.r10 r.r11 r.r12 r.r13 r.r14 r.r15 A c l _ _ _ _ _ _ _ (Kd.C_below H0.out M5.out.below) k0 (Kd.C_below H1.out M5.out.below) k1 (Kd.C_below H2.out M5.out.below) k2 (Kd.C_below HL.out M5.out.below) kl HN.out).mono ?_
  rintro e W20 ⟨rfl, hb⟩
  have M6 := Aside0.mk (Mem.call M5.out hb)
  clear M5 hb
  go_wp2_with (first
    | (refine eB M6 8 (instC 0 0 0 0 0) 37 ?_; clear M6; intro g8 w8 M7)
    | (refine eR M7 37 8 5 (instC op (a : Int) (b : Int) (c' : Int) m) ?_; clear M7; intro w_ M8)
    | (refine eL M8 29 1 hu30 ?_)
    | (refine eB M8 10 (ctx 0 zeroR (.slice none 0 0)) 30 ?_; clear M8; intro g10 w10 M9)
    | (refine eR M9 30 10 6 (ctx pc r (.slice A l.length c)) ?_; clear M9; intro w_ M10))
  have y1 := (M10.out.cell 5 rfl 1).trans (show _ = some (Value.int .i64 (a : Int)) from rfl)
  have z1 := (M10.out.cell 1 rfl (1 + a)).trans (ctx_reg pc r (.slice A l.length c) a ha)
  have y2 := (M10.out.cell 5 rfl 2).trans (show _ = some (Value.int .i64 (b : Int)) from rfl)
  have z2 := (M10.out.cell 1 rfl (1 + b)).trans (ctx_reg pc r (.slice A l.length c) b hb)
  have y3 := (M10.out.cell 5 rfl 3).trans (show _ = some (Value.int .i64 (c' : Int)) from rfl)
  have z3 := (M10.out.cell 1 rfl (1 + c')).trans (ctx_reg pc r (.slice A l.length c) c' hc)
  go_quiet (fail)
  clear y1 y2 y3 z1 z2 z3
  have M11 := Aside0.mk (Mem.drewN M10.out nq)
  clear M10
  go_wp2_with (first
    | (refine eC M11 46 5 1 (.int .i64 (a : Int)) ?_)
    | (refine eC M11 50 1 17 (.slice A l.length c) ?_))
  refine (Hclone.clone_calls A c l _ (Kd.C_below HL.out M11.out.below) kl hlim).mono ?_
  rintro e W51 ⟨v51, rfl, hR, hb⟩
  obtain ⟨A51, c51, rfl⟩ := Kd.R_slice hR
  have M12 := Aside0.mk (Mem.row M11.out hb hR)
  clear M11 hR hb
  go_wp2_with (first
    | (refine eS M12 28 52 1 17 (.slice A51 l.length c51) (ctx pc r (.slice A51 l.length c51)) ?_; clear M12; intro w_ M13)
    | (refine eC M13 54 1 0 (.int .i64 pc) ?_)
    | (refine eS M13 3 56 1 0 (.int .i64 (pc + 1)) (ctx (pc + 1) r (.slice A51 l.length c51)) ?_; clear M13; intro w_ M14)
    | (refine eC M14 58 5 0 (.int .i64 op) ?_)
    | (refine eC M14 61 5 0 (.int .i64 op) ?_))
  refine (step_reckoned.calls op (r.get b) (r.get c') _ _ _ HK.out).mono ?_
  rintro e W64 ⟨rfl, hb⟩
  have M15 := Aside0.mk (Mem.drawn M14.out hb)
  clear M14 hb
  go_wp2_with fail
  have y1 := ((Mem.drew M15.out).cell 5 rfl 0).trans (show _ = some (Value.int .i64 op) from rfl)
  have ra : World.rangeAt _ g4 0 (ctx (pc + 1) r (.slice A51 l.length c51)).toList := (Mem.drew M15.out).range 1 rfl
  have rb : World.rangeAt _ g8 0 ([.int .i64 op, .int .i64 (a : Int), .int .i64 (b : Int), .int .i64 (c' : Int), .int .i64 m] : List Value) := (Mem.drew M15.out).range 5 rfl
  have th1 : World.there _ g6 0 18 := (Mem.drew M15.out).there 3 rfl
  have th2 : World.there _ g7 0 11 := (Mem.drew M15.out).there 4 rfl
  have na : g4 ≠ g6 := M15.out.ne 1 3 (by decide) rfl rfl
  have nb : g8 ≠ g6 := (M15.out.ne 3 5 (by decide) rfl rfl).symm
  have nd : g4 ≠ g7 := M15.out.ne 1 4 (by decide) rfl rfl
  have ne : g8 ≠ g7 := (M15.out.ne 4 5 (by decide) rfl rfl).symm
  have hi30 : (Try.prog.info? 30).map (·.size) = some (ctx (pc + 1) r (.slice A51 l.length c51)).toList.length := by kernel_rfl
  have hi37 : (Try.prog.info? 37).map (·.size) = some ([.int .i64 op, .int .i64 (a : Int), .int .i64 (b : Int), .int .i64 (c' : Int), .int .i64 m] : List Value).length := by kernel_rfl
  refine wp_region_noPanic ?_
  refine wp_region_held_drew (S := fun w' => w'.rangeAt g4 0 (ctx (pc + 1) r (.slice A51 l.length c51)).toList ∧ w'.cell? ⟨g8, 0, none⟩ = some (.int .i64 op) ∧ w'.there g6 0 18 ∧ w'.there g7 0 11 ∧ w'.rangeAt g8 0 ([.int .i64 op, .int .i64 (a : Int), .int .i64 (b : Int), .int .i64 (c' : Int), .int .i64 m] : List Value)) (by kernel_rfl) ⟨ra, y1, th1, th2, rb⟩ (fun hS => ?_)
  refine wpAnyH_take (i := 1) (oi := { dst := some 70, op := Op.fieldAddr 37 (Operand.tmp 8) 0, type := 0, pos := "step.go:108", after := #[{ on := 8, ground := Ground.gcOnly Departure.lateStores }], guard := none }) (v := Value.pointer (some ⟨g8, 0, none⟩)) rfl (by kernel_rfl) (by kernel_rfl) (by kernel_rfl) (fun _ _ _ h => h) (Or.inl ⟨by rfl, fun wq hw => ?_⟩) hS ?_
  · go_simp
  simp only [Act.put, List.setIfInBounds_toArray, List.set_cons_zero, List.set_cons_succ]
  refine wpAnyH_take (i := 2) (oi := { dst := some 71, op := Op.load 3 (Operand.tmp 70), type := 3, pos := "step.go:108", after := #[{ on := 1, ground := Ground.data }, { on := 8, ground := Ground.gcOnly Departure.lateStores }], guard := none }) (v := Value.int .i64 op) rfl (by kernel_rfl) (by kernel_rfl) (by kernel_rfl) (fun _ _ _ h => h) (Or.inl ⟨by rfl, fun wq hw => ?_⟩) hS ?_
  · have yq := hw.2.1; clear hw; go_simp
  simp only [Act.put, List.setIfInBounds_toArray, List.set_cons_zero, List.set_cons_succ]
  refine wpAnyH_take (i := 3) (oi := { dst := some 72, op := Op.load 37 (Operand.tmp 8), type := 37, pos := "step.go:108", after := #[{ on := 8, ground := Ground.gcOnly Departure.lateStores }], guard := none }) (v := _) rfl (by kernel_rfl) (by kernel_rfl) (by kernel_rfl) (fun _ _ _ h => h) (yieldsIf_load_mid (by rfl) _ _ rfl _ _ rfl _ _ (fun wq hw => hw.2.2.2.2) hu37 rfl hi37) hS ?_
  simp only [Act.put, List.setIfInBounds_toArray, List.set_cons_zero, List.set_cons_succ]
  refine wpAnyH_take (i := 4) (oi := { dst := some 73, op := Op.move (Operand.tmp 11), type := 2, pos := "step.go:108", after := #[{ on := 8, ground := Ground.gcOnly Departure.lateStores }], guard := none }) (v := Value.int .i64 (r.get a)) rfl (by kernel_rfl) (by kernel_rfl) (by kernel_rfl) (fun _ _ _ h => h) (Or.inl ⟨by rfl, fun wq hw => ?_⟩) hS ?_
  · clear hw; go_simp
  simp only [Act.put, List.setIfInBounds_toArray, List.set_cons_zero, List.set_cons_succ]
  refine wpAnyH_take (i := 5) (oi := { dst := some 74, op := Op.move (Operand.tmp 12), type := 2, pos := "step.go:108", after := #[{ on := 8, ground := Ground.gcOnly Departure.lateStores }], guard := none }) (v := Value.int .i64 (r.get b)) rfl (by kernel_rfl) (by kernel_rfl) (by kernel_rfl) (fun _ _ _ h => h) (Or.inl ⟨by rfl, fun wq hw => ?_⟩) hS ?_
  · clear hw; go_simp
  simp only [Act.put, List.setIfInBounds_toArray, List.set_cons_zero, List.set_cons_succ]
  refine wpAnyH_take (i := 6) (oi := { dst := some 75, op := Op.move (Operand.tmp 13), type := 2, pos := "step.go:108", after := #[{ on := 8, ground := Ground.gcOnly Departure.lateStores }], guard := none }) (v := Value.int .i64 (r.get c')) rfl (by kernel_rfl) (by kernel_rfl) (by kernel_rfl) (fun _ _ _ h => h) (Or.inl ⟨by rfl, fun wq hw => ?_⟩) hS ?_
  · clear hw; go_simp
  simp only [Act.put, List.setIfInBounds_toArray, List.set_cons_zero, List.set_cons_succ]
  refine wpAnyH_take (i := 7) (oi := { dst := some 76, op := Op.build 40 #[(0, Operand.tmp 71), (1, Operand.tmp 72), (2, Operand.tmp 73), (3, Operand.tmp 74), (4, Operand.tmp 75)], type := 40, pos := "step.go:108", after := #[{ on := 2, ground := Ground.data }, { on := 3, ground := Ground.data }, { on := 4, ground := Ground.data }, { on := 5, ground := Ground.data }, { on := 6, ground := Ground.data }, { on := 8, ground := Ground.gcOnly Departure.lateStores }], guard := none }) (v := Value.agg (wantC op op (a : Int) (b : Int) (c' : Int) m (r.get a) (r.get b) (r.get c') 0 0)) rfl (by kernel_rfl) (by kernel_rfl) (by kernel_rfl) (fun _ _ _ h => h) (Or.inl ⟨by rfl, fun wq hw => ?_⟩) hS ?_
  · clear hw; first | (go_simp; done) | (go_simp; rfl)
  simp only [Act.put, List.setIfInBounds_toArray, List.set_cons_zero, List.set_cons_succ]
  refine wpAnyH_take (i := 0) (oi := { dst := some 69, op := Op.load 30 (Operand.tmp 4), type := 30, pos := "step.go:108", after := #[], guard := none }) (v := _) rfl (by kernel_rfl) (by kernel_rfl) (by kernel_rfl) (fun _ _ _ h => h) (yieldsIf_load_mid (by rfl) _ _ rfl _ _ rfl _ _ (fun wq hw => hw.1) hu30 rfl hi30) hS ?_
  simp only [Act.put, List.setIfInBounds_toArray, List.set_cons_zero, List.set_cons_succ]
  refine dSt (i := 8) (o := { dst := none, op := Op.store 30 (Operand.tmp 6) (Operand.tmp 69), type := 0, pos := "step.go:108", after := #[{ on := 0, ground := Ground.data }, { on := 0, ground := Ground.phase }, { on := 1, ground := Ground.textOnly Departure.lateStores }, { on := 2, ground := Ground.textOnly Departure.lateStores }, { on := 3, ground := Ground.textOnly Departure.lateStores }, { on := 4, ground := Ground.textOnly Departure.lateStores }, { on := 5, ground := Ground.textOnly Departure.lateStores }, { on := 6, ground := Ground.textOnly Departure.lateStores }, { on := 7, ground := Ground.textOnly Departure.lateStores }], guard := none }) 30 (.tmp 6) (.tmp 69) g6 0 (ctx (pc + 1) r (.slice A51 l.length c51)) (hS.2.2.1) (⟨World.rangeAt_setCells_apart hS.1 _ _ _ (.inl na), (by rw [World.cell?_setCells_out _ _ _ _ _ (fun hb_ _ => absurd hb_ nb)]; exact hS.2.1), World.there_setCells hS.2.2.1 _ _ _, World.there_setCells hS.2.2.2.1 _ _ _, World.rangeAt_setCells_apart hS.2.2.2.2 _ _ _ (.inl nb)⟩) ?_
  clear hS
  intro hS
  refine dSt (i := 9) (o := { dst := none, op := Op.store 40 (Operand.tmp 7) (Operand.tmp 76), type := 0, pos := "step.go:108", after := #[{ on := 7, ground := Ground.data }, { on := 8, ground := Ground.chain }, { on := 0, ground := Ground.phase }, { on := 1, ground := Ground.phase }, { on := 2, ground := Ground.phase }, { on := 3, ground := Ground.phase }, { on := 4, ground := Ground.phase }, { on := 5, ground := Ground.phase }, { on := 6, ground := Ground.phase }, { on := 7, ground := Ground.phase }, { on := 8, ground := Ground.phase }], guard := none }) 40 (.tmp 7) (.tmp 76) g7 0 (wantC op op (a : Int) (b : Int) (c' : Int) m (r.get a) (r.get b) (r.get c') 0 0) (hS.2.2.2.1) (⟨World.rangeAt_setCells_apart hS.1 _ _ _ (.inl nd), (by rw [World.cell?_setCells_out _ _ _ _ _ (fun hb_ _ => absurd hb_ ne)]; exact hS.2.1), World.there_setCells hS.2.2.1 _ _ _, World.there_setCells hS.2.2.2.1 _ _ _, World.rangeAt_setCells_apart hS.2.2.2.2 _ _ _ (.inl ne)⟩) ?_
  clear hS
  intro hS
  refine wpAnyH_done (by kernel_rfl) ?_ _
  refine NoPanic.normal ?_
  clear hS ra rb y1 th1 th2 na nb nd ne hi30 hi37
  have M16 := Aside0.mk (Mem.cells (Mem.cells (Mem.drew M15.out) 3 rfl (ctx (pc + 1) r (.slice A51 l.length c51)) rfl) 4 rfl (wantC op op (a : Int) (b : Int) (c' : Int) m (r.get a) (r.get b) (r.get c') 0 0) rfl)
  clear M15
  go_wp2_with fail
  refine bodyPost_ret (results_cc rfl _ _ g6 g7 30 40 (ctx (pc + 1) r (.slice A51 l.length c51)) (wantC op op (a : Int) (b : Int) (c' : Int) m (r.get a) (r.get b) (r.get c') 0 0) (0, 0) (0, 0) _ _ rfl (M16.out.at 3 rfl) hu30 rfl (by kernel_rfl) rfl (M16.out.at 4 rfl) hu40 rfl (by kernel_rfl)) rfl ⟨_, rfl, M16.out.own, M16.out.below⟩
end Go.Proofs.Ythjfmlehkcccfaa.Hs2
end
