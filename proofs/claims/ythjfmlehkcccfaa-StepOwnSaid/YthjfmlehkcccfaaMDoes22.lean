import Derived.Test.YthjfmlehkcccfaaMDoes19
import Derived.Test.YthjfmlehkcccfaaMDoes12
import Derived.Test.YthjfmlehkcccfaaMDoes20
import Derived.Test.YthjfmlehkcccfaaMDoes21
import Derived.Deep.QuietTactic
import Derived.BigQuiet
import Derived.Deep.MidRow
import Derived.Lib.Hide
import Derived.Outline
section
/-
  StepDoes, walked.
-/
set_option linter.unusedVariables false
set_option linter.unusedSimpArgs false
namespace Go.Proofs.Ythjfmlehkcccfaa.Hlaw3
open Go.RowKit Go.Proofs.YthjfmlehkcccfaaW.PrintWords Go.Proofs.YthjfmlehkcccfaaW.PrintLast Go.Proofs.YthjfmlehkcccfaaW.PrintMore GA Hctx Hsmall Qnext Qstep Hstep Hlives Hsame Heq

def IsWant (o : Out) : Prop := ∃ q1 q2 q3 q4 q5 q6 q7 q8 q9 q10 q11 : Int, o.want = wantC q1 q2 q3 q4 q5 q6 q7 q8 q9 q10 q11
def IsShort (o : Out) : Prop := o.calls.length < 17592186044416
theorem isWant_ite {c : Prop} [Decidable c] {x y : Out} (hx : IsWant x) (hy : IsWant y) : IsWant (if c then x else y) := by
  split <;> assumption
theorem isShort_ite {c : Prop} [Decidable c] {x y : Out} (hx : c → IsShort x) (hy : ¬ c → IsShort y) : IsShort (if c then x else y) := by
  split
  · exact hx ‹_›
  · exact hy ‹_›
theorem stepO_want (fl : List S75) (pc : Int) (r : Regs) (l : List Int) (clk slot gen : Int) (ok : Bool) (op : Int) (a b c : Nat) (m : Int) : ∃ q1 q2 q3 q4 q5 q6 q7 q8 q9 q10 q11 : Int, (stepO fl pc r l clk slot gen ok op a b c m).want = wantC q1 q2 q3 q4 q5 q6 q7 q8 q9 q10 q11 := by
  show IsWant (stepO fl pc r l clk slot gen ok op a b c m)
  unfold stepO
  dsimp only
  repeat' first
    | (with_reducible refine isWant_ite ?_ ?_)
    | exact ⟨_, _, _, _, _, _, _, _, _, _, _, rfl⟩
    | split
theorem stepO_calls (fl : List S75) (pc : Int) (r : Regs) (l : List Int) (clk slot gen : Int) (ok : Bool) (op : Int) (a b c : Nat) (m : Int) (hlim : l.length < 17592186044416) : (stepO fl pc r l clk slot gen ok op a b c m).calls.length < 17592186044416 := by
  show IsShort (stepO fl pc r l clk slot gen ok op a b c m)
  unfold stepO
  dsimp only
  repeat' first
    | (with_reducible refine isShort_ite (fun _ => ?_) (fun _ => ?_))
    | (with_reducible exact hlim)
    | split
  all_goals unfold IsShort
  all_goals first
    | exact hlim
    | (simp only [List.length_append, List.length_cons, List.length_nil]; omega)
    | (simp only [List.length_take]; omega)
theorem step_both (l0 : List Int) (l1 : List S75) (l2 : List S98) (pc : Int) (r : Regs) (l : List Int) (clk slot gen : Int) (hw : ∀ x ∈ l0, 0 ≤ x ∧ x < 4294967296) (hlim : l.length < 17592186044416) :
    ∃ (pc' : Int) (r' : Regs) (l' : List Int) (q1 q2 q3 q4 q5 q6 q7 q8 q9 q10 q11 : Int), l'.length < 17592186044416 ∧ (∀ (A0 A1 A2 : Option Addr) (c0 c1 c2 : Nat) (A : Option Addr) (c : Nat) (w : World), Kd.C (Kd.int .u32) w A0 l0.length l0 → l0.length ≤ c0 → Kd.C k75 w A1 l1.length l1 → l1.length ≤ c1 → Kd.C k98 w A2 l2.length l2 → l2.length ≤ c2 → Kd.C (Kd.int .i64) w A l.length l → l.length ≤ c → Calls Try.prog 11 #[.agg (#[.slice A0 l0.length c0, .slice A1 l1.length c1, .slice A2 l2.length c2] : Array Value), .agg (ctx pc r (.slice A l.length c)), .agg #[.int .u64 clk, .int .i64 slot, .int .i64 gen]] w (Post w pc' r' l' (wantC q1 q2 q3 q4 q5 q6 q7 q8 q9 q10 q11))) ∧ (∀ (A0 A1 A2 : Option Addr) (c0 c1 c2 : Nat) (A : Option Addr) (c : Nat) (w : World), Kd.C (Kd.int .u32) w A0 l0.length l0 → l0.length ≤ c0 → Kd.C k75 w A1 l1.length l1 → l1.length ≤ c1 → Kd.C k98 w A2 l2.length l2 → l2.length ≤ c2 → Kd.C (Kd.int .i64) w A l.length l → l.length ≤ c → Calls Try.prog 13 #[.agg (#[.slice A0 l0.length c0, .slice A1 l1.length c1, .slice A2 l2.length c2] : Array Value), .agg (ctx pc r (.slice A l.length c)), .agg #[.int .u64 clk, .int .i64 slot, .int .i64 gen]] w (Post w pc' r' l' (wantC q1 q2 q3 q4 q5 q6 q7 q8 q9 q10 q11))) := by
  obtain ⟨op, a, b, c', m, ok, n1, n2, ha, hb, hc, hz, hy⟩ := next_both l0 l1 l2 pc r l hw
  obtain ⟨q1, q2, q3, q4, q5, q6, q7, q8, q9, q10, q11, hq⟩ := stepO_want l1 pc r l clk slot gen ok op a b c' m
  refine ⟨(stepO l1 pc r l clk slot gen ok op a b c' m).pc, (stepO l1 pc r l clk slot gen ok op a b c' m).r, (stepO l1 pc r l clk slot gen ok op a b c' m).calls, q1, q2, q3, q4, q5, q6, q7, q8, q9, q10, q11, stepO_calls l1 pc r l clk slot gen ok op a b c' m hlim, ?_, ?_⟩
  · intro A0 A1 A2 c0 c1 c2 A c w h0 k0 h1 k1 h2 k2 hl kl
    rw [← hq]
    exact p_step l0 l1 l2 A0 A1 A2 c0 c1 c2 pc r A c l clk slot gen w h0 k0 h1 k1 h2 k2 hl kl hlim op a b c' m ok n1 ha hb hc hz hy
  · intro A0 A1 A2 c0 c1 c2 A c w h0 k0 h1 k1 h2 k2 hl kl
    rw [← hq]
    exact r_step l0 l1 l2 A0 A1 A2 c0 c1 c2 pc r A c l clk slot gen w h0 k0 h1 k1 h2 k2 hl kl hlim op a b c' m ok n2 ha hb hc hz hy

set_option maxHeartbeats 2000000 in
set_option maxRecDepth 100000 in
theorem law_does (l0 : List Int) (l1 : List S75) (l2 : List S98) (A0 A1 A2 : Option Addr) (c0 c1 c2 : Nat) (pc : Int) (r : Regs) (A : Option Addr) (c : Nat) (l : List Int) (clk slot gen : Int) (w : World)
    (h0 : Kd.C (Kd.int .u32) w A0 l0.length l0) (k0 : l0.length ≤ c0) (h1 : Kd.C k75 w A1 l1.length l1) (k1 : l1.length ≤ c1) (h2 : Kd.C k98 w A2 l2.length l2) (k2 : l2.length ≤ c2) (hl : Kd.C (Kd.int .i64) w A l.length l) (kl : l.length ≤ c) (hlim : l.length < 17592186044416) (hw : ∀ x ∈ l0, 0 ≤ x ∧ x < 4294967296) :
    Calls Try.prog 3 #[.agg (#[.slice A0 l0.length c0, .slice A1 l1.length c1, .slice A2 l2.length c2] : Array Value), .agg (ctx pc r (.slice A l.length c)), .agg #[.int .u64 clk, .int .i64 slot, .int .i64 gen]] w fun e w' => e = .returned (.bool true) ∧ Below w.heap.size w w' := by
  obtain ⟨pc', r', l', q1, q2, q3, q4, q5, q6, q7, q8, q9, q10, q11, hlim', c11, c13⟩ := step_both l0 l1 l2 pc r l clk slot gen hw hlim
  have C11 := Lib.hid c11
  have C13 := Lib.hid c13
  clear c11 c13 hw
  have hg := Try.eqGuardType40
  have hq : ∀ W, (binOp .eql 40 (.agg (wantC q1 q2 q3 q4 q5 q6 q7 q8 q9 q10 q11)) (.agg (wantC q1 q2 q3 q4 q5 q6 q7 q8 q9 q10 q11))).run Try.prog W = .ok (.bool true) W := fun W => eq_want W q1 q2 q3 q4 q5 q6 q7 q8 q9 q10 q11
  have hu26 := Try.underlying26
  have hu30 := Try.underlying30
  have hu35 := Try.underlying35
  have hu40 := Try.underlying40
  have H0 := Aside0.mk h0
  clear h0
  have H1 := Aside0.mk h1
  clear h1
  have H2 := Aside0.mk h2
  clear h2
  have HL := Aside0.mk hl
  clear hl
  have M0 := Aside0.mk (Mem.start [3] w)
  go_enter Try.func3, Try.ntmps3
  go_wp2_with (first
    | (refine eB M0 3 (#[.slice A0 l0.length c0, .slice A1 l1.length c1, .slice A2 l2.length c2] : Array Value) 26 ?_; clear M0; intro g3 w3 M1)
    | (refine eB M1 4 (ctx pc r (.slice A l.length c)) 30 ?_; clear M1; intro g4 w4 M2)
    | (refine eB M2 5 #[.int .u64 clk, .int .i64 slot, .int .i64 gen] 35 ?_; clear M2; intro g5 w5 M3))
  refine dJoin (σ := (Nat) × (Nat) × (Option Addr) × (Nat) × (Option Addr) × (Nat)) (fun s => [(7, .pointer (some ⟨s.1, 0, none⟩)), (8, .pointer (some ⟨s.2.1, 0, none⟩)), (11, .tuple #[.agg (ctx pc' r' (.slice s.2.2.2.2.1 l'.length s.2.2.2.2.2)), .agg (wantC q1 q2 q3 q4 q5 q6 q7 q8 q9 q10 q11)]), (12, .agg (#[.slice A0 l0.length c0, .slice A1 l1.length c1, .slice A2 l2.length c2] : Array Value)), (13, .agg (ctx pc r (.slice A l.length c))), (14, .agg (ctx pc r (.slice s.2.2.1 l.length s.2.2.2.1))), (15, .agg #[.int .u64 clk, .int .i64 slot, .int .i64 gen]), (16, .tuple #[.agg (ctx pc' r' (.slice s.2.2.2.2.1 l'.length s.2.2.2.2.2)), .agg (wantC q1 q2 q3 q4 q5 q6 q7 q8 q9 q10 q11)]), (17, .agg (ctx pc' r' (.slice s.2.2.2.2.1 l'.length s.2.2.2.2.2))), (18, .agg (wantC q1 q2 q3 q4 q5 q6 q7 q8 q9 q10 q11))]) (fun s w' => Aside0 (Mem [3] w w' [(g3, (#[.slice A0 l0.length c0, .slice A1 l1.length c1, .slice A2 l2.length c2] : Array Value), 26), (g4, (ctx pc r (.slice A l.length c)), 30), (g5, #[.int .u64 clk, .int .i64 slot, .int .i64 gen], 35), (s.1, (ctx pc' r' (.slice s.2.2.2.2.1 l'.length s.2.2.2.2.2)), 30), (s.2.1, (wantC q1 q2 q3 q4 q5 q6 q7 q8 q9 q10 q11), 40)] [⟨Kd.int .i64, 3, .slice s.2.2.2.2.1 l'.length s.2.2.2.2.2, l'⟩, ⟨Kd.int .i64, 3, .slice s.2.2.1 l.length s.2.2.2.1, l⟩])) ?_ (fun hK => ?_)
  rotate_left
  · simp only [putAll, Act.put, List.setIfInBounds_toArray, List.set_cons_zero, List.set_cons_succ] at hK
    refine dStart [10, 11] [] M3 (fun w' M => ?_)
    clear M3
    have M4 := M
    clear M
    refine dL M4 0 12 0 hu26 ?_
    simp only [Act.put, List.setIfInBounds_toArray, List.set_cons_zero, List.set_cons_succ]
    refine dL M4 1 13 1 hu30 ?_
    simp only [Act.put, List.setIfInBounds_toArray, List.set_cons_zero, List.set_cons_succ]
    refine dL M4 3 15 2 hu35 ?_
    simp only [Act.put, List.setIfInBounds_toArray, List.set_cons_zero, List.set_cons_succ]
    refine dR [2, 8, 9] ?_
    refine qK 2 14 Try.func12 #[.agg (ctx pc r (.slice A l.length c))] ?_ ?_
    · refine (twin_calls pc r A c l _ (Kd.C_below HL.out M4.out.below) kl hlim).mono ?_
      rintro e W14 ⟨v14, rfl, hR, hb⟩
      obtain ⟨A14, c14, rfl⟩ := Kd.R_slice hR
      have M5 := Aside0.mk (Mem.row M4.out hb hR)
      clear M4 hb hR
      refine ⟨_, rfl, M5.out.held (Cells.nil _) rfl, ?_⟩
      simp only [Act.put, List.setIfInBounds_toArray, List.set_cons_zero, List.set_cons_succ]
      refine dR [4, 8, 9] ?_
      refine qK 4 16 Try.func11 #[.agg (#[.slice A0 l0.length c0, .slice A1 l1.length c1, .slice A2 l2.length c2] : Array Value), .agg (ctx pc r (.slice A14 l.length c14)), .agg #[.int .u64 clk, .int .i64 slot, .int .i64 gen]] ?_ ?_
      · refine (C11.out A0 A1 A2 c0 c1 c2 A14 c14 _ (Kd.C_below H0.out M5.out.below) k0 (Kd.C_below H1.out M5.out.below) k1 (Kd.C_below H2.out M5.out.below) k2 (Kd.R_reads' M5.out.own).2.2 (Kd.R_reads' M5.out.own).2.1).mono ?_
        rintro e W16 ⟨v16, rfl, hR, hb⟩
        obtain ⟨A16, c16, rfl⟩ := Kd.R_slice hR
        have M6 := Aside0.mk (Mem.row M5.out hb hR)
        clear M5 hb hR
        refine ⟨_, rfl, M6.out.held (Cells.nil _) rfl, ?_⟩
        simp only [Act.put, List.setIfInBounds_toArray, List.set_cons_zero, List.set_cons_succ]
        refine dP 5 11 (.tuple #[.agg (ctx pc' r' (.slice A16 l'.length c16)), .agg (wantC q1 q2 q3 q4 q5 q6 q7 q8 q9 q10 q11)]) ?_
        simp only [Act.put, List.setIfInBounds_toArray, List.set_cons_zero, List.set_cons_succ]
        refine dP 6 17 (.agg (ctx pc' r' (.slice A16 l'.length c16))) ?_
        simp only [Act.put, List.setIfInBounds_toArray, List.set_cons_zero, List.set_cons_succ]
        refine dP 7 18 (.agg (wantC q1 q2 q3 q4 q5 q6 q7 q8 q9 q10 q11)) ?_
        simp only [Act.put, List.setIfInBounds_toArray, List.set_cons_zero, List.set_cons_succ]
        refine dR [8, 9] ?_
        refine qA M6 8 7 30 (ctx 0 zeroR (.slice none 0 0)) ?_ ?_
        · clear M6
          intro g7 w7 M7
          simp only [Act.put, List.setIfInBounds_toArray, List.set_cons_zero, List.set_cons_succ]
          refine dR [9] ?_
          refine qA M7 9 8 40 want0 ?_ ?_
          · clear M7
            intro g8 w8 M8
            simp only [Act.put, List.setIfInBounds_toArray, List.set_cons_zero, List.set_cons_succ]
            refine dR [10] ?_
            refine qS M8 10 30 7 3 (ctx pc' r' (.slice A16 l'.length c16)) ?_ ?_
            · clear M8
              intro w_ M9
              refine dR [11] ?_
              refine qS M9 11 40 8 4 (wantC q1 q2 q3 q4 q5 q6 q7 q8 q9 q10 q11) ?_ ?_
              · clear M9
                intro w_ M10
                refine dDone ?_
                exact hK (g7, g8, A14, c14, A16, c16) _ M10
              exact AllReadyL.nil
            exact AllReadyL.nil
          exact AllReadyL.nil
        refine qA M6 9 8 40 want0 ?_ ?_
        · clear M6
          intro g8 w8 M7
          simp only [Act.put, List.setIfInBounds_toArray, List.set_cons_zero, List.set_cons_succ]
          refine dR [8] ?_
          refine qA M7 8 7 30 (ctx 0 zeroR (.slice none 0 0)) ?_ ?_
          · clear M7
            intro g7 w7 M8
            simp only [Act.put, List.setIfInBounds_toArray, List.set_cons_zero, List.set_cons_succ]
            refine dR [10] ?_
            refine qS M8 10 30 7 4 (ctx pc' r' (.slice A16 l'.length c16)) ?_ ?_
            · clear M8
              intro w_ M9
              refine dR [11] ?_
              refine qS M9 11 40 8 3 (wantC q1 q2 q3 q4 q5 q6 q7 q8 q9 q10 q11) ?_ ?_
              · clear M9
                intro w_ M10
                refine dDone ?_
                exact hK (g7, g8, A14, c14, A16, c16) _ (Aside0.mk (Mem.perm M10.out (List.Perm.cons _ (List.Perm.cons _ (List.Perm.cons _ (List.Perm.swap _ _ _))))))
              exact AllReadyL.nil
            exact AllReadyL.nil
          exact AllReadyL.nil
        exact AllReadyL.nil
      refine qA M5 8 7 30 (ctx 0 zeroR (.slice none 0 0)) ?_ ?_
      · clear M5
        intro g7 w7 M6
        simp only [Act.put, List.setIfInBounds_toArray, List.set_cons_zero, List.set_cons_succ]
        refine dR [4, 9] ?_
        refine qK 4 16 Try.func11 #[.agg (#[.slice A0 l0.length c0, .slice A1 l1.length c1, .slice A2 l2.length c2] : Array Value), .agg (ctx pc r (.slice A14 l.length c14)), .agg #[.int .u64 clk, .int .i64 slot, .int .i64 gen]] ?_ ?_
        · refine (C11.out A0 A1 A2 c0 c1 c2 A14 c14 _ (Kd.C_below H0.out M6.out.below) k0 (Kd.C_below H1.out M6.out.below) k1 (Kd.C_below H2.out M6.out.below) k2 (Kd.R_reads' M6.out.own).2.2 (Kd.R_reads' M6.out.own).2.1).mono ?_
          rintro e W16 ⟨v16, rfl, hR, hb⟩
          obtain ⟨A16, c16, rfl⟩ := Kd.R_slice hR
          have M7 := Aside0.mk (Mem.row M6.out hb hR)
          clear M6 hb hR
          refine ⟨_, rfl, M7.out.held (Cells.nil _) rfl, ?_⟩
          simp only [Act.put, List.setIfInBounds_toArray, List.set_cons_zero, List.set_cons_succ]
          refine dP 5 11 (.tuple #[.agg (ctx pc' r' (.slice A16 l'.length c16)), .agg (wantC q1 q2 q3 q4 q5 q6 q7 q8 q9 q10 q11)]) ?_
          simp only [Act.put, List.setIfInBounds_toArray, List.set_cons_zero, List.set_cons_succ]
          refine dP 6 17 (.agg (ctx pc' r' (.slice A16 l'.length c16))) ?_
          simp only [Act.put, List.setIfInBounds_toArray, List.set_cons_zero, List.set_cons_succ]
          refine dP 7 18 (.agg (wantC q1 q2 q3 q4 q5 q6 q7 q8 q9 q10 q11)) ?_
          simp only [Act.put, List.setIfInBounds_toArray, List.set_cons_zero, List.set_cons_succ]
          refine dR [9] ?_
          refine qA M7 9 8 40 want0 ?_ ?_
          · clear M7
            intro g8 w8 M8
            simp only [Act.put, List.setIfInBounds_toArray, List.set_cons_zero, List.set_cons_succ]
            refine dR [10] ?_
            refine qS M8 10 30 7 3 (ctx pc' r' (.slice A16 l'.length c16)) ?_ ?_
            · clear M8
              intro w_ M9
              refine dR [11] ?_
              refine qS M9 11 40 8 4 (wantC q1 q2 q3 q4 q5 q6 q7 q8 q9 q10 q11) ?_ ?_
              · clear M9
                intro w_ M10
                refine dDone ?_
                exact hK (g7, g8, A14, c14, A16, c16) _ M10
              exact AllReadyL.nil
            exact AllReadyL.nil
          exact AllReadyL.nil
        refine qA M6 9 8 40 want0 ?_ ?_
        · clear M6
          intro g8 w8 M7
          simp only [Act.put, List.setIfInBounds_toArray, List.set_cons_zero, List.set_cons_succ]
          refine dR [4] ?_
          refine qK 4 16 Try.func11 #[.agg (#[.slice A0 l0.length c0, .slice A1 l1.length c1, .slice A2 l2.length c2] : Array Value), .agg (ctx pc r (.slice A14 l.length c14)), .agg #[.int .u64 clk, .int .i64 slot, .int .i64 gen]] ?_ ?_
          · refine (C11.out A0 A1 A2 c0 c1 c2 A14 c14 _ (Kd.C_below H0.out M7.out.below) k0 (Kd.C_below H1.out M7.out.below) k1 (Kd.C_below H2.out M7.out.below) k2 (Kd.R_reads' M7.out.own).2.2 (Kd.R_reads' M7.out.own).2.1).mono ?_
            rintro e W16 ⟨v16, rfl, hR, hb⟩
            obtain ⟨A16, c16, rfl⟩ := Kd.R_slice hR
            have M8 := Aside0.mk (Mem.row M7.out hb hR)
            clear M7 hb hR
            refine ⟨_, rfl, M8.out.held (Cells.nil _) rfl, ?_⟩
            simp only [Act.put, List.setIfInBounds_toArray, List.set_cons_zero, List.set_cons_succ]
            refine dP 5 11 (.tuple #[.agg (ctx pc' r' (.slice A16 l'.length c16)), .agg (wantC q1 q2 q3 q4 q5 q6 q7 q8 q9 q10 q11)]) ?_
            simp only [Act.put, List.setIfInBounds_toArray, List.set_cons_zero, List.set_cons_succ]
            refine dP 6 17 (.agg (ctx pc' r' (.slice A16 l'.length c16))) ?_
            simp only [Act.put, List.setIfInBounds_toArray, List.set_cons_zero, List.set_cons_succ]
            refine dP 7 18 (.agg (wantC q1 q2 q3 q4 q5 q6 q7 q8 q9 q10 q11)) ?_
            simp only [Act.put, List.setIfInBounds_toArray, List.set_cons_zero, List.set_cons_succ]
            refine dR [10] ?_
            refine qS M8 10 30 7 3 (ctx pc' r' (.slice A16 l'.length c16)) ?_ ?_
            · clear M8
              intro w_ M9
              refine dR [11] ?_
              refine qS M9 11 40 8 4 (wantC q1 q2 q3 q4 q5 q6 q7 q8 q9 q10 q11) ?_ ?_
              · clear M9
                intro w_ M10
                refine dDone ?_
                exact hK (g7, g8, A14, c14, A16, c16) _ M10
              exact AllReadyL.nil
            exact AllReadyL.nil
          exact AllReadyL.nil
        exact AllReadyL.nil
      refine qA M5 9 8 40 want0 ?_ ?_
      · clear M5
        intro g8 w8 M6
        simp only [Act.put, List.setIfInBounds_toArray, List.set_cons_zero, List.set_cons_succ]
        refine dR [4, 8] ?_
        refine qK 4 16 Try.func11 #[.agg (#[.slice A0 l0.length c0, .slice A1 l1.length c1, .slice A2 l2.length c2] : Array Value), .agg (ctx pc r (.slice A14 l.length c14)), .agg #[.int .u64 clk, .int .i64 slot, .int .i64 gen]] ?_ ?_
        · refine (C11.out A0 A1 A2 c0 c1 c2 A14 c14 _ (Kd.C_below H0.out M6.out.below) k0 (Kd.C_below H1.out M6.out.below) k1 (Kd.C_below H2.out M6.out.below) k2 (Kd.R_reads' M6.out.own).2.2 (Kd.R_reads' M6.out.own).2.1).mono ?_
          rintro e W16 ⟨v16, rfl, hR, hb⟩
          obtain ⟨A16, c16, rfl⟩ := Kd.R_slice hR
          have M7 := Aside0.mk (Mem.row M6.out hb hR)
          clear M6 hb hR
          refine ⟨_, rfl, M7.out.held (Cells.nil _) rfl, ?_⟩
          simp only [Act.put, List.setIfInBounds_toArray, List.set_cons_zero, List.set_cons_succ]
          refine dP 5 11 (.tuple #[.agg (ctx pc' r' (.slice A16 l'.length c16)), .agg (wantC q1 q2 q3 q4 q5 q6 q7 q8 q9 q10 q11)]) ?_
          simp only [Act.put, List.setIfInBounds_toArray, List.set_cons_zero, List.set_cons_succ]
          refine dP 6 17 (.agg (ctx pc' r' (.slice A16 l'.length c16))) ?_
          simp only [Act.put, List.setIfInBounds_toArray, List.set_cons_zero, List.set_cons_succ]
          refine dP 7 18 (.agg (wantC q1 q2 q3 q4 q5 q6 q7 q8 q9 q10 q11)) ?_
          simp only [Act.put, List.setIfInBounds_toArray, List.set_cons_zero, List.set_cons_succ]
          refine dR [8] ?_
          refine qA M7 8 7 30 (ctx 0 zeroR (.slice none 0 0)) ?_ ?_
          · clear M7
            intro g7 w7 M8
            simp only [Act.put, List.setIfInBounds_toArray, List.set_cons_zero, List.set_cons_succ]
            refine dR [10] ?_
            refine qS M8 10 30 7 4 (ctx pc' r' (.slice A16 l'.length c16)) ?_ ?_
            · clear M8
              intro w_ M9
              refine dR [11] ?_
              refine qS M9 11 40 8 3 (wantC q1 q2 q3 q4 q5 q6 q7 q8 q9 q10 q11) ?_ ?_
              · clear M9
                intro w_ M10
                refine dDone ?_
                exact hK (g7, g8, A14, c14, A16, c16) _ (Aside0.mk (Mem.perm M10.out (List.Perm.cons _ (List.Perm.cons _ (List.Perm.cons _ (List.Perm.swap _ _ _))))))
              exact AllReadyL.nil
            exact AllReadyL.nil
          exact AllReadyL.nil
        refine qA M6 8 7 30 (ctx 0 zeroR (.slice none 0 0)) ?_ ?_
        · clear M6
          intro g7 w7 M7
          simp only [Act.put, List.setIfInBounds_toArray, List.set_cons_zero, List.set_cons_succ]
          refine dR [4] ?_
          refine qK 4 16 Try.func11 #[.agg (#[.slice A0 l0.length c0, .slice A1 l1.length c1, .slice A2 l2.length c2] : Array Value), .agg (ctx pc r (.slice A14 l.length c14)), .agg #[.int .u64 clk, .int .i64 slot, .int .i64 gen]] ?_ ?_
          · refine (C11.out A0 A1 A2 c0 c1 c2 A14 c14 _ (Kd.C_below H0.out M7.out.below) k0 (Kd.C_below H1.out M7.out.below) k1 (Kd.C_below H2.out M7.out.below) k2 (Kd.R_reads' M7.out.own).2.2 (Kd.R_reads' M7.out.own).2.1).mono ?_
            rintro e W16 ⟨v16, rfl, hR, hb⟩
            obtain ⟨A16, c16, rfl⟩ := Kd.R_slice hR
            have M8 := Aside0.mk (Mem.row M7.out hb hR)
            clear M7 hb hR
            refine ⟨_, rfl, M8.out.held (Cells.nil _) rfl, ?_⟩
            simp only [Act.put, List.setIfInBounds_toArray, List.set_cons_zero, List.set_cons_succ]
            refine dP 5 11 (.tuple #[.agg (ctx pc' r' (.slice A16 l'.length c16)), .agg (wantC q1 q2 q3 q4 q5 q6 q7 q8 q9 q10 q11)]) ?_
            simp only [Act.put, List.setIfInBounds_toArray, List.set_cons_zero, List.set_cons_succ]
            refine dP 6 17 (.agg (ctx pc' r' (.slice A16 l'.length c16))) ?_
            simp only [Act.put, List.setIfInBounds_toArray, List.set_cons_zero, List.set_cons_succ]
            refine dP 7 18 (.agg (wantC q1 q2 q3 q4 q5 q6 q7 q8 q9 q10 q11)) ?_
            simp only [Act.put, List.setIfInBounds_toArray, List.set_cons_zero, List.set_cons_succ]
            refine dR [10] ?_
            refine qS M8 10 30 7 4 (ctx pc' r' (.slice A16 l'.length c16)) ?_ ?_
            · clear M8
              intro w_ M9
              refine dR [11] ?_
              refine qS M9 11 40 8 3 (wantC q1 q2 q3 q4 q5 q6 q7 q8 q9 q10 q11) ?_ ?_
              · clear M9
                intro w_ M10
                refine dDone ?_
                exact hK (g7, g8, A14, c14, A16, c16) _ (Aside0.mk (Mem.perm M10.out (List.Perm.cons _ (List.Perm.cons _ (List.Perm.cons _ (List.Perm.swap _ _ _))))))
              exact AllReadyL.nil
            exact AllReadyL.nil
          exact AllReadyL.nil
        exact AllReadyL.nil
      exact AllReadyL.nil
    refine qA M4 8 7 30 (ctx 0 zeroR (.slice none 0 0)) ?_ ?_
    · clear M4
      intro g7 w7 M5
      simp only [Act.put, List.setIfInBounds_toArray, List.set_cons_zero, List.set_cons_succ]
      refine dR [2, 9] ?_
      refine qK 2 14 Try.func12 #[.agg (ctx pc r (.slice A l.length c))] ?_ ?_
      · refine (twin_calls pc r A c l _ (Kd.C_below HL.out M5.out.below) kl hlim).mono ?_
        rintro e W14 ⟨v14, rfl, hR, hb⟩
        obtain ⟨A14, c14, rfl⟩ := Kd.R_slice hR
        have M6 := Aside0.mk (Mem.row M5.out hb hR)
        clear M5 hb hR
        refine ⟨_, rfl, M6.out.held (Cells.nil _) rfl, ?_⟩
        simp only [Act.put, List.setIfInBounds_toArray, List.set_cons_zero, List.set_cons_succ]
        refine dR [4, 9] ?_
        refine qK 4 16 Try.func11 #[.agg (#[.slice A0 l0.length c0, .slice A1 l1.length c1, .slice A2 l2.length c2] : Array Value), .agg (ctx pc r (.slice A14 l.length c14)), .agg #[.int .u64 clk, .int .i64 slot, .int .i64 gen]] ?_ ?_
        · refine (C11.out A0 A1 A2 c0 c1 c2 A14 c14 _ (Kd.C_below H0.out M6.out.below) k0 (Kd.C_below H1.out M6.out.below) k1 (Kd.C_below H2.out M6.out.below) k2 (Kd.R_reads' M6.out.own).2.2 (Kd.R_reads' M6.out.own).2.1).mono ?_
          rintro e W16 ⟨v16, rfl, hR, hb⟩
          obtain ⟨A16, c16, rfl⟩ := Kd.R_slice hR
          have M7 := Aside0.mk (Mem.row M6.out hb hR)
          clear M6 hb hR
          refine ⟨_, rfl, M7.out.held (Cells.nil _) rfl, ?_⟩
          simp only [Act.put, List.setIfInBounds_toArray, List.set_cons_zero, List.set_cons_succ]
          refine dP 5 11 (.tuple #[.agg (ctx pc' r' (.slice A16 l'.length c16)), .agg (wantC q1 q2 q3 q4 q5 q6 q7 q8 q9 q10 q11)]) ?_
          simp only [Act.put, List.setIfInBounds_toArray, List.set_cons_zero, List.set_cons_succ]
          refine dP 6 17 (.agg (ctx pc' r' (.slice A16 l'.length c16))) ?_
          simp only [Act.put, List.setIfInBounds_toArray, List.set_cons_zero, List.set_cons_succ]
          refine dP 7 18 (.agg (wantC q1 q2 q3 q4 q5 q6 q7 q8 q9 q10 q11)) ?_
          simp only [Act.put, List.setIfInBounds_toArray, List.set_cons_zero, List.set_cons_succ]
          refine dR [9] ?_
          refine qA M7 9 8 40 want0 ?_ ?_
          · clear M7
            intro g8 w8 M8
            simp only [Act.put, List.setIfInBounds_toArray, List.set_cons_zero, List.set_cons_succ]
            refine dR [10] ?_
            refine qS M8 10 30 7 3 (ctx pc' r' (.slice A16 l'.length c16)) ?_ ?_
            · clear M8
              intro w_ M9
              refine dR [11] ?_
              refine qS M9 11 40 8 4 (wantC q1 q2 q3 q4 q5 q6 q7 q8 q9 q10 q11) ?_ ?_
              · clear M9
                intro w_ M10
                refine dDone ?_
                exact hK (g7, g8, A14, c14, A16, c16) _ M10
              exact AllReadyL.nil
            exact AllReadyL.nil
          exact AllReadyL.nil
        refine qA M6 9 8 40 want0 ?_ ?_
        · clear M6
          intro g8 w8 M7
          simp only [Act.put, List.setIfInBounds_toArray, List.set_cons_zero, List.set_cons_succ]
          refine dR [4] ?_
          refine qK 4 16 Try.func11 #[.agg (#[.slice A0 l0.length c0, .slice A1 l1.length c1, .slice A2 l2.length c2] : Array Value), .agg (ctx pc r (.slice A14 l.length c14)), .agg #[.int .u64 clk, .int .i64 slot, .int .i64 gen]] ?_ ?_
          · refine (C11.out A0 A1 A2 c0 c1 c2 A14 c14 _ (Kd.C_below H0.out M7.out.below) k0 (Kd.C_below H1.out M7.out.below) k1 (Kd.C_below H2.out M7.out.below) k2 (Kd.R_reads' M7.out.own).2.2 (Kd.R_reads' M7.out.own).2.1).mono ?_
            rintro e W16 ⟨v16, rfl, hR, hb⟩
            obtain ⟨A16, c16, rfl⟩ := Kd.R_slice hR
            have M8 := Aside0.mk (Mem.row M7.out hb hR)
            clear M7 hb hR
            refine ⟨_, rfl, M8.out.held (Cells.nil _) rfl, ?_⟩
            simp only [Act.put, List.setIfInBounds_toArray, List.set_cons_zero, List.set_cons_succ]
            refine dP 5 11 (.tuple #[.agg (ctx pc' r' (.slice A16 l'.length c16)), .agg (wantC q1 q2 q3 q4 q5 q6 q7 q8 q9 q10 q11)]) ?_
            simp only [Act.put, List.setIfInBounds_toArray, List.set_cons_zero, List.set_cons_succ]
            refine dP 6 17 (.agg (ctx pc' r' (.slice A16 l'.length c16))) ?_
            simp only [Act.put, List.setIfInBounds_toArray, List.set_cons_zero, List.set_cons_succ]
            refine dP 7 18 (.agg (wantC q1 q2 q3 q4 q5 q6 q7 q8 q9 q10 q11)) ?_
            simp only [Act.put, List.setIfInBounds_toArray, List.set_cons_zero, List.set_cons_succ]
            refine dR [10] ?_
            refine qS M8 10 30 7 3 (ctx pc' r' (.slice A16 l'.length c16)) ?_ ?_
            · clear M8
              intro w_ M9
              refine dR [11] ?_
              refine qS M9 11 40 8 4 (wantC q1 q2 q3 q4 q5 q6 q7 q8 q9 q10 q11) ?_ ?_
              · clear M9
                intro w_ M10
                refine dDone ?_
                exact hK (g7, g8, A14, c14, A16, c16) _ M10
              exact AllReadyL.nil
            exact AllReadyL.nil
          exact AllReadyL.nil
        exact AllReadyL.nil
      refine qA M5 9 8 40 want0 ?_ ?_
      · clear M5
        intro g8 w8 M6
        simp only [Act.put, List.setIfInBounds_toArray, List.set_cons_zero, List.set_cons_succ]
        refine dR [2] ?_
        refine qK 2 14 Try.func12 #[.agg (ctx pc r (.slice A l.length c))] ?_ ?_
        · refine (twin_calls pc r A c l _ (Kd.C_below HL.out M6.out.below) kl hlim).mono ?_
          rintro e W14 ⟨v14, rfl, hR, hb⟩
          obtain ⟨A14, c14, rfl⟩ := Kd.R_slice hR
          have M7 := Aside0.mk (Mem.row M6.out hb hR)
          clear M6 hb hR
          refine ⟨_, rfl, M7.out.held (Cells.nil _) rfl, ?_⟩
          simp only [Act.put, List.setIfInBounds_toArray, List.set_cons_zero, List.set_cons_succ]
          refine dR [4] ?_
          refine qK 4 16 Try.func11 #[.agg (#[.slice A0 l0.length c0, .slice A1 l1.length c1, .slice A2 l2.length c2] : Array Value), .agg (ctx pc r (.slice A14 l.length c14)), .agg #[.int .u64 clk, .int .i64 slot, .int .i64 gen]] ?_ ?_
          · refine (C11.out A0 A1 A2 c0 c1 c2 A14 c14 _ (Kd.C_below H0.out M7.out.below) k0 (Kd.C_below H1.out M7.out.below) k1 (Kd.C_below H2.out M7.out.below) k2 (Kd.R_reads' M7.out.own).2.2 (Kd.R_reads' M7.out.own).2.1).mono ?_
            rintro e W16 ⟨v16, rfl, hR, hb⟩
            obtain ⟨A16, c16, rfl⟩ := Kd.R_slice hR
            have M8 := Aside0.mk (Mem.row M7.out hb hR)
            clear M7 hb hR
            refine ⟨_, rfl, M8.out.held (Cells.nil _) rfl, ?_⟩
            simp only [Act.put, List.setIfInBounds_toArray, List.set_cons_zero, List.set_cons_succ]
            refine dP 5 11 (.tuple #[.agg (ctx pc' r' (.slice A16 l'.length c16)), .agg (wantC q1 q2 q3 q4 q5 q6 q7 q8 q9 q10 q11)]) ?_
            simp only [Act.put, List.setIfInBounds_toArray, List.set_cons_zero, List.set_cons_succ]
            refine dP 6 17 (.agg (ctx pc' r' (.slice A16 l'.length c16))) ?_
            simp only [Act.put, List.setIfInBounds_toArray, List.set_cons_zero, List.set_cons_succ]
            refine dP 7 18 (.agg (wantC q1 q2 q3 q4 q5 q6 q7 q8 q9 q10 q11)) ?_
            simp only [Act.put, List.setIfInBounds_toArray, List.set_cons_zero, List.set_cons_succ]
            refine dR [10] ?_
            refine qS M8 10 30 7 3 (ctx pc' r' (.slice A16 l'.length c16)) ?_ ?_
            · clear M8
              intro w_ M9
              refine dR [11] ?_
              refine qS M9 11 40 8 4 (wantC q1 q2 q3 q4 q5 q6 q7 q8 q9 q10 q11) ?_ ?_
              · clear M9
                intro w_ M10
                refine dDone ?_
                exact hK (g7, g8, A14, c14, A16, c16) _ M10
              exact AllReadyL.nil
            exact AllReadyL.nil
          exact AllReadyL.nil
        exact AllReadyL.nil
      exact AllReadyL.nil
    refine qA M4 9 8 40 want0 ?_ ?_
    · clear M4
      intro g8 w8 M5
      simp only [Act.put, List.setIfInBounds_toArray, List.set_cons_zero, List.set_cons_succ]
      refine dR [2, 8] ?_
      refine qK 2 14 Try.func12 #[.agg (ctx pc r (.slice A l.length c))] ?_ ?_
      · refine (twin_calls pc r A c l _ (Kd.C_below HL.out M5.out.below) kl hlim).mono ?_
        rintro e W14 ⟨v14, rfl, hR, hb⟩
        obtain ⟨A14, c14, rfl⟩ := Kd.R_slice hR
        have M6 := Aside0.mk (Mem.row M5.out hb hR)
        clear M5 hb hR
        refine ⟨_, rfl, M6.out.held (Cells.nil _) rfl, ?_⟩
        simp only [Act.put, List.setIfInBounds_toArray, List.set_cons_zero, List.set_cons_succ]
        refine dR [4, 8] ?_
        refine qK 4 16 Try.func11 #[.agg (#[.slice A0 l0.length c0, .slice A1 l1.length c1, .slice A2 l2.length c2] : Array Value), .agg (ctx pc r (.slice A14 l.length c14)), .agg #[.int .u64 clk, .int .i64 slot, .int .i64 gen]] ?_ ?_
        · refine (C11.out A0 A1 A2 c0 c1 c2 A14 c14 _ (Kd.C_below H0.out M6.out.below) k0 (Kd.C_below H1.out M6.out.below) k1 (Kd.C_below H2.out M6.out.below) k2 (Kd.R_reads' M6.out.own).2.2 (Kd.R_reads' M6.out.own).2.1).mono ?_
          rintro e W16 ⟨v16, rfl, hR, hb⟩
          obtain ⟨A16, c16, rfl⟩ := Kd.R_slice hR
          have M7 := Aside0.mk (Mem.row M6.out hb hR)
          clear M6 hb hR
          refine ⟨_, rfl, M7.out.held (Cells.nil _) rfl, ?_⟩
          simp only [Act.put, List.setIfInBounds_toArray, List.set_cons_zero, List.set_cons_succ]
          refine dP 5 11 (.tuple #[.agg (ctx pc' r' (.slice A16 l'.length c16)), .agg (wantC q1 q2 q3 q4 q5 q6 q7 q8 q9 q10 q11)]) ?_
          simp only [Act.put, List.setIfInBounds_toArray, List.set_cons_zero, List.set_cons_succ]
          refine dP 6 17 (.agg (ctx pc' r' (.slice A16 l'.length c16))) ?_
          simp only [Act.put, List.setIfInBounds_toArray, List.set_cons_zero, List.set_cons_succ]
          refine dP 7 18 (.agg (wantC q1 q2 q3 q4 q5 q6 q7 q8 q9 q10 q11)) ?_
          simp only [Act.put, List.setIfInBounds_toArray, List.set_cons_zero, List.set_cons_succ]
          refine dR [8] ?_
          refine qA M7 8 7 30 (ctx 0 zeroR (.slice none 0 0)) ?_ ?_
          · clear M7
            intro g7 w7 M8
            simp only [Act.put, List.setIfInBounds_toArray, List.set_cons_zero, List.set_cons_succ]
            refine dR [10] ?_
            refine qS M8 10 30 7 4 (ctx pc' r' (.slice A16 l'.length c16)) ?_ ?_
            · clear M8
              intro w_ M9
              refine dR [11] ?_
              refine qS M9 11 40 8 3 (wantC q1 q2 q3 q4 q5 q6 q7 q8 q9 q10 q11) ?_ ?_
              · clear M9
                intro w_ M10
                refine dDone ?_
                exact hK (g7, g8, A14, c14, A16, c16) _ (Aside0.mk (Mem.perm M10.out (List.Perm.cons _ (List.Perm.cons _ (List.Perm.cons _ (List.Perm.swap _ _ _))))))
              exact AllReadyL.nil
            exact AllReadyL.nil
          exact AllReadyL.nil
        refine qA M6 8 7 30 (ctx 0 zeroR (.slice none 0 0)) ?_ ?_
        · clear M6
          intro g7 w7 M7
          simp only [Act.put, List.setIfInBounds_toArray, List.set_cons_zero, List.set_cons_succ]
          refine dR [4] ?_
          refine qK 4 16 Try.func11 #[.agg (#[.slice A0 l0.length c0, .slice A1 l1.length c1, .slice A2 l2.length c2] : Array Value), .agg (ctx pc r (.slice A14 l.length c14)), .agg #[.int .u64 clk, .int .i64 slot, .int .i64 gen]] ?_ ?_
          · refine (C11.out A0 A1 A2 c0 c1 c2 A14 c14 _ (Kd.C_below H0.out M7.out.below) k0 (Kd.C_below H1.out M7.out.below) k1 (Kd.C_below H2.out M7.out.below) k2 (Kd.R_reads' M7.out.own).2.2 (Kd.R_reads' M7.out.own).2.1).mono ?_
            rintro e W16 ⟨v16, rfl, hR, hb⟩
            obtain ⟨A16, c16, rfl⟩ := Kd.R_slice hR
            have M8 := Aside0.mk (Mem.row M7.out hb hR)
            clear M7 hb hR
            refine ⟨_, rfl, M8.out.held (Cells.nil _) rfl, ?_⟩
            simp only [Act.put, List.setIfInBounds_toArray, List.set_cons_zero, List.set_cons_succ]
            refine dP 5 11 (.tuple #[.agg (ctx pc' r' (.slice A16 l'.length c16)), .agg (wantC q1 q2 q3 q4 q5 q6 q7 q8 q9 q10 q11)]) ?_
            simp only [Act.put, List.setIfInBounds_toArray, List.set_cons_zero, List.set_cons_succ]
            refine dP 6 17 (.agg (ctx pc' r' (.slice A16 l'.length c16))) ?_
            simp only [Act.put, List.setIfInBounds_toArray, List.set_cons_zero, List.set_cons_succ]
            refine dP 7 18 (.agg (wantC q1 q2 q3 q4 q5 q6 q7 q8 q9 q10 q11)) ?_
            simp only [Act.put, List.setIfInBounds_toArray, List.set_cons_zero, List.set_cons_succ]
            refine dR [10] ?_
            refine qS M8 10 30 7 4 (ctx pc' r' (.slice A16 l'.length c16)) ?_ ?_
            · clear M8
              intro w_ M9
              refine dR [11] ?_
              refine qS M9 11 40 8 3 (wantC q1 q2 q3 q4 q5 q6 q7 q8 q9 q10 q11) ?_ ?_
              · clear M9
                intro w_ M10
                refine dDone ?_
                exact hK (g7, g8, A14, c14, A16, c16) _ (Aside0.mk (Mem.perm M10.out (List.Perm.cons _ (List.Perm.cons _ (List.Perm.cons _ (List.Perm.swap _ _ _))))))
              exact AllReadyL.nil
            exact AllReadyL.nil
          exact AllReadyL.nil
        exact AllReadyL.nil
      refine qA M5 8 7 30 (ctx 0 zeroR (.slice none 0 0)) ?_ ?_
      · clear M5
        intro g7 w7 M6
        simp only [Act.put, List.setIfInBounds_toArray, List.set_cons_zero, List.set_cons_succ]
        refine dR [2] ?_
        refine qK 2 14 Try.func12 #[.agg (ctx pc r (.slice A l.length c))] ?_ ?_
        · refine (twin_calls pc r A c l _ (Kd.C_below HL.out M6.out.below) kl hlim).mono ?_
          rintro e W14 ⟨v14, rfl, hR, hb⟩
          obtain ⟨A14, c14, rfl⟩ := Kd.R_slice hR
          have M7 := Aside0.mk (Mem.row M6.out hb hR)
          clear M6 hb hR
          refine ⟨_, rfl, M7.out.held (Cells.nil _) rfl, ?_⟩
          simp only [Act.put, List.setIfInBounds_toArray, List.set_cons_zero, List.set_cons_succ]
          refine dR [4] ?_
          refine qK 4 16 Try.func11 #[.agg (#[.slice A0 l0.length c0, .slice A1 l1.length c1, .slice A2 l2.length c2] : Array Value), .agg (ctx pc r (.slice A14 l.length c14)), .agg #[.int .u64 clk, .int .i64 slot, .int .i64 gen]] ?_ ?_
          · refine (C11.out A0 A1 A2 c0 c1 c2 A14 c14 _ (Kd.C_below H0.out M7.out.below) k0 (Kd.C_below H1.out M7.out.below) k1 (Kd.C_below H2.out M7.out.below) k2 (Kd.R_reads' M7.out.own).2.2 (Kd.R_reads' M7.out.own).2.1).mono ?_
            rintro e W16 ⟨v16, rfl, hR, hb⟩
            obtain ⟨A16, c16, rfl⟩ := Kd.R_slice hR
            have M8 := Aside0.mk (Mem.row M7.out hb hR)
            clear M7 hb hR
            refine ⟨_, rfl, M8.out.held (Cells.nil _) rfl, ?_⟩
            simp only [Act.put, List.setIfInBounds_toArray, List.set_cons_zero, List.set_cons_succ]
            refine dP 5 11 (.tuple #[.agg (ctx pc' r' (.slice A16 l'.length c16)), .agg (wantC q1 q2 q3 q4 q5 q6 q7 q8 q9 q10 q11)]) ?_
            simp only [Act.put, List.setIfInBounds_toArray, List.set_cons_zero, List.set_cons_succ]
            refine dP 6 17 (.agg (ctx pc' r' (.slice A16 l'.length c16))) ?_
            simp only [Act.put, List.setIfInBounds_toArray, List.set_cons_zero, List.set_cons_succ]
            refine dP 7 18 (.agg (wantC q1 q2 q3 q4 q5 q6 q7 q8 q9 q10 q11)) ?_
            simp only [Act.put, List.setIfInBounds_toArray, List.set_cons_zero, List.set_cons_succ]
            refine dR [10] ?_
            refine qS M8 10 30 7 4 (ctx pc' r' (.slice A16 l'.length c16)) ?_ ?_
            · clear M8
              intro w_ M9
              refine dR [11] ?_
              refine qS M9 11 40 8 3 (wantC q1 q2 q3 q4 q5 q6 q7 q8 q9 q10 q11) ?_ ?_
              · clear M9
                intro w_ M10
                refine dDone ?_
                exact hK (g7, g8, A14, c14, A16, c16) _ (Aside0.mk (Mem.perm M10.out (List.Perm.cons _ (List.Perm.cons _ (List.Perm.cons _ (List.Perm.swap _ _ _))))))
              exact AllReadyL.nil
            exact AllReadyL.nil
          exact AllReadyL.nil
        exact AllReadyL.nil
      exact AllReadyL.nil
    exact AllReadyL.nil
  rintro ⟨g7, g8, A14, c14, A16, c16⟩ W_1 M11
  dsimp only at M11 ⊢
  simp only [putAll, Act.put, List.setIfInBounds_toArray, List.set_cons_zero, List.set_cons_succ]
  go_wp2_with (first
    | (refine eL M11 20 0 hu26 ?_)
    | (refine eL M11 21 1 hu30 ?_)
    | (refine eL M11 22 2 hu35 ?_))
  refine (C13.out A0 A1 A2 c0 c1 c2 A c _ (Kd.C_below H0.out M11.out.below) k0 (Kd.C_below H1.out M11.out.below) k1 (Kd.C_below H2.out M11.out.below) k2 (Kd.C_below HL.out M11.out.below) kl).mono ?_
  rintro e W23 ⟨v23, rfl, hR, hb⟩
  obtain ⟨A23, c23, rfl⟩ := Kd.R_slice hR
  have M12 := Aside0.mk (Mem.row M11.out hb hR)
  clear M11 hR hb
  go_wp2_with (first
    | (refine eB M12 9 (ctx 0 zeroR (.slice none 0 0)) 30 ?_; clear M12; intro g9 w9 M13)
    | (refine eB M13 10 want0 40 ?_; clear M13; intro g10 w10 M14)
    | (refine eR M14 30 9 5 (ctx pc' r' (.slice A23 l'.length c23)) ?_; clear M14; intro w_ M15)
    | (refine eR M15 40 10 6 (wantC q1 q2 q3 q4 q5 q6 q7 q8 q9 q10 q11) ?_; clear M15; intro w_ M16))
  refine (lives_calls _).mono ?_
  rintro e W26 ⟨rfl, hb⟩
  have M17 := Aside0.mk (Mem.call M16.out hb)
  clear M16 hb
  go_wp2_with (first
    | ((with_reducible refine gate_dst (N := 28) rfl ?_); (refine gate_guard (by rfl) ?_; dsimp only); refine eL M17 28 4 hu40 ?_)
    | ((with_reducible refine gate_dst (N := 29) rfl ?_); (refine gate_guard (by rfl) ?_; dsimp only); refine eL M17 29 6 hu40 ?_)
    | ((with_reducible refine gate_dst (N := 33) rfl ?_); (refine gate_guard (by rfl) ?_; dsimp only); refine eL M17 33 3 hu30 ?_)
    | ((with_reducible refine gate_dst (N := 34) rfl ?_); (refine gate_guard (by rfl) ?_; dsimp only); refine eL M17 34 5 hu30 ?_))
  refine (same_calls pc' r' A16 A23 c16 c23 l' _ (Kd.R_reads' (M17.out.ownAt 1 rfl)).2.2 (Kd.R_reads' M17.out.own).2.2 hlim').mono ?_
  rintro e W35 ⟨rfl, hb⟩
  have M18 := Aside0.mk (Mem.call M17.out hb)
  clear M17 hb
  go_wp2_with fail
  go_ret
  exact ⟨rfl, M18.out.below⟩
end Go.Proofs.Ythjfmlehkcccfaa.Hlaw3
end
