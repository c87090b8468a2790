import Derived.Test.YthjfmlehkcccfaaMWrites1
import Derived.Test.YthjfmlehkcccfaaMWrites0
import Derived.Test.YthjfmlehkcccfaaMDoes20
import Derived.Test.YthjfmlehkcccfaaMDoes21
import Derived.Deep.QuietTactic
import Derived.BigQuiet
import Derived.Deep.MidRow
import Derived.Lib.Hide
import Derived.Outline
import Derived.Test.YthjfmlehkcccfaaRows
import Derived.Test.YthjfmlehkcccfaaMDoes23
import Derived.WalkKit
import Derived.ProofKit
import Derived.OpenShut
import Derived.ShutString
import Derived.ChangeOld
import Derived.Below
import Derived.SizedLaws
import Derived.Lib.SmallJoins
section
/-
  StepWrites, walked.
-/
set_option linter.unusedVariables false
set_option linter.unusedSimpArgs false
namespace Go.Proofs.Ythjfmlehkcccfaa.Hlaw8
open Go.RowKit Go.Proofs.YthjfmlehkcccfaaW.PrintWords Go.Proofs.YthjfmlehkcccfaaW.PrintLast Go.Proofs.YthjfmlehkcccfaaW.PrintMore GA Hctx Hsmall Qwr Hlives Hsame Hans

set_option maxHeartbeats 2000000 in
set_option maxRecDepth 100000 in
theorem law_writes (l0 : List Int) (l1 : List S75) (l2 : List S98) (A0 A1 A2 : Option Addr) (c0 c1 c2 : Nat) (pc : Int) (r : Regs) (A : Option Addr) (c : Nat) (l : List Int) (clk slot gen : Int) (w : World)
    (h0 : Kd.C (Kd.int .u32) w A0 l0.length l0) (k0 : l0.length ≤ c0) (h1 : Kd.C k75 w A1 l1.length l1) (k1 : l1.length ≤ c1) (h2 : Kd.C k98 w A2 l2.length l2) (k2 : l2.length ≤ c2) (hl : Kd.C (Kd.int .i64) w A l.length l) (kl : l.length ≤ c) (hlim : l.length < 17592186044416) (hw : ∀ x ∈ l0, 0 ≤ x ∧ x < 4294967296) :
    Calls Try.prog 8 #[.agg (#[.slice A0 l0.length c0, .slice A1 l1.length c1, .slice A2 l2.length c2] : Array Value), .agg (ctx pc r (.slice A l.length c)), .agg #[.int .u64 clk, .int .i64 slot, .int .i64 gen]] w fun e w' => e = .returned (.bool true) ∧ Below w.heap.size w w' := by
  obtain ⟨pc', r', l', q1, q2, q3, q4, q5, q6, q7, q8, q9, q10, q11, hlim', c11, h58, hn58⟩ := step_writes l0 l1 l2 pc r l clk slot gen hw hlim
  have C11 := Lib.hid c11
  have H58 := Lib.hid h58
  have HN58 := Lib.hid hn58
  clear c11 h58 hn58 hw
  have hu26 := Try.underlying26
  have hu30 := Try.underlying30
  have hu35 := Try.underlying35
  have hu37 := Try.underlying37
  have H0 := Aside0.mk h0
  clear h0
  have H1 := Aside0.mk h1
  clear h1
  have H2 := Aside0.mk h2
  clear h2
  have HL := Aside0.mk hl
  clear hl
  have M0 := Aside0.mk (Mem.start [3] w)
  go_enter Try.func8, Try.ntmps8
  go_wp2_with (first
      | (refine eB M0 3 (#[.slice A0 l0.length c0, .slice A1 l1.length c1, .slice A2 l2.length c2] : Array Value) 26 ?_; clear M0; intro g3 w3 M1)
      | (refine eB M1 4 (ctx pc r (.slice A l.length c)) 30 ?_; clear M1; intro g4 w4 M2)
      | (refine eB M2 5 #[.int .u64 clk, .int .i64 slot, .int .i64 gen] 35 ?_; clear M2; intro g5 w5 M3))
  refine dJoin (σ := (Nat) × (Nat) × (Option Addr) × (Nat) × (Option Addr) × (Nat)) (fun s => [(7, .pointer (some ⟨s.1, 0, none⟩)), (8, .pointer (some ⟨s.2.1, 0, none⟩)), (15, .tuple #[.agg (ctx pc' r' (.slice s.2.2.2.2.1 l'.length s.2.2.2.2.2)), .agg (wantC q1 q2 q3 q4 q5 q6 q7 q8 q9 q10 q11)]), (16, .agg (#[.slice A0 l0.length c0, .slice A1 l1.length c1, .slice A2 l2.length c2] : Array Value)), (17, .agg (ctx pc r (.slice A l.length c))), (18, .agg (ctx pc r (.slice s.2.2.1 l.length s.2.2.2.1))), (19, .agg #[.int .u64 clk, .int .i64 slot, .int .i64 gen]), (20, .tuple #[.agg (ctx pc' r' (.slice s.2.2.2.2.1 l'.length s.2.2.2.2.2)), .agg (wantC q1 q2 q3 q4 q5 q6 q7 q8 q9 q10 q11)]), (21, .agg (ctx pc' r' (.slice s.2.2.2.2.1 l'.length s.2.2.2.2.2))), (22, .agg (wantC q1 q2 q3 q4 q5 q6 q7 q8 q9 q10 q11))]) (fun s w' => Aside0 (Mem [3] w w' [(g3, (#[.slice A0 l0.length c0, .slice A1 l1.length c1, .slice A2 l2.length c2] : Array Value), 26), (g4, (ctx pc r (.slice A l.length c)), 30), (g5, #[.int .u64 clk, .int .i64 slot, .int .i64 gen], 35), (s.1, (ctx pc' r' (.slice s.2.2.2.2.1 l'.length s.2.2.2.2.2)), 30), (s.2.1, (wantC q1 q2 q3 q4 q5 q6 q7 q8 q9 q10 q11), 40)] [⟨Kd.int .i64, 3, .slice s.2.2.2.2.1 l'.length s.2.2.2.2.2, l'⟩, ⟨Kd.int .i64, 3, .slice s.2.2.1 l.length s.2.2.2.1, l⟩])) ?_ (fun hK => ?_)
  rotate_left
  · simp only [putAll, Act.put, List.setIfInBounds_toArray, List.set_cons_zero, List.set_cons_succ] at hK
    refine dStart [10, 11] [] M3 (fun w' M => ?_)
    clear M3
    have M4 := M
    clear M
    refine dL M4 0 16 0 hu26 ?_
    simp only [Act.put, List.setIfInBounds_toArray, List.set_cons_zero, List.set_cons_succ]
    refine dL M4 1 17 1 hu30 ?_
    simp only [Act.put, List.setIfInBounds_toArray, List.set_cons_zero, List.set_cons_succ]
    refine dL M4 3 19 2 hu35 ?_
    simp only [Act.put, List.setIfInBounds_toArray, List.set_cons_zero, List.set_cons_succ]
    refine dR [2, 8, 9] ?_
    refine qK 2 18 Try.func12 #[.agg (ctx pc r (.slice A l.length c))] ?_ ?_
    · refine (twin_calls pc r A c l _ (Kd.C_below HL.out M4.out.below) kl hlim).mono ?_
      rintro e W18 ⟨v18, rfl, hR, hb⟩
      obtain ⟨A18, c18, rfl⟩ := Kd.R_slice hR
      have M5 := Aside0.mk (Mem.row M4.out hb hR)
      clear M4 hb hR
      refine ⟨_, rfl, M5.out.held (Cells.nil _) rfl, ?_⟩
      simp only [Act.put, List.setIfInBounds_toArray, List.set_cons_zero, List.set_cons_succ]
      refine dR [4, 8, 9] ?_
      refine qK 4 20 Try.func11 #[.agg (#[.slice A0 l0.length c0, .slice A1 l1.length c1, .slice A2 l2.length c2] : Array Value), .agg (ctx pc r (.slice A18 l.length c18)), .agg #[.int .u64 clk, .int .i64 slot, .int .i64 gen]] ?_ ?_
      · refine (C11.out A0 A1 A2 c0 c1 c2 A18 c18 _ (Kd.C_below H0.out M5.out.below) k0 (Kd.C_below H1.out M5.out.below) k1 (Kd.C_below H2.out M5.out.below) k2 (Kd.R_reads' M5.out.own).2.2 (Kd.R_reads' M5.out.own).2.1).mono ?_
        rintro e W20 ⟨v20, rfl, hR, hb⟩
        obtain ⟨A20, c20, rfl⟩ := Kd.R_slice hR
        have M6 := Aside0.mk (Mem.row M5.out hb hR)
        clear M5 hb hR
        refine ⟨_, rfl, M6.out.held (Cells.nil _) rfl, ?_⟩
        simp only [Act.put, List.setIfInBounds_toArray, List.set_cons_zero, List.set_cons_succ]
        refine dP 5 15 (.tuple #[.agg (ctx pc' r' (.slice A20 l'.length c20)), .agg (wantC q1 q2 q3 q4 q5 q6 q7 q8 q9 q10 q11)]) ?_
        simp only [Act.put, List.setIfInBounds_toArray, List.set_cons_zero, List.set_cons_succ]
        refine dP 6 21 (.agg (ctx pc' r' (.slice A20 l'.length c20))) ?_
        simp only [Act.put, List.setIfInBounds_toArray, List.set_cons_zero, List.set_cons_succ]
        refine dP 7 22 (.agg (wantC q1 q2 q3 q4 q5 q6 q7 q8 q9 q10 q11)) ?_
        simp only [Act.put, List.setIfInBounds_toArray, List.set_cons_zero, List.set_cons_succ]
        refine dR [8, 9] ?_
        refine qA M6 8 7 30 (ctx 0 zeroR (.slice none 0 0)) ?_ ?_
        · clear M6
          intro g7 w7 M7
          simp only [Act.put, List.setIfInBounds_toArray, List.set_cons_zero, List.set_cons_succ]
          refine dR [9] ?_
          refine qA M7 9 8 40 want0 ?_ ?_
          · clear M7
            intro g8 w8 M8
            simp only [Act.put, List.setIfInBounds_toArray, List.set_cons_zero, List.set_cons_succ]
            refine dR [10] ?_
            refine qS M8 10 30 7 3 (ctx pc' r' (.slice A20 l'.length c20)) ?_ ?_
            · clear M8
              intro w_ M9
              refine dR [11] ?_
              refine qS M9 11 40 8 4 (wantC q1 q2 q3 q4 q5 q6 q7 q8 q9 q10 q11) ?_ ?_
              · clear M9
                intro w_ M10
                refine dDone ?_
                exact hK (g7, g8, A18, c18, A20, c20) _ M10
              exact AllReadyL.nil
            exact AllReadyL.nil
          exact AllReadyL.nil
        refine qA M6 9 8 40 want0 ?_ ?_
        · clear M6
          intro g8 w8 M7
          simp only [Act.put, List.setIfInBounds_toArray, List.set_cons_zero, List.set_cons_succ]
          refine dR [8] ?_
          refine qA M7 8 7 30 (ctx 0 zeroR (.slice none 0 0)) ?_ ?_
          · clear M7
            intro g7 w7 M8
            simp only [Act.put, List.setIfInBounds_toArray, List.set_cons_zero, List.set_cons_succ]
            refine dR [10] ?_
            refine qS M8 10 30 7 4 (ctx pc' r' (.slice A20 l'.length c20)) ?_ ?_
            · clear M8
              intro w_ M9
              refine dR [11] ?_
              refine qS M9 11 40 8 3 (wantC q1 q2 q3 q4 q5 q6 q7 q8 q9 q10 q11) ?_ ?_
              · clear M9
                intro w_ M10
                refine dDone ?_
                exact hK (g7, g8, A18, c18, A20, c20) _ (Aside0.mk (Mem.perm M10.out (List.Perm.cons _ (List.Perm.cons _ (List.Perm.cons _ (List.Perm.swap _ _ _))))))
              exact AllReadyL.nil
            exact AllReadyL.nil
          exact AllReadyL.nil
        exact AllReadyL.nil
      refine qA M5 8 7 30 (ctx 0 zeroR (.slice none 0 0)) ?_ ?_
      · clear M5
        intro g7 w7 M6
        simp only [Act.put, List.setIfInBounds_toArray, List.set_cons_zero, List.set_cons_succ]
        refine dR [4, 9] ?_
        refine qK 4 20 Try.func11 #[.agg (#[.slice A0 l0.length c0, .slice A1 l1.length c1, .slice A2 l2.length c2] : Array Value), .agg (ctx pc r (.slice A18 l.length c18)), .agg #[.int .u64 clk, .int .i64 slot, .int .i64 gen]] ?_ ?_
        · refine (C11.out A0 A1 A2 c0 c1 c2 A18 c18 _ (Kd.C_below H0.out M6.out.below) k0 (Kd.C_below H1.out M6.out.below) k1 (Kd.C_below H2.out M6.out.below) k2 (Kd.R_reads' M6.out.own).2.2 (Kd.R_reads' M6.out.own).2.1).mono ?_
          rintro e W20 ⟨v20, rfl, hR, hb⟩
          obtain ⟨A20, c20, rfl⟩ := Kd.R_slice hR
          have M7 := Aside0.mk (Mem.row M6.out hb hR)
          clear M6 hb hR
          refine ⟨_, rfl, M7.out.held (Cells.nil _) rfl, ?_⟩
          simp only [Act.put, List.setIfInBounds_toArray, List.set_cons_zero, List.set_cons_succ]
          refine dP 5 15 (.tuple #[.agg (ctx pc' r' (.slice A20 l'.length c20)), .agg (wantC q1 q2 q3 q4 q5 q6 q7 q8 q9 q10 q11)]) ?_
          simp only [Act.put, List.setIfInBounds_toArray, List.set_cons_zero, List.set_cons_succ]
          refine dP 6 21 (.agg (ctx pc' r' (.slice A20 l'.length c20))) ?_
          simp only [Act.put, List.setIfInBounds_toArray, List.set_cons_zero, List.set_cons_succ]
          refine dP 7 22 (.agg (wantC q1 q2 q3 q4 q5 q6 q7 q8 q9 q10 q11)) ?_
          simp only [Act.put, List.setIfInBounds_toArray, List.set_cons_zero, List.set_cons_succ]
          refine dR [9] ?_
          refine qA M7 9 8 40 want0 ?_ ?_
          · clear M7
            intro g8 w8 M8
            simp only [Act.put, List.setIfInBounds_toArray, List.set_cons_zero, List.set_cons_succ]
            refine dR [10] ?_
            refine qS M8 10 30 7 3 (ctx pc' r' (.slice A20 l'.length c20)) ?_ ?_
            · clear M8
              intro w_ M9
              refine dR [11] ?_
              refine qS M9 11 40 8 4 (wantC q1 q2 q3 q4 q5 q6 q7 q8 q9 q10 q11) ?_ ?_
              · clear M9
                intro w_ M10
                refine dDone ?_
                exact hK (g7, g8, A18, c18, A20, c20) _ M10
              exact AllReadyL.nil
            exact AllReadyL.nil
          exact AllReadyL.nil
        refine qA M6 9 8 40 want0 ?_ ?_
        · clear M6
          intro g8 w8 M7
          simp only [Act.put, List.setIfInBounds_toArray, List.set_cons_zero, List.set_cons_succ]
          refine dR [4] ?_
          refine qK 4 20 Try.func11 #[.agg (#[.slice A0 l0.length c0, .slice A1 l1.length c1, .slice A2 l2.length c2] : Array Value), .agg (ctx pc r (.slice A18 l.length c18)), .agg #[.int .u64 clk, .int .i64 slot, .int .i64 gen]] ?_ ?_
          · refine (C11.out A0 A1 A2 c0 c1 c2 A18 c18 _ (Kd.C_below H0.out M7.out.below) k0 (Kd.C_below H1.out M7.out.below) k1 (Kd.C_below H2.out M7.out.below) k2 (Kd.R_reads' M7.out.own).2.2 (Kd.R_reads' M7.out.own).2.1).mono ?_
            rintro e W20 ⟨v20, rfl, hR, hb⟩
            obtain ⟨A20, c20, rfl⟩ := Kd.R_slice hR
            have M8 := Aside0.mk (Mem.row M7.out hb hR)
            clear M7 hb hR
            refine ⟨_, rfl, M8.out.held (Cells.nil _) rfl, ?_⟩
            simp only [Act.put, List.setIfInBounds_toArray, List.set_cons_zero, List.set_cons_succ]
            refine dP 5 15 (.tuple #[.agg (ctx pc' r' (.slice A20 l'.length c20)), .agg (wantC q1 q2 q3 q4 q5 q6 q7 q8 q9 q10 q11)]) ?_
            simp only [Act.put, List.setIfInBounds_toArray, List.set_cons_zero, List.set_cons_succ]
            refine dP 6 21 (.agg (ctx pc' r' (.slice A20 l'.length c20))) ?_
            simp only [Act.put, List.setIfInBounds_toArray, List.set_cons_zero, List.set_cons_succ]
            refine dP 7 22 (.agg (wantC q1 q2 q3 q4 q5 q6 q7 q8 q9 q10 q11)) ?_
            simp only [Act.put, List.setIfInBounds_toArray, List.set_cons_zero, List.set_cons_succ]
            refine dR [10] ?_
            refine qS M8 10 30 7 3 (ctx pc' r' (.slice A20 l'.length c20)) ?_ ?_
            · clear M8
              intro w_ M9
              refine dR [11] ?_
              refine qS M9 11 40 8 4 (wantC q1 q2 q3 q4 q5 q6 q7 q8 q9 q10 q11) ?_ ?_
              · clear M9
                intro w_ M10
                refine dDone ?_
                exact hK (g7, g8, A18, c18, A20, c20) _ M10
              exact AllReadyL.nil
            exact AllReadyL.nil
          exact AllReadyL.nil
        exact AllReadyL.nil
      refine qA M5 9 8 40 want0 ?_ ?_
      · clear M5
        intro g8 w8 M6
        simp only [Act.put, List.setIfInBounds_toArray, List.set_cons_zero, List.set_cons_succ]
        refine dR [4, 8] ?_
        refine qK 4 20 Try.func11 #[.agg (#[.slice A0 l0.length c0, .slice A1 l1.length c1, .slice A2 l2.length c2] : Array Value), .agg (ctx pc r (.slice A18 l.length c18)), .agg #[.int .u64 clk, .int .i64 slot, .int .i64 gen]] ?_ ?_
        · refine (C11.out A0 A1 A2 c0 c1 c2 A18 c18 _ (Kd.C_below H0.out M6.out.below) k0 (Kd.C_below H1.out M6.out.below) k1 (Kd.C_below H2.out M6.out.below) k2 (Kd.R_reads' M6.out.own).2.2 (Kd.R_reads' M6.out.own).2.1).mono ?_
          rintro e W20 ⟨v20, rfl, hR, hb⟩
          obtain ⟨A20, c20, rfl⟩ := Kd.R_slice hR
          have M7 := Aside0.mk (Mem.row M6.out hb hR)
          clear M6 hb hR
          refine ⟨_, rfl, M7.out.held (Cells.nil _) rfl, ?_⟩
          simp only [Act.put, List.setIfInBounds_toArray, List.set_cons_zero, List.set_cons_succ]
          refine dP 5 15 (.tuple #[.agg (ctx pc' r' (.slice A20 l'.length c20)), .agg (wantC q1 q2 q3 q4 q5 q6 q7 q8 q9 q10 q11)]) ?_
          simp only [Act.put, List.setIfInBounds_toArray, List.set_cons_zero, List.set_cons_succ]
          refine dP 6 21 (.agg (ctx pc' r' (.slice A20 l'.length c20))) ?_
          simp only [Act.put, List.setIfInBounds_toArray, List.set_cons_zero, List.set_cons_succ]
          refine dP 7 22 (.agg (wantC q1 q2 q3 q4 q5 q6 q7 q8 q9 q10 q11)) ?_
          simp only [Act.put, List.setIfInBounds_toArray, List.set_cons_zero, List.set_cons_succ]
          refine dR [8] ?_
          refine qA M7 8 7 30 (ctx 0 zeroR (.slice none 0 0)) ?_ ?_
          · clear M7
            intro g7 w7 M8
            simp only [Act.put, List.setIfInBounds_toArray, List.set_cons_zero, List.set_cons_succ]
            refine dR [10] ?_
            refine qS M8 10 30 7 4 (ctx pc' r' (.slice A20 l'.length c20)) ?_ ?_
            · clear M8
              intro w_ M9
              refine dR [11] ?_
              refine qS M9 11 40 8 3 (wantC q1 q2 q3 q4 q5 q6 q7 q8 q9 q10 q11) ?_ ?_
              · clear M9
                intro w_ M10
                refine dDone ?_
                exact hK (g7, g8, A18, c18, A20, c20) _ (Aside0.mk (Mem.perm M10.out (List.Perm.cons _ (List.Perm.cons _ (List.Perm.cons _ (List.Perm.swap _ _ _))))))
              exact AllReadyL.nil
            exact AllReadyL.nil
          exact AllReadyL.nil
        refine qA M6 8 7 30 (ctx 0 zeroR (.slice none 0 0)) ?_ ?_
        · clear M6
          intro g7 w7 M7
          simp only [Act.put, List.setIfInBounds_toArray, List.set_cons_zero, List.set_cons_succ]
          refine dR [4] ?_
          refine qK 4 20 Try.func11 #[.agg (#[.slice A0 l0.length c0, .slice A1 l1.length c1, .slice A2 l2.length c2] : Array Value), .agg (ctx pc r (.slice A18 l.length c18)), .agg #[.int .u64 clk, .int .i64 slot, .int .i64 gen]] ?_ ?_
          · refine (C11.out A0 A1 A2 c0 c1 c2 A18 c18 _ (Kd.C_below H0.out M7.out.below) k0 (Kd.C_below H1.out M7.out.below) k1 (Kd.C_below H2.out M7.out.below) k2 (Kd.R_reads' M7.out.own).2.2 (Kd.R_reads' M7.out.own).2.1).mono ?_
            rintro e W20 ⟨v20, rfl, hR, hb⟩
            obtain ⟨A20, c20, rfl⟩ := Kd.R_slice hR
            have M8 := Aside0.mk (Mem.row M7.out hb hR)
            clear M7 hb hR
            refine ⟨_, rfl, M8.out.held (Cells.nil _) rfl, ?_⟩
            simp only [Act.put, List.setIfInBounds_toArray, List.set_cons_zero, List.set_cons_succ]
            refine dP 5 15 (.tuple #[.agg (ctx pc' r' (.slice A20 l'.length c20)), .agg (wantC q1 q2 q3 q4 q5 q6 q7 q8 q9 q10 q11)]) ?_
            simp only [Act.put, List.setIfInBounds_toArray, List.set_cons_zero, List.set_cons_succ]
            refine dP 6 21 (.agg (ctx pc' r' (.slice A20 l'.length c20))) ?_
            simp only [Act.put, List.setIfInBounds_toArray, List.set_cons_zero, List.set_cons_succ]
            refine dP 7 22 (.agg (wantC q1 q2 q3 q4 q5 q6 q7 q8 q9 q10 q11)) ?_
            simp only [Act.put, List.setIfInBounds_toArray, List.set_cons_zero, List.set_cons_succ]
            refine dR [10] ?_
            refine qS M8 10 30 7 4 (ctx pc' r' (.slice A20 l'.length c20)) ?_ ?_
            · clear M8
              intro w_ M9
              refine dR [11] ?_
              refine qS M9 11 40 8 3 (wantC q1 q2 q3 q4 q5 q6 q7 q8 q9 q10 q11) ?_ ?_
              · clear M9
                intro w_ M10
                refine dDone ?_
                exact hK (g7, g8, A18, c18, A20, c20) _ (Aside0.mk (Mem.perm M10.out (List.Perm.cons _ (List.Perm.cons _ (List.Perm.cons _ (List.Perm.swap _ _ _))))))
              exact AllReadyL.nil
            exact AllReadyL.nil
          exact AllReadyL.nil
        exact AllReadyL.nil
      exact AllReadyL.nil
    refine qA M4 8 7 30 (ctx 0 zeroR (.slice none 0 0)) ?_ ?_
    · clear M4
      intro g7 w7 M5
      simp only [Act.put, List.setIfInBounds_toArray, List.set_cons_zero, List.set_cons_succ]
      refine dR [2, 9] ?_
      refine qK 2 18 Try.func12 #[.agg (ctx pc r (.slice A l.length c))] ?_ ?_
      · refine (twin_calls pc r A c l _ (Kd.C_below HL.out M5.out.below) kl hlim).mono ?_
        rintro e W18 ⟨v18, rfl, hR, hb⟩
        obtain ⟨A18, c18, rfl⟩ := Kd.R_slice hR
        have M6 := Aside0.mk (Mem.row M5.out hb hR)
        clear M5 hb hR
        refine ⟨_, rfl, M6.out.held (Cells.nil _) rfl, ?_⟩
        simp only [Act.put, List.setIfInBounds_toArray, List.set_cons_zero, List.set_cons_succ]
        refine dR [4, 9] ?_
        refine qK 4 20 Try.func11 #[.agg (#[.slice A0 l0.length c0, .slice A1 l1.length c1, .slice A2 l2.length c2] : Array Value), .agg (ctx pc r (.slice A18 l.length c18)), .agg #[.int .u64 clk, .int .i64 slot, .int .i64 gen]] ?_ ?_
        · refine (C11.out A0 A1 A2 c0 c1 c2 A18 c18 _ (Kd.C_below H0.out M6.out.below) k0 (Kd.C_below H1.out M6.out.below) k1 (Kd.C_below H2.out M6.out.below) k2 (Kd.R_reads' M6.out.own).2.2 (Kd.R_reads' M6.out.own).2.1).mono ?_
          rintro e W20 ⟨v20, rfl, hR, hb⟩
          obtain ⟨A20, c20, rfl⟩ := Kd.R_slice hR
          have M7 := Aside0.mk (Mem.row M6.out hb hR)
          clear M6 hb hR
          refine ⟨_, rfl, M7.out.held (Cells.nil _) rfl, ?_⟩
          simp only [Act.put, List.setIfInBounds_toArray, List.set_cons_zero, List.set_cons_succ]
          refine dP 5 15 (.tuple #[.agg (ctx pc' r' (.slice A20 l'.length c20)), .agg (wantC q1 q2 q3 q4 q5 q6 q7 q8 q9 q10 q11)]) ?_
          simp only [Act.put, List.setIfInBounds_toArray, List.set_cons_zero, List.set_cons_succ]
          refine dP 6 21 (.agg (ctx pc' r' (.slice A20 l'.length c20))) ?_
          simp only [Act.put, List.setIfInBounds_toArray, List.set_cons_zero, List.set_cons_succ]
          refine dP 7 22 (.agg (wantC q1 q2 q3 q4 q5 q6 q7 q8 q9 q10 q11)) ?_
          simp only [Act.put, List.setIfInBounds_toArray, List.set_cons_zero, List.set_cons_succ]
          refine dR [9] ?_
          refine qA M7 9 8 40 want0 ?_ ?_
          · clear M7
            intro g8 w8 M8
            simp only [Act.put, List.setIfInBounds_toArray, List.set_cons_zero, List.set_cons_succ]
            refine dR [10] ?_
            refine qS M8 10 30 7 3 (ctx pc' r' (.slice A20 l'.length c20)) ?_ ?_
            · clear M8
              intro w_ M9
              refine dR [11] ?_
              refine qS M9 11 40 8 4 (wantC q1 q2 q3 q4 q5 q6 q7 q8 q9 q10 q11) ?_ ?_
              · clear M9
                intro w_ M10
                refine dDone ?_
                exact hK (g7, g8, A18, c18, A20, c20) _ M10
              exact AllReadyL.nil
            exact AllReadyL.nil
          exact AllReadyL.nil
        refine qA M6 9 8 40 want0 ?_ ?_
        · clear M6
          intro g8 w8 M7
          simp only [Act.put, List.setIfInBounds_toArray, List.set_cons_zero, List.set_cons_succ]
          refine dR [4] ?_
          refine qK 4 20 Try.func11 #[.agg (#[.slice A0 l0.length c0, .slice A1 l1.length c1, .slice A2 l2.length c2] : Array Value), .agg (ctx pc r (.slice A18 l.length c18)), .agg #[.int .u64 clk, .int .i64 slot, .int .i64 gen]] ?_ ?_
          · refine (C11.out A0 A1 A2 c0 c1 c2 A18 c18 _ (Kd.C_below H0.out M7.out.below) k0 (Kd.C_below H1.out M7.out.below) k1 (Kd.C_below H2.out M7.out.below) k2 (Kd.R_reads' M7.out.own).2.2 (Kd.R_reads' M7.out.own).2.1).mono ?_
            rintro e W20 ⟨v20, rfl, hR, hb⟩
            obtain ⟨A20, c20, rfl⟩ := Kd.R_slice hR
            have M8 := Aside0.mk (Mem.row M7.out hb hR)
            clear M7 hb hR
            refine ⟨_, rfl, M8.out.held (Cells.nil _) rfl, ?_⟩
            simp only [Act.put, List.setIfInBounds_toArray, List.set_cons_zero, List.set_cons_succ]
            refine dP 5 15 (.tuple #[.agg (ctx pc' r' (.slice A20 l'.length c20)), .agg (wantC q1 q2 q3 q4 q5 q6 q7 q8 q9 q10 q11)]) ?_
            simp only [Act.put, List.setIfInBounds_toArray, List.set_cons_zero, List.set_cons_succ]
            refine dP 6 21 (.agg (ctx pc' r' (.slice A20 l'.length c20))) ?_
            simp only [Act.put, List.setIfInBounds_toArray, List.set_cons_zero, List.set_cons_succ]
            refine dP 7 22 (.agg (wantC q1 q2 q3 q4 q5 q6 q7 q8 q9 q10 q11)) ?_
            simp only [Act.put, List.setIfInBounds_toArray, List.set_cons_zero, List.set_cons_succ]
            refine dR [10] ?_
            refine qS M8 10 30 7 3 (ctx pc' r' (.slice A20 l'.length c20)) ?_ ?_
            · clear M8
              intro w_ M9
              refine dR [11] ?_
              refine qS M9 11 40 8 4 (wantC q1 q2 q3 q4 q5 q6 q7 q8 q9 q10 q11) ?_ ?_
              · clear M9
                intro w_ M10
                refine dDone ?_
                exact hK (g7, g8, A18, c18, A20, c20) _ M10
              exact AllReadyL.nil
            exact AllReadyL.nil
          exact AllReadyL.nil
        exact AllReadyL.nil
      refine qA M5 9 8 40 want0 ?_ ?_
      · clear M5
        intro g8 w8 M6
        simp only [Act.put, List.setIfInBounds_toArray, List.set_cons_zero, List.set_cons_succ]
        refine dR [2] ?_
        refine qK 2 18 Try.func12 #[.agg (ctx pc r (.slice A l.length c))] ?_ ?_
        · refine (twin_calls pc r A c l _ (Kd.C_below HL.out M6.out.below) kl hlim).mono ?_
          rintro e W18 ⟨v18, rfl, hR, hb⟩
          obtain ⟨A18, c18, rfl⟩ := Kd.R_slice hR
          have M7 := Aside0.mk (Mem.row M6.out hb hR)
          clear M6 hb hR
          refine ⟨_, rfl, M7.out.held (Cells.nil _) rfl, ?_⟩
          simp only [Act.put, List.setIfInBounds_toArray, List.set_cons_zero, List.set_cons_succ]
          refine dR [4] ?_
          refine qK 4 20 Try.func11 #[.agg (#[.slice A0 l0.length c0, .slice A1 l1.length c1, .slice A2 l2.length c2] : Array Value), .agg (ctx pc r (.slice A18 l.length c18)), .agg #[.int .u64 clk, .int .i64 slot, .int .i64 gen]] ?_ ?_
          · refine (C11.out A0 A1 A2 c0 c1 c2 A18 c18 _ (Kd.C_below H0.out M7.out.below) k0 (Kd.C_below H1.out M7.out.below) k1 (Kd.C_below H2.out M7.out.below) k2 (Kd.R_reads' M7.out.own).2.2 (Kd.R_reads' M7.out.own).2.1).mono ?_
            rintro e W20 ⟨v20, rfl, hR, hb⟩
            obtain ⟨A20, c20, rfl⟩ := Kd.R_slice hR
            have M8 := Aside0.mk (Mem.row M7.out hb hR)
            clear M7 hb hR
            refine ⟨_, rfl, M8.out.held (Cells.nil _) rfl, ?_⟩
            simp only [Act.put, List.setIfInBounds_toArray, List.set_cons_zero, List.set_cons_succ]
            refine dP 5 15 (.tuple #[.agg (ctx pc' r' (.slice A20 l'.length c20)), .agg (wantC q1 q2 q3 q4 q5 q6 q7 q8 q9 q10 q11)]) ?_
            simp only [Act.put, List.setIfInBounds_toArray, List.set_cons_zero, List.set_cons_succ]
            refine dP 6 21 (.agg (ctx pc' r' (.slice A20 l'.length c20))) ?_
            simp only [Act.put, List.setIfInBounds_toArray, List.set_cons_zero, List.set_cons_succ]
            refine dP 7 22 (.agg (wantC q1 q2 q3 q4 q5 q6 q7 q8 q9 q10 q11)) ?_
            simp only [Act.put, List.setIfInBounds_toArray, List.set_cons_zero, List.set_cons_succ]
            refine dR [10] ?_
            refine qS M8 10 30 7 3 (ctx pc' r' (.slice A20 l'.length c20)) ?_ ?_
            · clear M8
              intro w_ M9
              refine dR [11] ?_
              refine qS M9 11 40 8 4 (wantC q1 q2 q3 q4 q5 q6 q7 q8 q9 q10 q11) ?_ ?_
              · clear M9
                intro w_ M10
                refine dDone ?_
                exact hK (g7, g8, A18, c18, A20, c20) _ M10
              exact AllReadyL.nil
            exact AllReadyL.nil
          exact AllReadyL.nil
        exact AllReadyL.nil
      exact AllReadyL.nil
    refine qA M4 9 8 40 want0 ?_ ?_
    · clear M4
      intro g8 w8 M5
      simp only [Act.put, List.setIfInBounds_toArray, List.set_cons_zero, List.set_cons_succ]
      refine dR [2, 8] ?_
      refine qK 2 18 Try.func12 #[.agg (ctx pc r (.slice A l.length c))] ?_ ?_
      · refine (twin_calls pc r A c l _ (Kd.C_below HL.out M5.out.below) kl hlim).mono ?_
        rintro e W18 ⟨v18, rfl, hR, hb⟩
        obtain ⟨A18, c18, rfl⟩ := Kd.R_slice hR
        have M6 := Aside0.mk (Mem.row M5.out hb hR)
        clear M5 hb hR
        refine ⟨_, rfl, M6.out.held (Cells.nil _) rfl, ?_⟩
        simp only [Act.put, List.setIfInBounds_toArray, List.set_cons_zero, List.set_cons_succ]
        refine dR [4, 8] ?_
        refine qK 4 20 Try.func11 #[.agg (#[.slice A0 l0.length c0, .slice A1 l1.length c1, .slice A2 l2.length c2] : Array Value), .agg (ctx pc r (.slice A18 l.length c18)), .agg #[.int .u64 clk, .int .i64 slot, .int .i64 gen]] ?_ ?_
        · refine (C11.out A0 A1 A2 c0 c1 c2 A18 c18 _ (Kd.C_below H0.out M6.out.below) k0 (Kd.C_below H1.out M6.out.below) k1 (Kd.C_below H2.out M6.out.below) k2 (Kd.R_reads' M6.out.own).2.2 (Kd.R_reads' M6.out.own).2.1).mono ?_
          rintro e W20 ⟨v20, rfl, hR, hb⟩
          obtain ⟨A20, c20, rfl⟩ := Kd.R_slice hR
          have M7 := Aside0.mk (Mem.row M6.out hb hR)
          clear M6 hb hR
          refine ⟨_, rfl, M7.out.held (Cells.nil _) rfl, ?_⟩
          simp only [Act.put, List.setIfInBounds_toArray, List.set_cons_zero, List.set_cons_succ]
          refine dP 5 15 (.tuple #[.agg (ctx pc' r' (.slice A20 l'.length c20)), .agg (wantC q1 q2 q3 q4 q5 q6 q7 q8 q9 q10 q11)]) ?_
          simp only [Act.put, List.setIfInBounds_toArray, List.set_cons_zero, List.set_cons_succ]
          refine dP 6 21 (.agg (ctx pc' r' (.slice A20 l'.length c20))) ?_
          simp only [Act.put, List.setIfInBounds_toArray, List.set_cons_zero, List.set_cons_succ]
          refine dP 7 22 (.agg (wantC q1 q2 q3 q4 q5 q6 q7 q8 q9 q10 q11)) ?_
          simp only [Act.put, List.setIfInBounds_toArray, List.set_cons_zero, List.set_cons_succ]
          refine dR [8] ?_
          refine qA M7 8 7 30 (ctx 0 zeroR (.slice none 0 0)) ?_ ?_
          · clear M7
            intro g7 w7 M8
            simp only [Act.put, List.setIfInBounds_toArray, List.set_cons_zero, List.set_cons_succ]
            refine dR [10] ?_
            refine qS M8 10 30 7 4 (ctx pc' r' (.slice A20 l'.length c20)) ?_ ?_
            · clear M8
              intro w_ M9
              refine dR [11] ?_
              refine qS M9 11 40 8 3 (wantC q1 q2 q3 q4 q5 q6 q7 q8 q9 q10 q11) ?_ ?_
              · clear M9
                intro w_ M10
                refine dDone ?_
                exact hK (g7, g8, A18, c18, A20, c20) _ (Aside0.mk (Mem.perm M10.out (List.Perm.cons _ (List.Perm.cons _ (List.Perm.cons _ (List.Perm.swap _ _ _))))))
              exact AllReadyL.nil
            exact AllReadyL.nil
          exact AllReadyL.nil
        refine qA M6 8 7 30 (ctx 0 zeroR (.slice none 0 0)) ?_ ?_
        · clear M6
          intro g7 w7 M7
          simp only [Act.put, List.setIfInBounds_toArray, List.set_cons_zero, List.set_cons_succ]
          refine dR [4] ?_
          refine qK 4 20 Try.func11 #[.agg (#[.slice A0 l0.length c0, .slice A1 l1.length c1, .slice A2 l2.length c2] : Array Value), .agg (ctx pc r (.slice A18 l.length c18)), .agg #[.int .u64 clk, .int .i64 slot, .int .i64 gen]] ?_ ?_
          · refine (C11.out A0 A1 A2 c0 c1 c2 A18 c18 _ (Kd.C_below H0.out M7.out.below) k0 (Kd.C_below H1.out M7.out.below) k1 (Kd.C_below H2.out M7.out.below) k2 (Kd.R_reads' M7.out.own).2.2 (Kd.R_reads' M7.out.own).2.1).mono ?_
            rintro e W20 ⟨v20, rfl, hR, hb⟩
            obtain ⟨A20, c20, rfl⟩ := Kd.R_slice hR
            have M8 := Aside0.mk (Mem.row M7.out hb hR)
            clear M7 hb hR
            refine ⟨_, rfl, M8.out.held (Cells.nil _) rfl, ?_⟩
            simp only [Act.put, List.setIfInBounds_toArray, List.set_cons_zero, List.set_cons_succ]
            refine dP 5 15 (.tuple #[.agg (ctx pc' r' (.slice A20 l'.length c20)), .agg (wantC q1 q2 q3 q4 q5 q6 q7 q8 q9 q10 q11)]) ?_
            simp only [Act.put, List.setIfInBounds_toArray, List.set_cons_zero, List.set_cons_succ]
            refine dP 6 21 (.agg (ctx pc' r' (.slice A20 l'.length c20))) ?_
            simp only [Act.put, List.setIfInBounds_toArray, List.set_cons_zero, List.set_cons_succ]
            refine dP 7 22 (.agg (wantC q1 q2 q3 q4 q5 q6 q7 q8 q9 q10 q11)) ?_
            simp only [Act.put, List.setIfInBounds_toArray, List.set_cons_zero, List.set_cons_succ]
            refine dR [10] ?_
            refine qS M8 10 30 7 4 (ctx pc' r' (.slice A20 l'.length c20)) ?_ ?_
            · clear M8
              intro w_ M9
              refine dR [11] ?_
              refine qS M9 11 40 8 3 (wantC q1 q2 q3 q4 q5 q6 q7 q8 q9 q10 q11) ?_ ?_
              · clear M9
                intro w_ M10
                refine dDone ?_
                exact hK (g7, g8, A18, c18, A20, c20) _ (Aside0.mk (Mem.perm M10.out (List.Perm.cons _ (List.Perm.cons _ (List.Perm.cons _ (List.Perm.swap _ _ _))))))
              exact AllReadyL.nil
            exact AllReadyL.nil
          exact AllReadyL.nil
        exact AllReadyL.nil
      refine qA M5 8 7 30 (ctx 0 zeroR (.slice none 0 0)) ?_ ?_
      · clear M5
        intro g7 w7 M6
        simp only [Act.put, List.setIfInBounds_toArray, List.set_cons_zero, List.set_cons_succ]
        refine dR [2] ?_
        refine qK 2 18 Try.func12 #[.agg (ctx pc r (.slice A l.length c))] ?_ ?_
        · refine (twin_calls pc r A c l _ (Kd.C_below HL.out M6.out.below) kl hlim).mono ?_
          rintro e W18 ⟨v18, rfl, hR, hb⟩
          obtain ⟨A18, c18, rfl⟩ := Kd.R_slice hR
          have M7 := Aside0.mk (Mem.row M6.out hb hR)
          clear M6 hb hR
          refine ⟨_, rfl, M7.out.held (Cells.nil _) rfl, ?_⟩
          simp only [Act.put, List.setIfInBounds_toArray, List.set_cons_zero, List.set_cons_succ]
          refine dR [4] ?_
          refine qK 4 20 Try.func11 #[.agg (#[.slice A0 l0.length c0, .slice A1 l1.length c1, .slice A2 l2.length c2] : Array Value), .agg (ctx pc r (.slice A18 l.length c18)), .agg #[.int .u64 clk, .int .i64 slot, .int .i64 gen]] ?_ ?_
          · refine (C11.out A0 A1 A2 c0 c1 c2 A18 c18 _ (Kd.C_below H0.out M7.out.below) k0 (Kd.C_below H1.out M7.out.below) k1 (Kd.C_below H2.out M7.out.below) k2 (Kd.R_reads' M7.out.own).2.2 (Kd.R_reads' M7.out.own).2.1).mono ?_
            rintro e W20 ⟨v20, rfl, hR, hb⟩
            obtain ⟨A20, c20, rfl⟩ := Kd.R_slice hR
            have M8 := Aside0.mk (Mem.row M7.out hb hR)
            clear M7 hb hR
            refine ⟨_, rfl, M8.out.held (Cells.nil _) rfl, ?_⟩
            simp only [Act.put, List.setIfInBounds_toArray, List.set_cons_zero, List.set_cons_succ]
            refine dP 5 15 (.tuple #[.agg (ctx pc' r' (.slice A20 l'.length c20)), .agg (wantC q1 q2 q3 q4 q5 q6 q7 q8 q9 q10 q11)]) ?_
            simp only [Act.put, List.setIfInBounds_toArray, List.set_cons_zero, List.set_cons_succ]
            refine dP 6 21 (.agg (ctx pc' r' (.slice A20 l'.length c20))) ?_
            simp only [Act.put, List.setIfInBounds_toArray, List.set_cons_zero, List.set_cons_succ]
            refine dP 7 22 (.agg (wantC q1 q2 q3 q4 q5 q6 q7 q8 q9 q10 q11)) ?_
            simp only [Act.put, List.setIfInBounds_toArray, List.set_cons_zero, List.set_cons_succ]
            refine dR [10] ?_
            refine qS M8 10 30 7 4 (ctx pc' r' (.slice A20 l'.length c20)) ?_ ?_
            · clear M8
              intro w_ M9
              refine dR [11] ?_
              refine qS M9 11 40 8 3 (wantC q1 q2 q3 q4 q5 q6 q7 q8 q9 q10 q11) ?_ ?_
              · clear M9
                intro w_ M10
                refine dDone ?_
                exact hK (g7, g8, A18, c18, A20, c20) _ (Aside0.mk (Mem.perm M10.out (List.Perm.cons _ (List.Perm.cons _ (List.Perm.cons _ (List.Perm.swap _ _ _))))))
              exact AllReadyL.nil
            exact AllReadyL.nil
          exact AllReadyL.nil
        exact AllReadyL.nil
      exact AllReadyL.nil
    exact AllReadyL.nil
  rintro ⟨g7, g8, A18, c18, A20, c20⟩ W_1 M11
  dsimp only at M11 ⊢
  simp only [putAll, Act.put, List.setIfInBounds_toArray, List.set_cons_zero, List.set_cons_succ]
  go_wp2_with fail
  refine (lives_calls _).mono ?_
  rintro e W23 ⟨rfl, hb⟩
  have M12 := Aside0.mk (Mem.call M11.out hb)
  clear M11 hb
  by_cases b1 : q1 = 58
  · have e1 : (q1 == 58) = true := beq_iff_eq.mpr b1
    obtain ⟨e2, e3, e4⟩ := H58.out b1
    clear b1
    subst e2
    subst e3
    subst e4
    go_wp2_with (first
        | (refine eC M12 26 4 0 (.int .i64 q1) ?_)
        | (refine eL M12 28 1 hu30 ?_)
        | (refine eL M12 29 3 hu30 ?_))
    refine (same_calls pc' r' A A20 c c20 l' _ (Kd.C_below HL.out M12.out.below) (Kd.R_reads' (M12.out.ownAt 0 rfl)).2.2 hlim').mono ?_
    rintro e W30 ⟨rfl, hb⟩
    have M13 := Aside0.mk (Mem.call M12.out hb)
    clear M12 hb
    go_wp2_with fail
    go_ret
    exact ⟨rfl, M13.out.below⟩
  · have e1 : (q1 == 58) = false := beq_eq_false_iff_ne.mpr b1
    obtain ⟨f0, f1, op, a, b, c', m, mask, ha, hb, hc, m0, m1, hd, hm, hz⟩ := HN58.out b1
    clear b1
    have HD := Lib.hid hd
    have HM := Lib.hid hm
    have HZ := Lib.hid hz
    clear hd hm hz
    have f2 : decide (pc < 0) = false := by simpa using f0
    have f3 : decide (pc ≥ (l0.length : Int)) = false := by simpa using f1
    obtain ⟨ad, rfl, _⟩ := Kd.at_int H0.out pc f0 f1
    go_wp2_with (first
        | (refine eC M12 26 4 0 (.int .i64 q1) ?_)
        | (refine eC M12 32 1 0 (.int .i64 pc) ?_)
        | ((with_reducible refine gate_dst (N := 36) rfl ?_); (refine gate_guard (by rfl) ?_; dsimp only); refine eC M12 36 1 0 (.int .i64 pc) ?_)
        | ((with_reducible refine gate_dst (N := 38) rfl ?_); (refine gate_guard (by rfl) ?_; dsimp only); refine eC M12 38 0 0 (.slice (some ad) l0.length c0) ?_)
        | (refine eC M12 44 0 0 (.slice (some ad) l0.length c0) ?_)
        | (refine eC M12 46 1 0 (.int .i64 pc) ?_)
        | ((with_reducible refine gate_dst (N := 48) rfl ?_); obtain ⟨ad_, e_, hx_⟩ := Kd.at_int (Kd.C_below H0.out M12.out.below) pc f0 f1; cases e_; refine eX 48 hx_ ?_; clear hx_))
    refine (rotaref06_Decode.calls _ _ _ _ _ _ _ _ HD.out).mono ?_
    rintro e W49 ⟨rfl, hb⟩
    have M13 := Aside0.mk (Mem.call M12.out hb)
    clear M12 hb
    go_wp2_with (first
        | (refine eB M13 9 (instC 0 0 0 0 0) 37 ?_; clear M13; intro g9 w9 M14)
        | (refine eR M14 37 9 5 #[.int .i64 op, .int .i64 (a : Int), .int .i64 (b : Int), .int .i64 (c' : Int), .int .i64 m] ?_; clear M14; intro w_ M15)
        | (refine eL M15 53 5 hu37 ?_))
    refine (rotaref06_Writes.calls 5 op a b c' m mask 0 _ (HM.out 5 (Nat.le_refl 5))).mono ?_
    rintro e W54 ⟨rfl, hb⟩
    have M16 := Aside0.mk (Mem.call M15.out hb)
    clear M15 hb
    go_wp2_with (first
        | (refine eL M16 63 3 hu30 ?_)
        | ((with_reducible refine gate_dst (N := 65) rfl ?_); refine wpList_load_mid rfl 37 (.tmp 64) rfl g8 1 rfl [.int .i64 q2, .int .i64 q3, .int .i64 q4, .int .i64 q5, .int .i64 q6] _ (World.rangeAt_of_block (M16.out.at 4 rfl) 1 5) hu37 rfl (by kernel_rfl) ?_))
    refine (answer20 q2 q3 q4 q5 q6 11 12 pc' r' A20 c20 l' _ (Kd.R_reads' (M16.out.ownAt 0 rfl)).2.2 (Kd.R_reads' (M16.out.ownAt 0 rfl)).2.1 hlim').mono ?_
    rintro e W66 ⟨v66, rfl, hR, hb⟩
    obtain ⟨A66, c66, rfl⟩ := Kd.R_slice hR
    have M17 := Aside0.mk (Mem.row M16.out hb hR)
    clear M16 hR hb
    go_wp2_with (first
        | (refine eB M17 13 (ctx 0 zeroR (.slice none 0 0)) 30 ?_; clear M17; intro g13 w13 M18)
        | (refine eR M18 30 13 6 (ctx pc' (ansR q2 q3 q4 q5 11 12 r') (.slice A66 l'.length c66)) ?_; clear M18; intro w_ M19))
    go_loopw [14] (fun v14 wr => ∃ k : Nat, k ≤ 16 ∧ v14 = .int .i64 k ∧ Mem [3] w wr [(g3, (#[.slice (some ad) l0.length c0, .slice A1 l1.length c1, .slice A2 l2.length c2] : Array Value), 26), (g4, (ctx pc r (.slice A l.length c)), 30), (g5, #[.int .u64 clk, .int .i64 slot, .int .i64 gen], 35), (g7, (ctx pc' r' (.slice A20 l'.length c20)), 30), (g8, (wantC q1 q2 q3 q4 q5 q6 q7 q8 q9 q10 q11), 40), (g9, #[.int .i64 op, .int .i64 (a : Int), .int .i64 (b : Int), .int .i64 (c' : Int), .int .i64 m], 37), (g13, (ctx pc' (ansR q2 q3 q4 q5 11 12 r') (.slice A66 l'.length c66)), 30)] [⟨Kd.int .i64, 3, .slice A66 l'.length c66, l'⟩, ⟨Kd.int .i64, 3, .slice A20 l'.length c20, l'⟩, ⟨Kd.int .i64, 3, .slice A18 l.length c18, l⟩]) (fun v14 _ => 16 - (intOf v14).toNat)
    case atStart => exact ⟨0, by omega, rfl, M19.out⟩
    obtain ⟨k, hk, rfl, M⟩ := hrel
    have ML := Aside0.mk M
    clear M M19
    have M20 := ML
    clear ML
    by_cases bK : k < 16
    · have p1 : (0 : Int) ≤ (k : Int) := by omega
      have p2 : (k : Int) < 16 := by omega
      have hk6 : k < 16 := bK
      have hw64 : IntKind.u64.wrap (k : Int) = (k : Int) := wrap_u64 bK
      go_wp2_with fail
      by_cases bz : bitZero mask k = true
      · have z1 : (Go.bits .and .u16 (mask / 2 ^ k) 1 == 0) = true := bz
        have z2 : (r'.get k != r.get k) = false := bne_eq_false_iff_eq.mpr (HZ.out k hk6 bz).1
        have z3 : ((ansR q2 q3 q4 q5 11 12 r').get k != r.get k) = false := bne_eq_false_iff_eq.mpr (HZ.out k hk6 bz).2
        clear bz
        refine dStart [] [] M20 (fun w' M => ?_)
        clear M20
        have M21 := M
        clear M
        refine dP 0 71 (.int .u16 mask) ?_
        simp only [Act.put, List.setIfInBounds_toArray, List.set_cons_zero, List.set_cons_succ]
        refine dP 1 72 (.int .i64 (k : Int)) ?_
        simp only [Act.put, List.setIfInBounds_toArray, List.set_cons_zero, List.set_cons_succ]
        refine dP 2 73 (.int .u64 (k : Int)) ?_
        simp only [Act.put, List.setIfInBounds_toArray, List.set_cons_zero, List.set_cons_succ]
        refine dP 3 74 (.int .u16 (mask / 2 ^ k)) ?_
        simp only [Act.put, List.setIfInBounds_toArray, List.set_cons_zero, List.set_cons_succ]
        refine dP 4 75 (.int .u16 (Go.bits .and .u16 (mask / 2 ^ k) 1)) ?_
        simp only [Act.put, List.setIfInBounds_toArray, List.set_cons_zero, List.set_cons_succ]
        refine dP 5 76 (.bool true) ?_
        simp only [Act.put, List.setIfInBounds_toArray, List.set_cons_zero, List.set_cons_succ]
        refine dP 6 77 (.bool true) ?_
        simp only [Act.put, List.setIfInBounds_toArray, List.set_cons_zero, List.set_cons_succ]
        refine dP 7 78 (.int .i64 (k : Int)) ?_
        simp only [Act.put, List.setIfInBounds_toArray, List.set_cons_zero, List.set_cons_succ]
        refine dP 8 79 (.pointer (some ⟨g7, 1, none⟩)) ?_
        simp only [Act.put, List.setIfInBounds_toArray, List.set_cons_zero, List.set_cons_succ]
        refine dP 9 80 (.pointer (some ⟨g7, 1 + k, none⟩)) ?_
        simp only [Act.put, List.setIfInBounds_toArray, List.set_cons_zero, List.set_cons_succ]
        refine dC M21 10 81 3 (1 + k) (.int .i64 (r'.get k)) (hv := ctx_reg pc' r' (.slice A20 l'.length c20) k hk6) ?_
        simp only [Act.put, List.setIfInBounds_toArray, List.set_cons_zero, List.set_cons_succ]
        refine dP 11 82 (.int .i64 (k : Int)) ?_
        simp only [Act.put, List.setIfInBounds_toArray, List.set_cons_zero, List.set_cons_succ]
        refine dP 12 83 (.pointer (some ⟨g4, 1, none⟩)) ?_
        simp only [Act.put, List.setIfInBounds_toArray, List.set_cons_zero, List.set_cons_succ]
        refine dP 13 84 (.pointer (some ⟨g4, 1 + k, none⟩)) ?_
        simp only [Act.put, List.setIfInBounds_toArray, List.set_cons_zero, List.set_cons_succ]
        refine dC M21 14 85 1 (1 + k) (.int .i64 (r.get k)) (hv := ctx_reg pc r (.slice A l.length c) k hk6) ?_
        simp only [Act.put, List.setIfInBounds_toArray, List.set_cons_zero, List.set_cons_succ]
        refine dP 15 86 (.bool false) ?_
        simp only [Act.put, List.setIfInBounds_toArray, List.set_cons_zero, List.set_cons_succ]
        refine dP 16 87 (.bool false) ?_
        simp only [Act.put, List.setIfInBounds_toArray, List.set_cons_zero, List.set_cons_succ]
        refine dP 17 88 (.int .i64 (k : Int)) ?_
        simp only [Act.put, List.setIfInBounds_toArray, List.set_cons_zero, List.set_cons_succ]
        refine dP 18 89 (.pointer (some ⟨g13, 1, none⟩)) ?_
        simp only [Act.put, List.setIfInBounds_toArray, List.set_cons_zero, List.set_cons_succ]
        refine dP 19 90 (.pointer (some ⟨g13, 1 + k, none⟩)) ?_
        simp only [Act.put, List.setIfInBounds_toArray, List.set_cons_zero, List.set_cons_succ]
        refine dC M21 20 91 6 (1 + k) (.int .i64 ((ansR q2 q3 q4 q5 11 12 r').get k)) (hv := ctx_reg pc' (ansR q2 q3 q4 q5 11 12 r') (.slice A66 l'.length c66) k hk6) ?_
        simp only [Act.put, List.setIfInBounds_toArray, List.set_cons_zero, List.set_cons_succ]
        refine dP 21 92 (.int .i64 (k : Int)) ?_
        simp only [Act.put, List.setIfInBounds_toArray, List.set_cons_zero, List.set_cons_succ]
        refine dP 22 93 (.pointer (some ⟨g4, 1, none⟩)) ?_
        simp only [Act.put, List.setIfInBounds_toArray, List.set_cons_zero, List.set_cons_succ]
        refine dP 23 94 (.pointer (some ⟨g4, 1 + k, none⟩)) ?_
        simp only [Act.put, List.setIfInBounds_toArray, List.set_cons_zero, List.set_cons_succ]
        refine dC M21 24 95 1 (1 + k) (.int .i64 (r.get k)) (hv := ctx_reg pc r (.slice A l.length c) k hk6) ?_
        simp only [Act.put, List.setIfInBounds_toArray, List.set_cons_zero, List.set_cons_succ]
        refine dP 25 96 (.bool false) ?_
        simp only [Act.put, List.setIfInBounds_toArray, List.set_cons_zero, List.set_cons_succ]
        refine dP 26 97 (.bool false) ?_
        simp only [Act.put, List.setIfInBounds_toArray, List.set_cons_zero, List.set_cons_succ]
        refine dP 27 98 (.bool false) ?_
        simp only [Act.put, List.setIfInBounds_toArray, List.set_cons_zero, List.set_cons_succ]
        refine dDone ?_
        go_wp2_with fail
        go_roundw
        case rel => exact ⟨k + 1, by omega, by go_num, M21.out⟩
        case measure => simp [intOf]; omega
      · have z1 : (Go.bits .and .u16 (mask / 2 ^ k) 1 == 0) = false := Bool.eq_false_iff.mpr bz
        clear bz
        refine dStart [] [] M20 (fun w' M => ?_)
        clear M20
        have M21 := M
        clear M
        refine dP 0 71 (.int .u16 mask) ?_
        simp only [Act.put, List.setIfInBounds_toArray, List.set_cons_zero, List.set_cons_succ]
        refine dP 1 72 (.int .i64 (k : Int)) ?_
        simp only [Act.put, List.setIfInBounds_toArray, List.set_cons_zero, List.set_cons_succ]
        refine dP 2 73 (.int .u64 (k : Int)) ?_
        simp only [Act.put, List.setIfInBounds_toArray, List.set_cons_zero, List.set_cons_succ]
        refine dP 3 74 (.int .u16 (mask / 2 ^ k)) ?_
        simp only [Act.put, List.setIfInBounds_toArray, List.set_cons_zero, List.set_cons_succ]
        refine dP 4 75 (.int .u16 (Go.bits .and .u16 (mask / 2 ^ k) 1)) ?_
        simp only [Act.put, List.setIfInBounds_toArray, List.set_cons_zero, List.set_cons_succ]
        refine dP 5 76 (.bool false) ?_
        simp only [Act.put, List.setIfInBounds_toArray, List.set_cons_zero, List.set_cons_succ]
        refine dP 6 77 (.bool false) ?_
        simp only [Act.put, List.setIfInBounds_toArray, List.set_cons_zero, List.set_cons_succ]
        refine dN 7 78 ?_
        simp only [Act.put, List.setIfInBounds_toArray, List.set_cons_zero, List.set_cons_succ]
        refine dN 8 79 ?_
        simp only [Act.put, List.setIfInBounds_toArray, List.set_cons_zero, List.set_cons_succ]
        refine dN 9 80 ?_
        simp only [Act.put, List.setIfInBounds_toArray, List.set_cons_zero, List.set_cons_succ]
        refine dN 10 81 ?_
        simp only [Act.put, List.setIfInBounds_toArray, List.set_cons_zero, List.set_cons_succ]
        refine dN 11 82 ?_
        simp only [Act.put, List.setIfInBounds_toArray, List.set_cons_zero, List.set_cons_succ]
        refine dN 12 83 ?_
        simp only [Act.put, List.setIfInBounds_toArray, List.set_cons_zero, List.set_cons_succ]
        refine dN 13 84 ?_
        simp only [Act.put, List.setIfInBounds_toArray, List.set_cons_zero, List.set_cons_succ]
        refine dN 14 85 ?_
        simp only [Act.put, List.setIfInBounds_toArray, List.set_cons_zero, List.set_cons_succ]
        refine dN 15 86 ?_
        simp only [Act.put, List.setIfInBounds_toArray, List.set_cons_zero, List.set_cons_succ]
        refine dN 16 87 ?_
        simp only [Act.put, List.setIfInBounds_toArray, List.set_cons_zero, List.set_cons_succ]
        refine dN 17 88 ?_
        simp only [Act.put, List.setIfInBounds_toArray, List.set_cons_zero, List.set_cons_succ]
        refine dN 18 89 ?_
        simp only [Act.put, List.setIfInBounds_toArray, List.set_cons_zero, List.set_cons_succ]
        refine dN 19 90 ?_
        simp only [Act.put, List.setIfInBounds_toArray, List.set_cons_zero, List.set_cons_succ]
        refine dN 20 91 ?_
        simp only [Act.put, List.setIfInBounds_toArray, List.set_cons_zero, List.set_cons_succ]
        refine dN 21 92 ?_
        simp only [Act.put, List.setIfInBounds_toArray, List.set_cons_zero, List.set_cons_succ]
        refine dN 22 93 ?_
        simp only [Act.put, List.setIfInBounds_toArray, List.set_cons_zero, List.set_cons_succ]
        refine dN 23 94 ?_
        simp only [Act.put, List.setIfInBounds_toArray, List.set_cons_zero, List.set_cons_succ]
        refine dN 24 95 ?_
        simp only [Act.put, List.setIfInBounds_toArray, List.set_cons_zero, List.set_cons_succ]
        refine dN 25 96 ?_
        simp only [Act.put, List.setIfInBounds_toArray, List.set_cons_zero, List.set_cons_succ]
        refine dN 26 97 ?_
        simp only [Act.put, List.setIfInBounds_toArray, List.set_cons_zero, List.set_cons_succ]
        refine dP 27 98 (.bool false) ?_
        simp only [Act.put, List.setIfInBounds_toArray, List.set_cons_zero, List.set_cons_succ]
        refine dDone ?_
        go_wp2_with fail
        go_roundw
        case rel => exact ⟨k + 1, by omega, by go_num, M21.out⟩
        case measure => simp [intOf]; omega
    · have p2 : ¬ (k : Int) < 16 := by omega
      go_wp2_with fail
      go_ret
      exact ⟨rfl, M20.out.below⟩
end Go.Proofs.Ythjfmlehkcccfaa.Hlaw8
end

section
/-
  An instruction changes the registers that layer 6 tells, and no others; with a trap nothing.
-/
set_option linter.unusedVariables false
set_option linter.unusedSimpArgs false
namespace Go.Proofs.Ythjfmlehkcccfaa.stepWrites
open Go.ChangeShapes Go.WideShapes Go.ChangeAt Go.RowKit Go.Proofs.YthjfmlehkcccfaaW.PrintWords Go.Proofs.Ythjfmlehkcccfaa.Opn
open Go.ChangeMaps (open_string shut_string)
theorem own : ownKnob Try.prog.godebug = none := by kernel_rfl
theorem laidOut : laidOutB Try.prog = true := by kernel_rfl
set_option maxRecDepth 100000 in
theorem lifted (os : Os) (started : os.Started) (H : Type) (enc : TypeId × Value → H) :
    ReturnsInHanded {} Try.checked os 8 .any (Rows.stepWritesSpec.pre6 enc Try.prog Try.f8 Rows.stepWritesRow.domain false) (Rows.stepWritesSpec.post enc Try.prog Try.f8 false true false false) := by
  refine returnsInHanded_of_change_sized (C := Try.checked) own started (by kernel_rfl) Try.func8
    (ChangeSpec.witness6 (enc := enc) (C := Try.checked) false ⟨#[], #[.agg #[.slice none 0 0, .slice none 0 0, .slice none 0 0], .agg #[.int .i64 0, .int .i64 0, .int .i64 0, .int .i64 0, .int .i64 0, .int .i64 0, .int .i64 0, .int .i64 0, .int .i64 0, .int .i64 0, .int .i64 0, .int .i64 0, .int .i64 0, .int .i64 0, .int .i64 0, .int .i64 0, .int .i64 0, .slice none 0 0], .agg #[.int .u64 0, .int .i64 0, .int .i64 0]], []⟩ 8 (by kernel_rfl) (by kernel_rfl) (by kernel_rfl) (by kernel_rfl)) ?_
  intro W base args ds gs before hval0 hW hcnd hsz0 _
  have hsz : (DataW.weightsEach Try.prog (Try.f8.params.toList ++ Rows.stepWritesSpec.plain.varTypes Try.prog) (ds ++ gs)).all (· ≤ reachBytes) = true := hsz0
  have hval : ∀ (j : Nat) t v, Try.f8.params[j]? = some t → args[j]? = some v → Value.okWide Try.prog W .any base t v := hval0
  have hW' := hW
  obtain ⟨p, q, hA0, hV, rfl, hfz, hnd⟩ := hW
  have hA : DataW.TrodAll enc Try.prog W 0 (fun _ => true) true Try.f8.params.toList args.toList ds p := hA0
  rw [Try.params8] at hA hval hsz
  obtain ⟨v0, vs0, d0, ds0, p0, q0, hargs, rfl, rfl, h0, r0⟩ := trodAll_cons hA
  obtain ⟨v1, vs1, d1, ds1, p1, q1, rfl, rfl, rfl, h1, r1⟩ := trodAll_cons r0
  obtain ⟨v2, vs2, d2, ds2, p2, q2, rfl, rfl, rfl, h2, r2⟩ := trodAll_cons r1
  obtain ⟨rfl, rfl, rfl⟩ := trodAll_nil r2
  obtain rfl : args = #[v0, v1, v2] := by cases args; simp_all
  obtain ⟨rfl, rfl⟩ := trodVars_none hV
  have k0 := h0
  have lt0 : ∀ x ∈ p0, x.block < W.heap.size := by obtain ⟨m, hm⟩ := k0; exact DataW.trod_lt m _ _ _ hm
  have ws0 : ∀ n ∈ d0.weights Try.prog 26, n ≤ reachBytes := fun n hn => by simpa using List.all_eq_true.1 hsz n (DataW.weights_mem_each (j := 0) rfl rfl n hn)
  obtain ⟨x0, K0, G0⟩ : ∃ x, (Kinds.kPrg).K W x v0.cells.toList ∧ Kinds.GPrg x (Rows.uptoBulk d0) := by
    obtain ⟨fuel, hf⟩ := h0
    exact Kinds.o26.opens enc W 0 _ _ fuel _ _ hf ws0
  obtain ⟨cs0, rfl, _⟩ := Go.WideShapes.okWide_struct Try.underlying26 (hval 0 26 v0 rfl rfl)
  obtain ⟨A0, c0, A1, c1, A2, c2, E0, kk0, hh0, kk1, hh1, kk2, hh2⟩ := Kinds.kPrg_open K0
  obtain rfl := Array.toList_inj.1 (E0.trans (by rfl) : cs0.toList = (#[.slice A0 x0.l0.length c0, .slice A1 x0.l1.length c1, .slice A2 x0.l2.length c2] : Array Value).toList)
  have k1 := h1
  have lt1 : ∀ x ∈ p1, x.block < W.heap.size := by obtain ⟨m, hm⟩ := k1; exact DataW.trod_lt m _ _ _ hm
  have ws1 : ∀ n ∈ d1.weights Try.prog 30, n ≤ reachBytes := fun n hn => by simpa using List.all_eq_true.1 hsz n (DataW.weights_mem_each (j := 1) rfl rfl n hn)
  obtain ⟨x1, K1, G1⟩ : ∃ x, (Kinds.kCtx).K W x v1.cells.toList ∧ Kinds.GCtx x (Rows.uptoBulk d1) := by
    obtain ⟨fuel, hf⟩ := h1
    exact Kinds.o30.opens enc W 0 _ _ fuel _ _ hf ws1
  obtain ⟨cs1, rfl, _⟩ := Go.WideShapes.okWide_struct Try.underlying30 (hval 1 30 v1 rfl rfl)
  obtain ⟨A, c, E1, kk3, hh3⟩ := Kinds.kCtx_open K1
  obtain rfl := Array.toList_inj.1 E1
  have k2 := h2
  have lt2 : ∀ x ∈ p2, x.block < W.heap.size := by obtain ⟨m, hm⟩ := k2; exact DataW.trod_lt m _ _ _ hm
  have ws2 : ∀ n ∈ d2.weights Try.prog 35, n ≤ reachBytes := fun n hn => by simpa using List.all_eq_true.1 hsz n (DataW.weights_mem_each (j := 2) rfl rfl n hn)
  obtain ⟨x2, K2, G2⟩ : ∃ x, (Kinds.kEnv).K W x v2.cells.toList ∧ Kinds.GEnv x (Rows.uptoBulk d2) := by
    obtain ⟨fuel, hf⟩ := h2
    exact Kinds.o35.opens enc W 0 _ _ fuel _ _ hf ws2
  obtain ⟨cs2, rfl, _⟩ := Go.WideShapes.okWide_struct Try.underlying35 (hval 2 35 v2 rfl rfl)
  obtain rfl := Array.toList_inj.1 ((Kinds.kEnv_open K2).trans (by rfl) : cs2.toList = (#[.int .u64 x2.clk, .int .i64 x2.slot, .int .i64 x2.gen] : Array Value).toList)
  clear hA0 hval hsz
  refine (Hlaw8.law_writes x0.l0 x0.l1 x0.l2 A0 A1 A2 c0 c1 c2 x1.pc x1.r A c x1.l x2.clk x2.slot x2.gen W hh0 kk0 hh1 kk1 hh2 kk2 hh3 kk3 (Kinds.calls_lt G1.2.2) (Kinds.words_lt G0.1)).mono fun e W' ⟨he, bel⟩ => ?_
  subst he
  exact ⟨_, rfl, _, _, _, [], _, [], hW', trodAll_mk1 (shut_bool Try.underlying4 _), (trodAll_cons_mk (Below.trod laidOut (by kernel_rfl) (of_decide_eq_true (by kernel_rfl)) k0 bel lt0) (trodAll_cons_mk (Below.trod laidOut (by kernel_rfl) (of_decide_eq_true (by kernel_rfl)) k1 bel lt1) (trodAll_cons_mk (Below.trod laidOut (by kernel_rfl) (of_decide_eq_true (by kernel_rfl)) k2 bel lt2) trodAll_mk0))), rfl, bel.frame _, fun h => by cases h⟩
theorem over : Rows.stepWritesRow.holds Try.pinned (OpenSpec.ofChange Rows.stepWritesSpec) :=
  OpenClaim.holds_of_wide 8 Try.f8 rfl rfl rfl rfl rfl rfl rfl ⟨rfl, rfl, rfl, rfl, rfl⟩ rfl rfl rfl rfl rfl (by kernel_rfl) Try.func8 (by kernel_rfl)
    (of_decide_eq_true (by kernel_rfl)) (by unfold Func.isWrapper; first | (rw [if_pos (by decide +kernel)]; kernel_rfl) | (rw [if_neg (by decide +kernel)]; exact ⟨rfl, rfl⟩))
    (fun os started H enc _ => lifted os started H enc)
theorem proved : Rows.StepWritesSaid := over
end Go.Proofs.Ythjfmlehkcccfaa.stepWrites
namespace Go.Proofs.Ythjfmlehkcccfaa
theorem stepWrites_holds : Rows.StepWritesSaid := stepWrites.proved
end Go.Proofs.Ythjfmlehkcccfaa
end
