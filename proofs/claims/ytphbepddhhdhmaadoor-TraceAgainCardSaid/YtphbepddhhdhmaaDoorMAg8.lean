import Derived.Test.YtphbepddhhdhmaaDoorMAg1
import Derived.Test.YtphbepddhhdhmaaDoorMAg7
import Derived.Test.YtphbepddhhdhmaaDoorMAg3
import Derived.Deep.QuietTactic
import Derived.BigQuiet
import Derived.Lib.Hide
import Derived.WalkKit
import Derived.Outline
section
/-
  rotaref25.may: its contract, walked short.
-/
set_option linter.unusedVariables false
set_option linter.unusedSimpArgs false
namespace Go.Proofs.YtphbepddhhdhmaaDoor.GA
open Go.RowKit Go.Proofs.YtphbepddhhdhmaaDoorW.PrintWords Go.Proofs.YtphbepddhhdhmaaDoorW.PrintLast Go.Proofs.YtphbepddhhdhmaaDoorW.PrintMore GA Hctx

attribute [local go_sem high] eqA36
def rotaref25_may.f (a0_0 : Int) (a0_1 : Int) (a0_2 : Int) (a0_3 : Int) (a0_4 : Int) (a0_5 : Int) (a0_6 : Int) (a0_7 : Int) : Option (Bool) := if a0_4 < 1 then (some false) else ((rotaref25_names.f).bind fun t121 => (if a0_4 > (t121.length : Int) then (some false) else (if a0_1 < (-1) then (some false) else (if a0_1 ≥ 64 then (some false) else (if a0_2 < 0 then (some false) else (if a0_3 < 0 then (some false) else (if a0_4 = 36 then (some (a0_1 == (-1) && ((a0_2 == 0 && (a0_3 == 0)) && (a0_4 == 36 && (a0_5 == 0 && (a0_6 == 0 && (a0_7 == 0))))))) else (some true))))))))
set_option maxHeartbeats 4000000 in
set_option maxRecDepth 100000 in
theorem rotaref25_may.calls (a0_0 : Int) (a0_1 : Int) (a0_2 : Int) (a0_3 : Int) (a0_4 : Int) (a0_5 : Int) (a0_6 : Int) (a0_7 : Int) (r : Bool) (w : World) (h : rotaref25_may.f a0_0 a0_1 a0_2 a0_3 a0_4 a0_5 a0_6 a0_7 = some r) :
    Calls Tryd.prog 34 #[.agg #[.int .u64 a0_0, .int .i64 a0_1, .int .i64 a0_2, .int .i64 a0_3, .int .i64 a0_4, .int .i64 a0_5, .int .i64 a0_6, .int .i64 a0_7]] w fun e w' => e = .returned (.bool r) ∧ Below w.heap.size w w' := by
  have hu36 := Tryd.underlying36
  unfold rotaref25_may.f at h
  have HH := Aside0.mk h
  clear h
  have NS := Lib.hid (show rotaref25_names.f = some Laid.names from rfl)
  have M0 := Aside0.mk (Mem.start [5] w)
  go_enter Tryd.func34, Tryd.ntmps34
  go_wp2_with (first
      | (refine eB M0 1 #[.int .u64 a0_0, .int .i64 a0_1, .int .i64 a0_2, .int .i64 a0_3, .int .i64 a0_4, .int .i64 a0_5, .int .i64 a0_6, .int .i64 a0_7] 36 ?_; clear M0; intro g1 w1 M1))
  go_wp2_with fail
  by_cases bT5 : a0_4 < 1
  · have d5 : decide (a0_4 < 1) = true := decide_eq_true bT5
    have H1 := HH.out
    rw [if_pos bT5] at H1
    replace HH := Aside0.mk H1
    clear H1
    refine dStart [] [] M1 (fun w' M => ?_)
    clear M1
    have M2 := M
    clear M
    refine dP 0 3 (.pointer (some ⟨g1, 4, none⟩)) ?_
    simp only [Act.put, List.setIfInBounds_toArray, List.set_cons_zero, List.set_cons_succ]
    refine dC M2 1 4 0 4 (.int .i64 a0_4) ?_
    simp only [Act.put, List.setIfInBounds_toArray, List.set_cons_zero, List.set_cons_succ]
    refine dP 2 5 (.bool true) ?_
    simp only [Act.put, List.setIfInBounds_toArray, List.set_cons_zero, List.set_cons_succ]
    refine dP 3 6 (.bool true) ?_
    simp only [Act.put, List.setIfInBounds_toArray, List.set_cons_zero, List.set_cons_succ]
    refine dN 4 7 ?_
    simp only [Act.put, List.setIfInBounds_toArray, List.set_cons_zero, List.set_cons_succ]
    refine dN 5 8 ?_
    simp only [Act.put, List.setIfInBounds_toArray, List.set_cons_zero, List.set_cons_succ]
    refine dN 6 9 ?_
    simp only [Act.put, List.setIfInBounds_toArray, List.set_cons_zero, List.set_cons_succ]
    refine dN 7 10 ?_
    simp only [Act.put, List.setIfInBounds_toArray, List.set_cons_zero, List.set_cons_succ]
    refine dN 8 11 ?_
    simp only [Act.put, List.setIfInBounds_toArray, List.set_cons_zero, List.set_cons_succ]
    refine dP 9 12 (.bool true) ?_
    simp only [Act.put, List.setIfInBounds_toArray, List.set_cons_zero, List.set_cons_succ]
    refine dP 10 13 (.bool true) ?_
    simp only [Act.put, List.setIfInBounds_toArray, List.set_cons_zero, List.set_cons_succ]
    refine dN 11 14 ?_
    simp only [Act.put, List.setIfInBounds_toArray, List.set_cons_zero, List.set_cons_succ]
    refine dN 12 15 ?_
    simp only [Act.put, List.setIfInBounds_toArray, List.set_cons_zero, List.set_cons_succ]
    refine dN 13 16 ?_
    simp only [Act.put, List.setIfInBounds_toArray, List.set_cons_zero, List.set_cons_succ]
    refine dP 14 17 (.bool true) ?_
    simp only [Act.put, List.setIfInBounds_toArray, List.set_cons_zero, List.set_cons_succ]
    refine dP 15 18 (.bool true) ?_
    simp only [Act.put, List.setIfInBounds_toArray, List.set_cons_zero, List.set_cons_succ]
    refine dN 16 19 ?_
    simp only [Act.put, List.setIfInBounds_toArray, List.set_cons_zero, List.set_cons_succ]
    refine dN 17 20 ?_
    simp only [Act.put, List.setIfInBounds_toArray, List.set_cons_zero, List.set_cons_succ]
    refine dN 18 21 ?_
    simp only [Act.put, List.setIfInBounds_toArray, List.set_cons_zero, List.set_cons_succ]
    refine dP 19 22 (.bool true) ?_
    simp only [Act.put, List.setIfInBounds_toArray, List.set_cons_zero, List.set_cons_succ]
    refine dP 20 23 (.bool true) ?_
    simp only [Act.put, List.setIfInBounds_toArray, List.set_cons_zero, List.set_cons_succ]
    refine dN 21 24 ?_
    simp only [Act.put, List.setIfInBounds_toArray, List.set_cons_zero, List.set_cons_succ]
    refine dN 22 25 ?_
    simp only [Act.put, List.setIfInBounds_toArray, List.set_cons_zero, List.set_cons_succ]
    refine dN 23 26 ?_
    simp only [Act.put, List.setIfInBounds_toArray, List.set_cons_zero, List.set_cons_succ]
    refine dN 24 27 ?_
    simp only [Act.put, List.setIfInBounds_toArray, List.set_cons_zero, List.set_cons_succ]
    refine dP 25 28 (.bool true) ?_
    simp only [Act.put, List.setIfInBounds_toArray, List.set_cons_zero, List.set_cons_succ]
    refine dP 26 29 (.bool true) ?_
    simp only [Act.put, List.setIfInBounds_toArray, List.set_cons_zero, List.set_cons_succ]
    refine dN 27 30 ?_
    simp only [Act.put, List.setIfInBounds_toArray, List.set_cons_zero, List.set_cons_succ]
    refine dN 28 31 ?_
    simp only [Act.put, List.setIfInBounds_toArray, List.set_cons_zero, List.set_cons_succ]
    refine dN 29 32 ?_
    simp only [Act.put, List.setIfInBounds_toArray, List.set_cons_zero, List.set_cons_succ]
    refine dN 30 33 ?_
    simp only [Act.put, List.setIfInBounds_toArray, List.set_cons_zero, List.set_cons_succ]
    refine dP 31 34 (.bool true) ?_
    simp only [Act.put, List.setIfInBounds_toArray, List.set_cons_zero, List.set_cons_succ]
    refine dDone ?_
    go_wp2_with fail
    go_ret
    exact ⟨by (rw [← Option.some.inj HH.out]; try rfl), M2.out.below⟩
  · have d5 : decide (a0_4 < 1) = false := decide_eq_false bT5
    have H1 := HH.out
    rw [if_neg bT5] at H1
    rw [NS.out, Option.bind_some, show (Laid.names.length : Int) = 36 from rfl] at H1
    replace HH := Aside0.mk H1
    clear H1
    go_wp2_with fail
    by_cases bT11 : a0_4 > 36
    · have d11 : decide (a0_4 > 36) = true := decide_eq_true bT11
      have H1 := HH.out
      rw [if_pos bT11] at H1
      replace HH := Aside0.mk H1
      clear H1
      refine dStart [] [] M1 (fun w' M => ?_)
      clear M1
      have M2 := M
      clear M
      refine dP 0 3 (.pointer (some ⟨g1, 4, none⟩)) ?_
      simp only [Act.put, List.setIfInBounds_toArray, List.set_cons_zero, List.set_cons_succ]
      refine dC M2 1 4 0 4 (.int .i64 a0_4) ?_
      simp only [Act.put, List.setIfInBounds_toArray, List.set_cons_zero, List.set_cons_succ]
      refine dP 2 5 (.bool false) ?_
      simp only [Act.put, List.setIfInBounds_toArray, List.set_cons_zero, List.set_cons_succ]
      refine dP 3 6 (.bool false) ?_
      simp only [Act.put, List.setIfInBounds_toArray, List.set_cons_zero, List.set_cons_succ]
      refine dP 4 7 (.pointer (some ⟨g1, 4, none⟩)) ?_
      simp only [Act.put, List.setIfInBounds_toArray, List.set_cons_zero, List.set_cons_succ]
      refine dC M2 5 8 0 4 (.int .i64 a0_4) ?_
      simp only [Act.put, List.setIfInBounds_toArray, List.set_cons_zero, List.set_cons_succ]
      refine dR [6] ?_
      refine qK 6 9 Tryd.func32 #[] ?_ AllReadyL.nil
      refine (rotaref25_names.calls Laid.names _ NS.out).mono ?_
      rintro e W9 ⟨v9, rfl, hR, hb⟩
      obtain ⟨A9, c9, rfl⟩ := Kd.R_slice hR
      have M3 := Aside0.mk (Mem.call M2.out hb)
      clear M2 hb hR
      refine ⟨_, rfl, M3.out.held (Cells.nil _) rfl, ?_⟩
      simp only [Act.put, List.setIfInBounds_toArray, List.set_cons_zero, List.set_cons_succ]
      refine dP 7 10 (.int .i64 36) ?_
      simp only [Act.put, List.setIfInBounds_toArray, List.set_cons_zero, List.set_cons_succ]
      refine dP 8 11 (.bool true) ?_
      simp only [Act.put, List.setIfInBounds_toArray, List.set_cons_zero, List.set_cons_succ]
      refine dP 9 12 (.bool true) ?_
      simp only [Act.put, List.setIfInBounds_toArray, List.set_cons_zero, List.set_cons_succ]
      refine dP 10 13 (.bool true) ?_
      simp only [Act.put, List.setIfInBounds_toArray, List.set_cons_zero, List.set_cons_succ]
      refine dN 11 14 ?_
      simp only [Act.put, List.setIfInBounds_toArray, List.set_cons_zero, List.set_cons_succ]
      refine dN 12 15 ?_
      simp only [Act.put, List.setIfInBounds_toArray, List.set_cons_zero, List.set_cons_succ]
      refine dN 13 16 ?_
      simp only [Act.put, List.setIfInBounds_toArray, List.set_cons_zero, List.set_cons_succ]
      refine dP 14 17 (.bool true) ?_
      simp only [Act.put, List.setIfInBounds_toArray, List.set_cons_zero, List.set_cons_succ]
      refine dP 15 18 (.bool true) ?_
      simp only [Act.put, List.setIfInBounds_toArray, List.set_cons_zero, List.set_cons_succ]
      refine dN 16 19 ?_
      simp only [Act.put, List.setIfInBounds_toArray, List.set_cons_zero, List.set_cons_succ]
      refine dN 17 20 ?_
      simp only [Act.put, List.setIfInBounds_toArray, List.set_cons_zero, List.set_cons_succ]
      refine dN 18 21 ?_
      simp only [Act.put, List.setIfInBounds_toArray, List.set_cons_zero, List.set_cons_succ]
      refine dP 19 22 (.bool true) ?_
      simp only [Act.put, List.setIfInBounds_toArray, List.set_cons_zero, List.set_cons_succ]
      refine dP 20 23 (.bool true) ?_
      simp only [Act.put, List.setIfInBounds_toArray, List.set_cons_zero, List.set_cons_succ]
      refine dN 21 24 ?_
      simp only [Act.put, List.setIfInBounds_toArray, List.set_cons_zero, List.set_cons_succ]
      refine dN 22 25 ?_
      simp only [Act.put, List.setIfInBounds_toArray, List.set_cons_zero, List.set_cons_succ]
      refine dN 23 26 ?_
      simp only [Act.put, List.setIfInBounds_toArray, List.set_cons_zero, List.set_cons_succ]
      refine dN 24 27 ?_
      simp only [Act.put, List.setIfInBounds_toArray, List.set_cons_zero, List.set_cons_succ]
      refine dP 25 28 (.bool true) ?_
      simp only [Act.put, List.setIfInBounds_toArray, List.set_cons_zero, List.set_cons_succ]
      refine dP 26 29 (.bool true) ?_
      simp only [Act.put, List.setIfInBounds_toArray, List.set_cons_zero, List.set_cons_succ]
      refine dN 27 30 ?_
      simp only [Act.put, List.setIfInBounds_toArray, List.set_cons_zero, List.set_cons_succ]
      refine dN 28 31 ?_
      simp only [Act.put, List.setIfInBounds_toArray, List.set_cons_zero, List.set_cons_succ]
      refine dN 29 32 ?_
      simp only [Act.put, List.setIfInBounds_toArray, List.set_cons_zero, List.set_cons_succ]
      refine dN 30 33 ?_
      simp only [Act.put, List.setIfInBounds_toArray, List.set_cons_zero, List.set_cons_succ]
      refine dP 31 34 (.bool true) ?_
      simp only [Act.put, List.setIfInBounds_toArray, List.set_cons_zero, List.set_cons_succ]
      refine dDone ?_
      go_wp2_with fail
      go_ret
      exact ⟨by (rw [← Option.some.inj HH.out]; try rfl), M3.out.below⟩
    · have d11 : decide (a0_4 > 36) = false := decide_eq_false bT11
      have H1 := HH.out
      rw [if_neg bT11] at H1
      replace HH := Aside0.mk H1
      clear H1
      go_wp2_with fail
      by_cases bT16 : a0_1 < -1
      · have d16 : decide (a0_1 < -1) = true := decide_eq_true bT16
        have H1 := HH.out
        rw [if_pos bT16] at H1
        replace HH := Aside0.mk H1
        clear H1
        refine dStart [] [] M1 (fun w' M => ?_)
        clear M1
        have M2 := M
        clear M
        refine dP 0 3 (.pointer (some ⟨g1, 4, none⟩)) ?_
        simp only [Act.put, List.setIfInBounds_toArray, List.set_cons_zero, List.set_cons_succ]
        refine dC M2 1 4 0 4 (.int .i64 a0_4) ?_
        simp only [Act.put, List.setIfInBounds_toArray, List.set_cons_zero, List.set_cons_succ]
        refine dP 2 5 (.bool false) ?_
        simp only [Act.put, List.setIfInBounds_toArray, List.set_cons_zero, List.set_cons_succ]
        refine dP 3 6 (.bool false) ?_
        simp only [Act.put, List.setIfInBounds_toArray, List.set_cons_zero, List.set_cons_succ]
        refine dP 4 7 (.pointer (some ⟨g1, 4, none⟩)) ?_
        simp only [Act.put, List.setIfInBounds_toArray, List.set_cons_zero, List.set_cons_succ]
        refine dC M2 5 8 0 4 (.int .i64 a0_4) ?_
        simp only [Act.put, List.setIfInBounds_toArray, List.set_cons_zero, List.set_cons_succ]
        refine dR [6] ?_
        refine qK 6 9 Tryd.func32 #[] ?_ AllReadyL.nil
        refine (rotaref25_names.calls Laid.names _ NS.out).mono ?_
        rintro e W9 ⟨v9, rfl, hR, hb⟩
        obtain ⟨A9, c9, rfl⟩ := Kd.R_slice hR
        have M3 := Aside0.mk (Mem.call M2.out hb)
        clear M2 hb hR
        refine ⟨_, rfl, M3.out.held (Cells.nil _) rfl, ?_⟩
        simp only [Act.put, List.setIfInBounds_toArray, List.set_cons_zero, List.set_cons_succ]
        refine dP 7 10 (.int .i64 36) ?_
        simp only [Act.put, List.setIfInBounds_toArray, List.set_cons_zero, List.set_cons_succ]
        refine dP 8 11 (.bool false) ?_
        simp only [Act.put, List.setIfInBounds_toArray, List.set_cons_zero, List.set_cons_succ]
        refine dP 9 12 (.bool false) ?_
        simp only [Act.put, List.setIfInBounds_toArray, List.set_cons_zero, List.set_cons_succ]
        refine dP 10 13 (.bool false) ?_
        simp only [Act.put, List.setIfInBounds_toArray, List.set_cons_zero, List.set_cons_succ]
        refine dP 11 14 (.pointer (some ⟨g1, 1, none⟩)) ?_
        simp only [Act.put, List.setIfInBounds_toArray, List.set_cons_zero, List.set_cons_succ]
        refine dC M3 12 15 0 1 (.int .i64 a0_1) ?_
        simp only [Act.put, List.setIfInBounds_toArray, List.set_cons_zero, List.set_cons_succ]
        refine dP 13 16 (.bool true) ?_
        simp only [Act.put, List.setIfInBounds_toArray, List.set_cons_zero, List.set_cons_succ]
        refine dP 14 17 (.bool true) ?_
        simp only [Act.put, List.setIfInBounds_toArray, List.set_cons_zero, List.set_cons_succ]
        refine dP 15 18 (.bool true) ?_
        simp only [Act.put, List.setIfInBounds_toArray, List.set_cons_zero, List.set_cons_succ]
        refine dN 16 19 ?_
        simp only [Act.put, List.setIfInBounds_toArray, List.set_cons_zero, List.set_cons_succ]
        refine dN 17 20 ?_
        simp only [Act.put, List.setIfInBounds_toArray, List.set_cons_zero, List.set_cons_succ]
        refine dN 18 21 ?_
        simp only [Act.put, List.setIfInBounds_toArray, List.set_cons_zero, List.set_cons_succ]
        refine dP 19 22 (.bool true) ?_
        simp only [Act.put, List.setIfInBounds_toArray, List.set_cons_zero, List.set_cons_succ]
        refine dP 20 23 (.bool true) ?_
        simp only [Act.put, List.setIfInBounds_toArray, List.set_cons_zero, List.set_cons_succ]
        refine dN 21 24 ?_
        simp only [Act.put, List.setIfInBounds_toArray, List.set_cons_zero, List.set_cons_succ]
        refine dN 22 25 ?_
        simp only [Act.put, List.setIfInBounds_toArray, List.set_cons_zero, List.set_cons_succ]
        refine dN 23 26 ?_
        simp only [Act.put, List.setIfInBounds_toArray, List.set_cons_zero, List.set_cons_succ]
        refine dN 24 27 ?_
        simp only [Act.put, List.setIfInBounds_toArray, List.set_cons_zero, List.set_cons_succ]
        refine dP 25 28 (.bool true) ?_
        simp only [Act.put, List.setIfInBounds_toArray, List.set_cons_zero, List.set_cons_succ]
        refine dP 26 29 (.bool true) ?_
        simp only [Act.put, List.setIfInBounds_toArray, List.set_cons_zero, List.set_cons_succ]
        refine dN 27 30 ?_
        simp only [Act.put, List.setIfInBounds_toArray, List.set_cons_zero, List.set_cons_succ]
        refine dN 28 31 ?_
        simp only [Act.put, List.setIfInBounds_toArray, List.set_cons_zero, List.set_cons_succ]
        refine dN 29 32 ?_
        simp only [Act.put, List.setIfInBounds_toArray, List.set_cons_zero, List.set_cons_succ]
        refine dN 30 33 ?_
        simp only [Act.put, List.setIfInBounds_toArray, List.set_cons_zero, List.set_cons_succ]
        refine dP 31 34 (.bool true) ?_
        simp only [Act.put, List.setIfInBounds_toArray, List.set_cons_zero, List.set_cons_succ]
        refine dDone ?_
        go_wp2_with fail
        go_ret
        exact ⟨by (rw [← Option.some.inj HH.out]; try rfl), M3.out.below⟩
      · have d16 : decide (a0_1 < -1) = false := decide_eq_false bT16
        have H1 := HH.out
        rw [if_neg bT16] at H1
        replace HH := Aside0.mk H1
        clear H1
        go_wp2_with fail
        by_cases bT21 : a0_1 ≥ 64
        · have d21 : decide (a0_1 ≥ 64) = true := decide_eq_true bT21
          have H1 := HH.out
          rw [if_pos bT21] at H1
          replace HH := Aside0.mk H1
          clear H1
          refine dStart [] [] M1 (fun w' M => ?_)
          clear M1
          have M2 := M
          clear M
          refine dP 0 3 (.pointer (some ⟨g1, 4, none⟩)) ?_
          simp only [Act.put, List.setIfInBounds_toArray, List.set_cons_zero, List.set_cons_succ]
          refine dC M2 1 4 0 4 (.int .i64 a0_4) ?_
          simp only [Act.put, List.setIfInBounds_toArray, List.set_cons_zero, List.set_cons_succ]
          refine dP 2 5 (.bool false) ?_
          simp only [Act.put, List.setIfInBounds_toArray, List.set_cons_zero, List.set_cons_succ]
          refine dP 3 6 (.bool false) ?_
          simp only [Act.put, List.setIfInBounds_toArray, List.set_cons_zero, List.set_cons_succ]
          refine dP 4 7 (.pointer (some ⟨g1, 4, none⟩)) ?_
          simp only [Act.put, List.setIfInBounds_toArray, List.set_cons_zero, List.set_cons_succ]
          refine dC M2 5 8 0 4 (.int .i64 a0_4) ?_
          simp only [Act.put, List.setIfInBounds_toArray, List.set_cons_zero, List.set_cons_succ]
          refine dR [6] ?_
          refine qK 6 9 Tryd.func32 #[] ?_ AllReadyL.nil
          refine (rotaref25_names.calls Laid.names _ NS.out).mono ?_
          rintro e W9 ⟨v9, rfl, hR, hb⟩
          obtain ⟨A9, c9, rfl⟩ := Kd.R_slice hR
          have M3 := Aside0.mk (Mem.call M2.out hb)
          clear M2 hb hR
          refine ⟨_, rfl, M3.out.held (Cells.nil _) rfl, ?_⟩
          simp only [Act.put, List.setIfInBounds_toArray, List.set_cons_zero, List.set_cons_succ]
          refine dP 7 10 (.int .i64 36) ?_
          simp only [Act.put, List.setIfInBounds_toArray, List.set_cons_zero, List.set_cons_succ]
          refine dP 8 11 (.bool false) ?_
          simp only [Act.put, List.setIfInBounds_toArray, List.set_cons_zero, List.set_cons_succ]
          refine dP 9 12 (.bool false) ?_
          simp only [Act.put, List.setIfInBounds_toArray, List.set_cons_zero, List.set_cons_succ]
          refine dP 10 13 (.bool false) ?_
          simp only [Act.put, List.setIfInBounds_toArray, List.set_cons_zero, List.set_cons_succ]
          refine dP 11 14 (.pointer (some ⟨g1, 1, none⟩)) ?_
          simp only [Act.put, List.setIfInBounds_toArray, List.set_cons_zero, List.set_cons_succ]
          refine dC M3 12 15 0 1 (.int .i64 a0_1) ?_
          simp only [Act.put, List.setIfInBounds_toArray, List.set_cons_zero, List.set_cons_succ]
          refine dP 13 16 (.bool false) ?_
          simp only [Act.put, List.setIfInBounds_toArray, List.set_cons_zero, List.set_cons_succ]
          refine dP 14 17 (.bool false) ?_
          simp only [Act.put, List.setIfInBounds_toArray, List.set_cons_zero, List.set_cons_succ]
          refine dP 15 18 (.bool false) ?_
          simp only [Act.put, List.setIfInBounds_toArray, List.set_cons_zero, List.set_cons_succ]
          refine dP 16 19 (.pointer (some ⟨g1, 1, none⟩)) ?_
          simp only [Act.put, List.setIfInBounds_toArray, List.set_cons_zero, List.set_cons_succ]
          refine dC M3 17 20 0 1 (.int .i64 a0_1) ?_
          simp only [Act.put, List.setIfInBounds_toArray, List.set_cons_zero, List.set_cons_succ]
          refine dP 18 21 (.bool true) ?_
          simp only [Act.put, List.setIfInBounds_toArray, List.set_cons_zero, List.set_cons_succ]
          refine dP 19 22 (.bool true) ?_
          simp only [Act.put, List.setIfInBounds_toArray, List.set_cons_zero, List.set_cons_succ]
          refine dP 20 23 (.bool true) ?_
          simp only [Act.put, List.setIfInBounds_toArray, List.set_cons_zero, List.set_cons_succ]
          refine dN 21 24 ?_
          simp only [Act.put, List.setIfInBounds_toArray, List.set_cons_zero, List.set_cons_succ]
          refine dN 22 25 ?_
          simp only [Act.put, List.setIfInBounds_toArray, List.set_cons_zero, List.set_cons_succ]
          refine dN 23 26 ?_
          simp only [Act.put, List.setIfInBounds_toArray, List.set_cons_zero, List.set_cons_succ]
          refine dN 24 27 ?_
          simp only [Act.put, List.setIfInBounds_toArray, List.set_cons_zero, List.set_cons_succ]
          refine dP 25 28 (.bool true) ?_
          simp only [Act.put, List.setIfInBounds_toArray, List.set_cons_zero, List.set_cons_succ]
          refine dP 26 29 (.bool true) ?_
          simp only [Act.put, List.setIfInBounds_toArray, List.set_cons_zero, List.set_cons_succ]
          refine dN 27 30 ?_
          simp only [Act.put, List.setIfInBounds_toArray, List.set_cons_zero, List.set_cons_succ]
          refine dN 28 31 ?_
          simp only [Act.put, List.setIfInBounds_toArray, List.set_cons_zero, List.set_cons_succ]
          refine dN 29 32 ?_
          simp only [Act.put, List.setIfInBounds_toArray, List.set_cons_zero, List.set_cons_succ]
          refine dN 30 33 ?_
          simp only [Act.put, List.setIfInBounds_toArray, List.set_cons_zero, List.set_cons_succ]
          refine dP 31 34 (.bool true) ?_
          simp only [Act.put, List.setIfInBounds_toArray, List.set_cons_zero, List.set_cons_succ]
          refine dDone ?_
          go_wp2_with fail
          go_ret
          exact ⟨by (rw [← Option.some.inj HH.out]; try rfl), M3.out.below⟩
        · have d21 : decide (a0_1 ≥ 64) = false := decide_eq_false bT21
          have H1 := HH.out
          rw [if_neg bT21] at H1
          replace HH := Aside0.mk H1
          clear H1
          go_wp2_with fail
          by_cases bT27 : a0_2 < 0
          · have d27 : decide (a0_2 < 0) = true := decide_eq_true bT27
            have H1 := HH.out
            rw [if_pos bT27] at H1
            replace HH := Aside0.mk H1
            clear H1
            refine dStart [] [] M1 (fun w' M => ?_)
            clear M1
            have M2 := M
            clear M
            refine dP 0 3 (.pointer (some ⟨g1, 4, none⟩)) ?_
            simp only [Act.put, List.setIfInBounds_toArray, List.set_cons_zero, List.set_cons_succ]
            refine dC M2 1 4 0 4 (.int .i64 a0_4) ?_
            simp only [Act.put, List.setIfInBounds_toArray, List.set_cons_zero, List.set_cons_succ]
            refine dP 2 5 (.bool false) ?_
            simp only [Act.put, List.setIfInBounds_toArray, List.set_cons_zero, List.set_cons_succ]
            refine dP 3 6 (.bool false) ?_
            simp only [Act.put, List.setIfInBounds_toArray, List.set_cons_zero, List.set_cons_succ]
            refine dP 4 7 (.pointer (some ⟨g1, 4, none⟩)) ?_
            simp only [Act.put, List.setIfInBounds_toArray, List.set_cons_zero, List.set_cons_succ]
            refine dC M2 5 8 0 4 (.int .i64 a0_4) ?_
            simp only [Act.put, List.setIfInBounds_toArray, List.set_cons_zero, List.set_cons_succ]
            refine dR [6] ?_
            refine qK 6 9 Tryd.func32 #[] ?_ AllReadyL.nil
            refine (rotaref25_names.calls Laid.names _ NS.out).mono ?_
            rintro e W9 ⟨v9, rfl, hR, hb⟩
            obtain ⟨A9, c9, rfl⟩ := Kd.R_slice hR
            have M3 := Aside0.mk (Mem.call M2.out hb)
            clear M2 hb hR
            refine ⟨_, rfl, M3.out.held (Cells.nil _) rfl, ?_⟩
            simp only [Act.put, List.setIfInBounds_toArray, List.set_cons_zero, List.set_cons_succ]
            refine dP 7 10 (.int .i64 36) ?_
            simp only [Act.put, List.setIfInBounds_toArray, List.set_cons_zero, List.set_cons_succ]
            refine dP 8 11 (.bool false) ?_
            simp only [Act.put, List.setIfInBounds_toArray, List.set_cons_zero, List.set_cons_succ]
            refine dP 9 12 (.bool false) ?_
            simp only [Act.put, List.setIfInBounds_toArray, List.set_cons_zero, List.set_cons_succ]
            refine dP 10 13 (.bool false) ?_
            simp only [Act.put, List.setIfInBounds_toArray, List.set_cons_zero, List.set_cons_succ]
            refine dP 11 14 (.pointer (some ⟨g1, 1, none⟩)) ?_
            simp only [Act.put, List.setIfInBounds_toArray, List.set_cons_zero, List.set_cons_succ]
            refine dC M3 12 15 0 1 (.int .i64 a0_1) ?_
            simp only [Act.put, List.setIfInBounds_toArray, List.set_cons_zero, List.set_cons_succ]
            refine dP 13 16 (.bool false) ?_
            simp only [Act.put, List.setIfInBounds_toArray, List.set_cons_zero, List.set_cons_succ]
            refine dP 14 17 (.bool false) ?_
            simp only [Act.put, List.setIfInBounds_toArray, List.set_cons_zero, List.set_cons_succ]
            refine dP 15 18 (.bool false) ?_
            simp only [Act.put, List.setIfInBounds_toArray, List.set_cons_zero, List.set_cons_succ]
            refine dP 16 19 (.pointer (some ⟨g1, 1, none⟩)) ?_
            simp only [Act.put, List.setIfInBounds_toArray, List.set_cons_zero, List.set_cons_succ]
            refine dC M3 17 20 0 1 (.int .i64 a0_1) ?_
            simp only [Act.put, List.setIfInBounds_toArray, List.set_cons_zero, List.set_cons_succ]
            refine dP 18 21 (.bool false) ?_
            simp only [Act.put, List.setIfInBounds_toArray, List.set_cons_zero, List.set_cons_succ]
            refine dP 19 22 (.bool false) ?_
            simp only [Act.put, List.setIfInBounds_toArray, List.set_cons_zero, List.set_cons_succ]
            refine dP 20 23 (.bool false) ?_
            simp only [Act.put, List.setIfInBounds_toArray, List.set_cons_zero, List.set_cons_succ]
            refine dP 21 24 (.pointer (some ⟨g1, 2, none⟩)) ?_
            simp only [Act.put, List.setIfInBounds_toArray, List.set_cons_zero, List.set_cons_succ]
            refine dP 22 25 (.pointer (some ⟨g1, 2, none⟩)) ?_
            simp only [Act.put, List.setIfInBounds_toArray, List.set_cons_zero, List.set_cons_succ]
            refine dC M3 23 26 0 2 (.int .i64 a0_2) ?_
            simp only [Act.put, List.setIfInBounds_toArray, List.set_cons_zero, List.set_cons_succ]
            refine dP 24 27 (.bool true) ?_
            simp only [Act.put, List.setIfInBounds_toArray, List.set_cons_zero, List.set_cons_succ]
            refine dP 25 28 (.bool true) ?_
            simp only [Act.put, List.setIfInBounds_toArray, List.set_cons_zero, List.set_cons_succ]
            refine dP 26 29 (.bool true) ?_
            simp only [Act.put, List.setIfInBounds_toArray, List.set_cons_zero, List.set_cons_succ]
            refine dN 27 30 ?_
            simp only [Act.put, List.setIfInBounds_toArray, List.set_cons_zero, List.set_cons_succ]
            refine dN 28 31 ?_
            simp only [Act.put, List.setIfInBounds_toArray, List.set_cons_zero, List.set_cons_succ]
            refine dN 29 32 ?_
            simp only [Act.put, List.setIfInBounds_toArray, List.set_cons_zero, List.set_cons_succ]
            refine dN 30 33 ?_
            simp only [Act.put, List.setIfInBounds_toArray, List.set_cons_zero, List.set_cons_succ]
            refine dP 31 34 (.bool true) ?_
            simp only [Act.put, List.setIfInBounds_toArray, List.set_cons_zero, List.set_cons_succ]
            refine dDone ?_
            go_wp2_with fail
            go_ret
            exact ⟨by (rw [← Option.some.inj HH.out]; try rfl), M3.out.below⟩
          · have d27 : decide (a0_2 < 0) = false := decide_eq_false bT27
            have H1 := HH.out
            rw [if_neg bT27] at H1
            replace HH := Aside0.mk H1
            clear H1
            go_wp2_with fail
            by_cases bT33 : a0_3 < 0
            · have d33 : decide (a0_3 < 0) = true := decide_eq_true bT33
              have H1 := HH.out
              rw [if_pos bT33] at H1
              replace HH := Aside0.mk H1
              clear H1
              refine dStart [] [] M1 (fun w' M => ?_)
              clear M1
              have M2 := M
              clear M
              refine dP 0 3 (.pointer (some ⟨g1, 4, none⟩)) ?_
              simp only [Act.put, List.setIfInBounds_toArray, List.set_cons_zero, List.set_cons_succ]
              refine dC M2 1 4 0 4 (.int .i64 a0_4) ?_
              simp only [Act.put, List.setIfInBounds_toArray, List.set_cons_zero, List.set_cons_succ]
              refine dP 2 5 (.bool false) ?_
              simp only [Act.put, List.setIfInBounds_toArray, List.set_cons_zero, List.set_cons_succ]
              refine dP 3 6 (.bool false) ?_
              simp only [Act.put, List.setIfInBounds_toArray, List.set_cons_zero, List.set_cons_succ]
              refine dP 4 7 (.pointer (some ⟨g1, 4, none⟩)) ?_
              simp only [Act.put, List.setIfInBounds_toArray, List.set_cons_zero, List.set_cons_succ]
              refine dC M2 5 8 0 4 (.int .i64 a0_4) ?_
              simp only [Act.put, List.setIfInBounds_toArray, List.set_cons_zero, List.set_cons_succ]
              refine dR [6] ?_
              refine qK 6 9 Tryd.func32 #[] ?_ AllReadyL.nil
              refine (rotaref25_names.calls Laid.names _ NS.out).mono ?_
              rintro e W9 ⟨v9, rfl, hR, hb⟩
              obtain ⟨A9, c9, rfl⟩ := Kd.R_slice hR
              have M3 := Aside0.mk (Mem.call M2.out hb)
              clear M2 hb hR
              refine ⟨_, rfl, M3.out.held (Cells.nil _) rfl, ?_⟩
              simp only [Act.put, List.setIfInBounds_toArray, List.set_cons_zero, List.set_cons_succ]
              refine dP 7 10 (.int .i64 36) ?_
              simp only [Act.put, List.setIfInBounds_toArray, List.set_cons_zero, List.set_cons_succ]
              refine dP 8 11 (.bool false) ?_
              simp only [Act.put, List.setIfInBounds_toArray, List.set_cons_zero, List.set_cons_succ]
              refine dP 9 12 (.bool false) ?_
              simp only [Act.put, List.setIfInBounds_toArray, List.set_cons_zero, List.set_cons_succ]
              refine dP 10 13 (.bool false) ?_
              simp only [Act.put, List.setIfInBounds_toArray, List.set_cons_zero, List.set_cons_succ]
              refine dP 11 14 (.pointer (some ⟨g1, 1, none⟩)) ?_
              simp only [Act.put, List.setIfInBounds_toArray, List.set_cons_zero, List.set_cons_succ]
              refine dC M3 12 15 0 1 (.int .i64 a0_1) ?_
              simp only [Act.put, List.setIfInBounds_toArray, List.set_cons_zero, List.set_cons_succ]
              refine dP 13 16 (.bool false) ?_
              simp only [Act.put, List.setIfInBounds_toArray, List.set_cons_zero, List.set_cons_succ]
              refine dP 14 17 (.bool false) ?_
              simp only [Act.put, List.setIfInBounds_toArray, List.set_cons_zero, List.set_cons_succ]
              refine dP 15 18 (.bool false) ?_
              simp only [Act.put, List.setIfInBounds_toArray, List.set_cons_zero, List.set_cons_succ]
              refine dP 16 19 (.pointer (some ⟨g1, 1, none⟩)) ?_
              simp only [Act.put, List.setIfInBounds_toArray, List.set_cons_zero, List.set_cons_succ]
              refine dC M3 17 20 0 1 (.int .i64 a0_1) ?_
              simp only [Act.put, List.setIfInBounds_toArray, List.set_cons_zero, List.set_cons_succ]
              refine dP 18 21 (.bool false) ?_
              simp only [Act.put, List.setIfInBounds_toArray, List.set_cons_zero, List.set_cons_succ]
              refine dP 19 22 (.bool false) ?_
              simp only [Act.put, List.setIfInBounds_toArray, List.set_cons_zero, List.set_cons_succ]
              refine dP 20 23 (.bool false) ?_
              simp only [Act.put, List.setIfInBounds_toArray, List.set_cons_zero, List.set_cons_succ]
              refine dP 21 24 (.pointer (some ⟨g1, 2, none⟩)) ?_
              simp only [Act.put, List.setIfInBounds_toArray, List.set_cons_zero, List.set_cons_succ]
              refine dP 22 25 (.pointer (some ⟨g1, 2, none⟩)) ?_
              simp only [Act.put, List.setIfInBounds_toArray, List.set_cons_zero, List.set_cons_succ]
              refine dC M3 23 26 0 2 (.int .i64 a0_2) ?_
              simp only [Act.put, List.setIfInBounds_toArray, List.set_cons_zero, List.set_cons_succ]
              refine dP 24 27 (.bool false) ?_
              simp only [Act.put, List.setIfInBounds_toArray, List.set_cons_zero, List.set_cons_succ]
              refine dP 25 28 (.bool false) ?_
              simp only [Act.put, List.setIfInBounds_toArray, List.set_cons_zero, List.set_cons_succ]
              refine dP 26 29 (.bool false) ?_
              simp only [Act.put, List.setIfInBounds_toArray, List.set_cons_zero, List.set_cons_succ]
              refine dP 27 30 (.pointer (some ⟨g1, 2, none⟩)) ?_
              simp only [Act.put, List.setIfInBounds_toArray, List.set_cons_zero, List.set_cons_succ]
              refine dP 28 31 (.pointer (some ⟨g1, 3, none⟩)) ?_
              simp only [Act.put, List.setIfInBounds_toArray, List.set_cons_zero, List.set_cons_succ]
              refine dC M3 29 32 0 3 (.int .i64 a0_3) ?_
              simp only [Act.put, List.setIfInBounds_toArray, List.set_cons_zero, List.set_cons_succ]
              refine dP 30 33 (.bool true) ?_
              simp only [Act.put, List.setIfInBounds_toArray, List.set_cons_zero, List.set_cons_succ]
              refine dP 31 34 (.bool true) ?_
              simp only [Act.put, List.setIfInBounds_toArray, List.set_cons_zero, List.set_cons_succ]
              refine dDone ?_
              go_wp2_with fail
              go_ret
              exact ⟨by (rw [← Option.some.inj HH.out]; try rfl), M3.out.below⟩
            · have d33 : decide (a0_3 < 0) = false := decide_eq_false bT33
              have H1 := HH.out
              rw [if_neg bT33] at H1
              replace HH := Aside0.mk H1
              clear H1
              refine dStart [] [] M1 (fun w' M => ?_)
              clear M1
              have M2 := M
              clear M
              refine dP 0 3 (.pointer (some ⟨g1, 4, none⟩)) ?_
              simp only [Act.put, List.setIfInBounds_toArray, List.set_cons_zero, List.set_cons_succ]
              refine dC M2 1 4 0 4 (.int .i64 a0_4) ?_
              simp only [Act.put, List.setIfInBounds_toArray, List.set_cons_zero, List.set_cons_succ]
              refine dP 2 5 (.bool false) ?_
              simp only [Act.put, List.setIfInBounds_toArray, List.set_cons_zero, List.set_cons_succ]
              refine dP 3 6 (.bool false) ?_
              simp only [Act.put, List.setIfInBounds_toArray, List.set_cons_zero, List.set_cons_succ]
              refine dP 4 7 (.pointer (some ⟨g1, 4, none⟩)) ?_
              simp only [Act.put, List.setIfInBounds_toArray, List.set_cons_zero, List.set_cons_succ]
              refine dC M2 5 8 0 4 (.int .i64 a0_4) ?_
              simp only [Act.put, List.setIfInBounds_toArray, List.set_cons_zero, List.set_cons_succ]
              refine dR [6] ?_
              refine qK 6 9 Tryd.func32 #[] ?_ AllReadyL.nil
              refine (rotaref25_names.calls Laid.names _ NS.out).mono ?_
              rintro e W9 ⟨v9, rfl, hR, hb⟩
              obtain ⟨A9, c9, rfl⟩ := Kd.R_slice hR
              have M3 := Aside0.mk (Mem.call M2.out hb)
              clear M2 hb hR
              refine ⟨_, rfl, M3.out.held (Cells.nil _) rfl, ?_⟩
              simp only [Act.put, List.setIfInBounds_toArray, List.set_cons_zero, List.set_cons_succ]
              refine dP 7 10 (.int .i64 36) ?_
              simp only [Act.put, List.setIfInBounds_toArray, List.set_cons_zero, List.set_cons_succ]
              refine dP 8 11 (.bool false) ?_
              simp only [Act.put, List.setIfInBounds_toArray, List.set_cons_zero, List.set_cons_succ]
              refine dP 9 12 (.bool false) ?_
              simp only [Act.put, List.setIfInBounds_toArray, List.set_cons_zero, List.set_cons_succ]
              refine dP 10 13 (.bool false) ?_
              simp only [Act.put, List.setIfInBounds_toArray, List.set_cons_zero, List.set_cons_succ]
              refine dP 11 14 (.pointer (some ⟨g1, 1, none⟩)) ?_
              simp only [Act.put, List.setIfInBounds_toArray, List.set_cons_zero, List.set_cons_succ]
              refine dC M3 12 15 0 1 (.int .i64 a0_1) ?_
              simp only [Act.put, List.setIfInBounds_toArray, List.set_cons_zero, List.set_cons_succ]
              refine dP 13 16 (.bool false) ?_
              simp only [Act.put, List.setIfInBounds_toArray, List.set_cons_zero, List.set_cons_succ]
              refine dP 14 17 (.bool false) ?_
              simp only [Act.put, List.setIfInBounds_toArray, List.set_cons_zero, List.set_cons_succ]
              refine dP 15 18 (.bool false) ?_
              simp only [Act.put, List.setIfInBounds_toArray, List.set_cons_zero, List.set_cons_succ]
              refine dP 16 19 (.pointer (some ⟨g1, 1, none⟩)) ?_
              simp only [Act.put, List.setIfInBounds_toArray, List.set_cons_zero, List.set_cons_succ]
              refine dC M3 17 20 0 1 (.int .i64 a0_1) ?_
              simp only [Act.put, List.setIfInBounds_toArray, List.set_cons_zero, List.set_cons_succ]
              refine dP 18 21 (.bool false) ?_
              simp only [Act.put, List.setIfInBounds_toArray, List.set_cons_zero, List.set_cons_succ]
              refine dP 19 22 (.bool false) ?_
              simp only [Act.put, List.setIfInBounds_toArray, List.set_cons_zero, List.set_cons_succ]
              refine dP 20 23 (.bool false) ?_
              simp only [Act.put, List.setIfInBounds_toArray, List.set_cons_zero, List.set_cons_succ]
              refine dP 21 24 (.pointer (some ⟨g1, 2, none⟩)) ?_
              simp only [Act.put, List.setIfInBounds_toArray, List.set_cons_zero, List.set_cons_succ]
              refine dP 22 25 (.pointer (some ⟨g1, 2, none⟩)) ?_
              simp only [Act.put, List.setIfInBounds_toArray, List.set_cons_zero, List.set_cons_succ]
              refine dC M3 23 26 0 2 (.int .i64 a0_2) ?_
              simp only [Act.put, List.setIfInBounds_toArray, List.set_cons_zero, List.set_cons_succ]
              refine dP 24 27 (.bool false) ?_
              simp only [Act.put, List.setIfInBounds_toArray, List.set_cons_zero, List.set_cons_succ]
              refine dP 25 28 (.bool false) ?_
              simp only [Act.put, List.setIfInBounds_toArray, List.set_cons_zero, List.set_cons_succ]
              refine dP 26 29 (.bool false) ?_
              simp only [Act.put, List.setIfInBounds_toArray, List.set_cons_zero, List.set_cons_succ]
              refine dP 27 30 (.pointer (some ⟨g1, 2, none⟩)) ?_
              simp only [Act.put, List.setIfInBounds_toArray, List.set_cons_zero, List.set_cons_succ]
              refine dP 28 31 (.pointer (some ⟨g1, 3, none⟩)) ?_
              simp only [Act.put, List.setIfInBounds_toArray, List.set_cons_zero, List.set_cons_succ]
              refine dC M3 29 32 0 3 (.int .i64 a0_3) ?_
              simp only [Act.put, List.setIfInBounds_toArray, List.set_cons_zero, List.set_cons_succ]
              refine dP 30 33 (.bool false) ?_
              simp only [Act.put, List.setIfInBounds_toArray, List.set_cons_zero, List.set_cons_succ]
              refine dP 31 34 (.bool false) ?_
              simp only [Act.put, List.setIfInBounds_toArray, List.set_cons_zero, List.set_cons_succ]
              refine dDone ?_
              by_cases bT37 : a0_4 = 36
              · have H1 := HH.out
                rw [if_pos bT37] at H1
                replace HH := Aside0.mk H1
                clear H1
                subst bT37
                have e37 : ((36 : Int) != 36) = false := rfl
                go_wp2_with (first
                    | (refine eC M3 36 0 4 (.int .i64 36) ?_)
                    | ((with_reducible refine gate_dst (N := 39) rfl ?_); (refine gate_guard (by rfl) ?_; dsimp only); refine eL M3 39 0 hu36 ?_)
                    | ((with_reducible refine gate_dst (N := 41) rfl ?_); (refine gate_guard (by rfl) ?_; dsimp only); refine eC M3 41 0 0 (.int .u64 a0_0) ?_))
                go_ret
                exact ⟨by (rw [← Option.some.inj HH.out]; try rfl), M3.out.below⟩
              · have H1 := HH.out
                rw [if_neg bT37] at H1
                replace HH := Aside0.mk H1
                clear H1
                have e37 : (a0_4 != 36) = true := bne_iff_ne.mpr bT37
                go_wp2_with (first
                    | (refine eC M3 36 0 4 (.int .i64 a0_4) ?_))
                go_ret
                exact ⟨by (rw [← Option.some.inj HH.out]; try rfl), M3.out.below⟩
end Go.Proofs.YtphbepddhhdhmaaDoor.GA
end
