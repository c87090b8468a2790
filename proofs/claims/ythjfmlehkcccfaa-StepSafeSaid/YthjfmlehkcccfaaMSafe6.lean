import Derived.Test.YthjfmlehkcccfaaMSafe1
import Derived.Test.YthjfmlehkcccfaaMSafe5
import Derived.Test.YthjfmlehkcccfaaMSafe0
import Derived.WalkKit
section
-- laid by a program of this session (wip/gp.sh)
namespace Go.Proofs.Ythjfmlehkcccfaa.GA
open Go.RowKit Go.Proofs.YthjfmlehkcccfaaW.PrintWords Go.Proofs.YthjfmlehkcccfaaW.PrintLast Go.Proofs.YthjfmlehkcccfaaW.PrintMore
attribute [local go_sem] max2_int min2_int max_two min_two max_three min_three max_four min_four   -- for this text's walks alone
set_option linter.unusedVariables false
set_option linter.unusedSimpArgs false

/-! ### step_reckoned: function 29 -/
def step_reckoned.f (a0 : Int) (a1 : Int) (a2 : Int) : Option (Int × Bool) := if a0 = 5 then (some (wrap64 (a1 + a2), true)) else (if a0 = 6 then (some (wrap64 (a1 - a2), true)) else (if a0 = 7 then (some (wrap64 (a1 * a2), true)) else (if a0 = 10 then (some (Go.bits .and .i64 a1 a2, true)) else (if a0 = 11 then (some (Go.bits .or .i64 a1 a2, true)) else (if a0 = 12 then (some (Go.bits .xor .i64 a1 a2, true)) else (if a0 = 13 then (if 0 ≤ (IntKind.u64.wrap (Go.bits .and .i64 a2 63)) then (some (shl .i64 a1 (IntKind.u64.wrap (Go.bits .and .i64 a2 63)), true)) else (none)) else (if a0 = 14 then (if 0 ≤ (IntKind.u64.wrap (Go.bits .and .i64 a2 63)) then (some (shr .i64 a1 (IntKind.u64.wrap (Go.bits .and .i64 a2 63)), true)) else (none)) else (if a0 = 15 then ((step_truth.f (decide (a1 < a2))).bind fun t130 => (some (t130, true))) else (if a0 = 16 then ((step_truth.f (a1 == a2)).bind fun t131 => (some (t131, true))) else (some (0, false)))))))))))
set_option maxHeartbeats 8000000 in
set_option maxRecDepth 100000 in
theorem step_reckoned.calls (a0 : Int) (a1 : Int) (a2 : Int) (r1 : Int) (r2 : Bool) (w : World) (h : step_reckoned.f a0 a1 a2 = some (r1, r2)) :
    Calls Try.prog 29 #[.int .i64 a0, .int .i64 a1, .int .i64 a2] w fun e w' => e = .returned (.tuple #[.int .i64 r1, .bool r2]) ∧ Drawn0 w w' := by
  have H : (if a0 = 5 then (some (wrap64 (a1 + a2), true)) else (if a0 = 6 then (some (wrap64 (a1 - a2), true)) else (if a0 = 7 then (some (wrap64 (a1 * a2), true)) else (if a0 = 10 then (some (Go.bits .and .i64 a1 a2, true)) else (if a0 = 11 then (some (Go.bits .or .i64 a1 a2, true)) else (if a0 = 12 then (some (Go.bits .xor .i64 a1 a2, true)) else (if a0 = 13 then (if 0 ≤ (IntKind.u64.wrap (Go.bits .and .i64 a2 63)) then (some (shl .i64 a1 (IntKind.u64.wrap (Go.bits .and .i64 a2 63)), true)) else (none)) else (if a0 = 14 then (if 0 ≤ (IntKind.u64.wrap (Go.bits .and .i64 a2 63)) then (some (shr .i64 a1 (IntKind.u64.wrap (Go.bits .and .i64 a2 63)), true)) else (none)) else (if a0 = 15 then ((step_truth.f (decide (a1 < a2))).bind fun t130 => (some (t130, true))) else (if a0 = 16 then ((step_truth.f (a1 == a2)).bind fun t131 => (some (t131, true))) else (some (0, false)))))))))))) = some (r1, r2) := h
  clear h
  by_cases c4 : a0 = 5
  · rw [if_pos c4] at H
    have c4b0 : (a0 == 5) = true := beq_iff_eq.mpr c4
    have c4b1 : (a0 != 5) = false := bne_eq_false_iff_eq.mpr c4
    clear c4
    simp only [Option.some.injEq, Prod.mk.injEq] at H
    obtain ⟨rfl, rfl⟩ := H
    go_enter Try.func29, Try.ntmps29
    go_wp2
    go_ret2
    exact ⟨by first | rfl | (simp; done) | (simp [*]; done), by repeat (first | exact Drawn0.refl _ | apply Drawn0.step)⟩
  · rw [if_neg c4] at H
    have c4b0 : (a0 == 5) = false := beq_eq_false_iff_ne.mpr c4
    have c4b1 : (a0 != 5) = true := bne_iff_ne.mpr c4
    by_cases c5 : a0 = 6
    · rw [if_pos c5] at H
      have c5b0 : (a0 == 6) = true := beq_iff_eq.mpr c5
      have c5b1 : (a0 != 6) = false := bne_eq_false_iff_eq.mpr c5
      clear c5
      simp only [Option.some.injEq, Prod.mk.injEq] at H
      obtain ⟨rfl, rfl⟩ := H
      go_enter Try.func29, Try.ntmps29
      go_wp2
      go_ret2
      exact ⟨by first | rfl | (simp; done) | (simp [*]; done), by repeat (first | exact Drawn0.refl _ | apply Drawn0.step)⟩
    · rw [if_neg c5] at H
      have c5b0 : (a0 == 6) = false := beq_eq_false_iff_ne.mpr c5
      have c5b1 : (a0 != 6) = true := bne_iff_ne.mpr c5
      by_cases c6 : a0 = 7
      · rw [if_pos c6] at H
        have c6b0 : (a0 == 7) = true := beq_iff_eq.mpr c6
        have c6b1 : (a0 != 7) = false := bne_eq_false_iff_eq.mpr c6
        clear c6
        simp only [Option.some.injEq, Prod.mk.injEq] at H
        obtain ⟨rfl, rfl⟩ := H
        go_enter Try.func29, Try.ntmps29
        go_wp2
        go_ret2
        exact ⟨by first | rfl | (simp; done) | (simp [*]; done), by repeat (first | exact Drawn0.refl _ | apply Drawn0.step)⟩
      · rw [if_neg c6] at H
        have c6b0 : (a0 == 7) = false := beq_eq_false_iff_ne.mpr c6
        have c6b1 : (a0 != 7) = true := bne_iff_ne.mpr c6
        by_cases c7 : a0 = 10
        · rw [if_pos c7] at H
          have c7b0 : (a0 == 10) = true := beq_iff_eq.mpr c7
          have c7b1 : (a0 != 10) = false := bne_eq_false_iff_eq.mpr c7
          clear c7
          simp only [Option.some.injEq, Prod.mk.injEq] at H
          obtain ⟨rfl, rfl⟩ := H
          go_enter Try.func29, Try.ntmps29
          go_wp2
          go_ret2
          exact ⟨by first | rfl | (simp; done) | (simp [*]; done), by repeat (first | exact Drawn0.refl _ | apply Drawn0.step)⟩
        · rw [if_neg c7] at H
          have c7b0 : (a0 == 10) = false := beq_eq_false_iff_ne.mpr c7
          have c7b1 : (a0 != 10) = true := bne_iff_ne.mpr c7
          by_cases c8 : a0 = 11
          · rw [if_pos c8] at H
            have c8b0 : (a0 == 11) = true := beq_iff_eq.mpr c8
            have c8b1 : (a0 != 11) = false := bne_eq_false_iff_eq.mpr c8
            clear c8
            simp only [Option.some.injEq, Prod.mk.injEq] at H
            obtain ⟨rfl, rfl⟩ := H
            go_enter Try.func29, Try.ntmps29
            go_wp2
            go_ret2
            exact ⟨by first | rfl | (simp; done) | (simp [*]; done), by repeat (first | exact Drawn0.refl _ | apply Drawn0.step)⟩
          · rw [if_neg c8] at H
            have c8b0 : (a0 == 11) = false := beq_eq_false_iff_ne.mpr c8
            have c8b1 : (a0 != 11) = true := bne_iff_ne.mpr c8
            by_cases c9 : a0 = 12
            · rw [if_pos c9] at H
              have c9b0 : (a0 == 12) = true := beq_iff_eq.mpr c9
              have c9b1 : (a0 != 12) = false := bne_eq_false_iff_eq.mpr c9
              clear c9
              simp only [Option.some.injEq, Prod.mk.injEq] at H
              obtain ⟨rfl, rfl⟩ := H
              go_enter Try.func29, Try.ntmps29
              go_wp2
              go_ret2
              exact ⟨by first | rfl | (simp; done) | (simp [*]; done), by repeat (first | exact Drawn0.refl _ | apply Drawn0.step)⟩
            · rw [if_neg c9] at H
              have c9b0 : (a0 == 12) = false := beq_eq_false_iff_ne.mpr c9
              have c9b1 : (a0 != 12) = true := bne_iff_ne.mpr c9
              by_cases c10 : a0 = 13
              · rw [if_pos c10] at H
                have c10b0 : (a0 == 13) = true := beq_iff_eq.mpr c10
                have c10b1 : (a0 != 13) = false := bne_eq_false_iff_eq.mpr c10
                clear c10
                obtain ⟨ji11, hji11⟩ : ∃ j_ : Int, (IntKind.u64.wrap (Go.bits .and .i64 a2 63)) = j_ := ⟨_, rfl⟩
                replace H : (if 0 ≤ (ji11) then (some (shl .i64 a1 (ji11), true)) else (none)) = some (r1, r2) := by first | (rw [hji11] at H; exact H) | (simp only [hji11] at H ⊢; exact H)
                by_cases c12 : 0 ≤ (ji11)
                · rw [if_pos c12] at H
                  have c12b0 := eq_true c12
                  have c12b1 : decide (0 ≤ (ji11)) = true := decide_eq_true c12
                  clear c12
                  obtain ⟨ji13, hji13⟩ : ∃ j_ : Int, (shl .i64 a1 (ji11)) = j_ := ⟨_, rfl⟩
                  replace H : (some (ji13, true)) = some (r1, r2) := by first | (rw [hji13] at H; exact H) | (simp only [hji13] at H ⊢; exact H)
                  have hji13_ : (IntKind.i64.wrap (a1 * 2 ^ min (ji11).toNat 64)) = ji13 := hji13
                  have hji13z : (ji11) ≤ 64 → (IntKind.i64.wrap (a1 * 2 ^ (ji11).toNat)) = ji13 := shl_small hji13
                  have hji13y : (wrap64 (a1 * 2 ^ min (ji11).toNat 64)) = ji13 := (i64_w _).symm.trans hji13_
                  have hji13x : (ji11) ≤ 64 → (wrap64 (a1 * 2 ^ (ji11).toNat)) = ji13 := fun h_ => (i64_w _).symm.trans (hji13z h_)
                  simp only [Option.some.injEq, Prod.mk.injEq] at H
                  obtain ⟨rfl, rfl⟩ := H
                  go_enter Try.func29, Try.ntmps29
                  go_wp2
                  go_ret2
                  exact ⟨by first | rfl | (simp; done) | (simp only [← hji11, ← hji13] <;> (first | rfl | simp)) | (simp [*]; done), by repeat (first | exact Drawn0.refl _ | apply Drawn0.step)⟩
                · rw [if_neg c12] at H
                  exact absurd H (by simp)
              · rw [if_neg c10] at H
                have c10b0 : (a0 == 13) = false := beq_eq_false_iff_ne.mpr c10
                have c10b1 : (a0 != 13) = true := bne_iff_ne.mpr c10
                by_cases c14 : a0 = 14
                · rw [if_pos c14] at H
                  have c14b0 : (a0 == 14) = true := beq_iff_eq.mpr c14
                  have c14b1 : (a0 != 14) = false := bne_eq_false_iff_eq.mpr c14
                  clear c14
                  obtain ⟨ji15, hji15⟩ : ∃ j_ : Int, (IntKind.u64.wrap (Go.bits .and .i64 a2 63)) = j_ := ⟨_, rfl⟩
                  replace H : (if 0 ≤ (ji15) then (some (shr .i64 a1 (ji15), true)) else (none)) = some (r1, r2) := by first | (rw [hji15] at H; exact H) | (simp only [hji15] at H ⊢; exact H)
                  by_cases c16 : 0 ≤ (ji15)
                  · rw [if_pos c16] at H
                    have c16b0 := eq_true c16
                    have c16b1 : decide (0 ≤ (ji15)) = true := decide_eq_true c16
                    clear c16
                    obtain ⟨ji17, hji17⟩ : ∃ j_ : Int, (shr .i64 a1 (ji15)) = j_ := ⟨_, rfl⟩
                    replace H : (some (ji17, true)) = some (r1, r2) := by first | (rw [hji17] at H; exact H) | (simp only [hji17] at H ⊢; exact H)
                    have hji17_ : (a1 / 2 ^ min (ji15).toNat 64) = ji17 := hji17
                    have hji17z : (ji15) ≤ 64 → (a1 / 2 ^ (ji15).toNat) = ji17 := shr_small hji17
                    simp only [Option.some.injEq, Prod.mk.injEq] at H
                    obtain ⟨rfl, rfl⟩ := H
                    go_enter Try.func29, Try.ntmps29
                    go_wp2
                    go_ret2
                    exact ⟨by first | rfl | (simp; done) | (simp only [← hji15, ← hji17] <;> (first | rfl | simp)) | (simp [*]; done), by repeat (first | exact Drawn0.refl _ | apply Drawn0.step)⟩
                  · rw [if_neg c16] at H
                    exact absurd H (by simp)
                · rw [if_neg c14] at H
                  have c14b0 : (a0 == 14) = false := beq_eq_false_iff_ne.mpr c14
                  have c14b1 : (a0 != 14) = true := bne_iff_ne.mpr c14
                  by_cases c18 : a0 = 15
                  · rw [if_pos c18] at H
                    have c18b0 : (a0 == 15) = true := beq_iff_eq.mpr c18
                    have c18b1 : (a0 != 15) = false := bne_eq_false_iff_eq.mpr c18
                    clear c18
                    replace H := Option.bind_eq_some_iff.mp H
                    obtain ⟨t130, A190, H⟩ := H
                    replace H : (some (t130, true)) = some (r1, r2) := H
                    have A19 := Aside0.mk A190
                    clear A190
                    simp only [Option.some.injEq, Prod.mk.injEq] at H
                    obtain ⟨rfl, rfl⟩ := H
                    go_enter Try.func29, Try.ntmps29
                    go_wp2_with (first | ((with_reducible refine gate_callee (f := 49) rfl ?_); refine goesL_ (some 58) rfl rfl Try.func49 (by kernel_rfl) rfl #[.bool (decide (a1 < a2))] rfl (by (try simp only [List.map_toArray, List.map_cons, List.map_nil]); first | done | rfl | (simp only [List.length_drop, List.length_take]; rfl)) ?_; (with_reducible refine (step_truth.calls (decide (a1 < a2)) t130 _ A19.out).mono ?_); rintro e w' ⟨rfl, ⟨nd, rfl⟩⟩; refine ⟨_, rfl, ?_⟩))
                    go_ret2
                    exact ⟨by first | rfl | (simp; done) | (simp [*]; done), by repeat (first | exact Drawn0.refl _ | apply Drawn0.step)⟩
                  · rw [if_neg c18] at H
                    have c18b0 : (a0 == 15) = false := beq_eq_false_iff_ne.mpr c18
                    have c18b1 : (a0 != 15) = true := bne_iff_ne.mpr c18
                    by_cases c20 : a0 = 16
                    · rw [if_pos c20] at H
                      have c20b0 : (a0 == 16) = true := beq_iff_eq.mpr c20
                      have c20b1 : (a0 != 16) = false := bne_eq_false_iff_eq.mpr c20
                      clear c20
                      replace H := Option.bind_eq_some_iff.mp H
                      obtain ⟨t131, A210, H⟩ := H
                      replace H : (some (t131, true)) = some (r1, r2) := H
                      have A21 := Aside0.mk A210
                      clear A210
                      simp only [Option.some.injEq, Prod.mk.injEq] at H
                      obtain ⟨rfl, rfl⟩ := H
                      go_enter Try.func29, Try.ntmps29
                      go_wp2_with (first | ((with_reducible refine gate_callee (f := 49) rfl ?_); refine goesL_ (some 64) rfl rfl Try.func49 (by kernel_rfl) rfl #[.bool (a1 == a2)] rfl (by (try simp only [List.map_toArray, List.map_cons, List.map_nil]); first | done | rfl | (simp only [List.length_drop, List.length_take]; rfl)) ?_; (with_reducible refine (step_truth.calls (a1 == a2) t131 _ A21.out).mono ?_); rintro e w' ⟨rfl, ⟨nd, rfl⟩⟩; refine ⟨_, rfl, ?_⟩))
                      go_ret2
                      exact ⟨by first | rfl | (simp; done) | (simp [*]; done), by repeat (first | exact Drawn0.refl _ | apply Drawn0.step)⟩
                    · rw [if_neg c20] at H
                      have c20b0 : (a0 == 16) = false := beq_eq_false_iff_ne.mpr c20
                      have c20b1 : (a0 != 16) = true := bne_iff_ne.mpr c20
                      simp only [Option.some.injEq, Prod.mk.injEq] at H
                      obtain ⟨rfl, rfl⟩ := H
                      go_enter Try.func29, Try.ntmps29
                      go_wp2
                      go_ret2
                      exact ⟨by first | rfl | (simp; done) | (simp [*]; done), by repeat (first | exact Drawn0.refl _ | apply Drawn0.step)⟩

end Go.Proofs.Ythjfmlehkcccfaa.GA
end

section
/-
  The reference's table of operations: rows, told by one script.
-/
set_option linter.unusedVariables false
set_option linter.unusedSimpArgs false
namespace Go.Proofs.Ythjfmlehkcccfaa.GA
open Go.RowKit Go.Proofs.YthjfmlehkcccfaaW.PrintWords Go.Proofs.YthjfmlehkcccfaaW.PrintLast Go.Proofs.YthjfmlehkcccfaaW.PrintMore Hctx

def rotaref06_later.f (a0 : Int) : Option (ByteArray × Int × Int × ByteArray × ByteArray × Bool) := if a0 = 30 then (some ((⟨#[114, 101, 99, 118]⟩ : ByteArray), 3, 2, (⟨#[99]⟩ : ByteArray), (⟨#[97, 98]⟩ : ByteArray), true)) else (if a0 = 31 then (some ((⟨#[99, 108, 111, 115, 101]⟩ : ByteArray), 1, 2, (⟨#[97]⟩ : ByteArray), (⟨#[]⟩ : ByteArray), true)) else (if a0 = 32 then (some ((⟨#[108, 101, 110]⟩ : ByteArray), 2, 1, (⟨#[98]⟩ : ByteArray), (⟨#[97]⟩ : ByteArray), true)) else (if a0 = 33 then (some ((⟨#[99, 97, 112]⟩ : ByteArray), 2, 1, (⟨#[98]⟩ : ByteArray), (⟨#[97]⟩ : ByteArray), true)) else (if a0 = 34 then (some ((⟨#[115, 101, 108, 101, 99, 116]⟩ : ByteArray), 5, 4, (⟨#[42]⟩ : ByteArray), (⟨#[42]⟩ : ByteArray), true)) else (if a0 = 35 then (some ((⟨#[108, 111, 99, 107]⟩ : ByteArray), 1, 2, (⟨#[97]⟩ : ByteArray), (⟨#[]⟩ : ByteArray), true)) else (if a0 = 36 then (some ((⟨#[117, 110, 108, 111, 99, 107]⟩ : ByteArray), 1, 2, (⟨#[97]⟩ : ByteArray), (⟨#[]⟩ : ByteArray), true)) else (if a0 = 37 then (some ((⟨#[114, 108, 111, 99, 107]⟩ : ByteArray), 1, 2, (⟨#[97]⟩ : ByteArray), (⟨#[]⟩ : ByteArray), true)) else (if a0 = 38 then (some ((⟨#[114, 117, 110, 108, 111, 99, 107]⟩ : ByteArray), 1, 2, (⟨#[97]⟩ : ByteArray), (⟨#[]⟩ : ByteArray), true)) else (if a0 = 39 then (some ((⟨#[119, 97, 100, 100]⟩ : ByteArray), 2, 2, (⟨#[97, 98]⟩ : ByteArray), (⟨#[]⟩ : ByteArray), true)) else (if a0 = 40 then (some ((⟨#[119, 100, 111, 110, 101]⟩ : ByteArray), 1, 2, (⟨#[97]⟩ : ByteArray), (⟨#[]⟩ : ByteArray), true)) else (if a0 = 41 then (some ((⟨#[119, 119, 97, 105, 116]⟩ : ByteArray), 1, 2, (⟨#[97]⟩ : ByteArray), (⟨#[]⟩ : ByteArray), true)) else (if a0 = 42 then (some ((⟨#[99, 119, 97, 105, 116]⟩ : ByteArray), 2, 3, (⟨#[97, 98]⟩ : ByteArray), (⟨#[]⟩ : ByteArray), true)) else (if a0 = 43 then (some ((⟨#[115, 105, 103, 110, 97, 108]⟩ : ByteArray), 1, 2, (⟨#[97]⟩ : ByteArray), (⟨#[]⟩ : ByteArray), true)) else (if a0 = 44 then (some ((⟨#[98, 114, 111, 97, 100, 99, 97, 115, 116]⟩ : ByteArray), 1, 3, (⟨#[97]⟩ : ByteArray), (⟨#[]⟩ : ByteArray), true)) else (if a0 = 45 then (some ((⟨#[97, 99, 113, 117, 105, 114, 101]⟩ : ByteArray), 1, 2, (⟨#[97]⟩ : ByteArray), (⟨#[]⟩ : ByteArray), true)) else (if a0 = 46 then (some ((⟨#[114, 101, 108, 101, 97, 115, 101]⟩ : ByteArray), 1, 2, (⟨#[97]⟩ : ByteArray), (⟨#[]⟩ : ByteArray), true)) else (if a0 = 47 then (some ((⟨#[108, 111, 97, 100]⟩ : ByteArray), 2, 2, (⟨#[98]⟩ : ByteArray), (⟨#[97]⟩ : ByteArray), true)) else (if a0 = 48 then (some ((⟨#[115, 116, 111, 114, 101]⟩ : ByteArray), 2, 2, (⟨#[97, 98]⟩ : ByteArray), (⟨#[]⟩ : ByteArray), true)) else (if a0 = 49 then (some ((⟨#[115, 119, 97, 112]⟩ : ByteArray), 3, 3, (⟨#[97, 98, 99]⟩ : ByteArray), (⟨#[97]⟩ : ByteArray), true)) else (if a0 = 50 then (some ((⟨#[102, 101, 116, 99, 104]⟩ : ByteArray), 3, 3, (⟨#[98, 99]⟩ : ByteArray), (⟨#[97]⟩ : ByteArray), true)) else (if a0 = 51 then (some ((⟨#[105, 110, 112, 117, 116]⟩ : ByteArray), 2, 2, (⟨#[]⟩ : ByteArray), (⟨#[97, 98]⟩ : ByteArray), true)) else (if a0 = 52 then (some ((⟨#[111, 117, 116, 112, 117, 116]⟩ : ByteArray), 1, 2, (⟨#[97]⟩ : ByteArray), (⟨#[]⟩ : ByteArray), true)) else (if a0 = 53 then (some ((⟨#[112, 117, 116]⟩ : ByteArray), 3, 2, (⟨#[97, 98]⟩ : ByteArray), (⟨#[99]⟩ : ByteArray), true)) else (if a0 = 54 then (some ((⟨#[103, 101, 116]⟩ : ByteArray), 3, 2, (⟨#[99]⟩ : ByteArray), (⟨#[97, 98]⟩ : ByteArray), true)) else (if a0 = 55 then (some ((⟨#[97, 102, 116, 101, 114]⟩ : ByteArray), 3, 3, (⟨#[98, 99]⟩ : ByteArray), (⟨#[97]⟩ : ByteArray), true)) else (if a0 = 56 then (some ((⟨#[101, 118, 101, 114, 121]⟩ : ByteArray), 3, 3, (⟨#[98, 99]⟩ : ByteArray), (⟨#[97]⟩ : ByteArray), true)) else (if a0 = 57 then (some ((⟨#[115, 116, 111, 112]⟩ : ByteArray), 2, 2, (⟨#[98]⟩ : ByteArray), (⟨#[97]⟩ : ByteArray), true)) else (if a0 = 58 then (some ((⟨#[116, 114, 97, 112]⟩ : ByteArray), 4, 1, (⟨#[]⟩ : ByteArray), (⟨#[]⟩ : ByteArray), true)) else (some ((⟨#[]⟩ : ByteArray), 0, 0, (⟨#[]⟩ : ByteArray), (⟨#[]⟩ : ByteArray), false))))))))))))))))))))))))))))))
set_option maxHeartbeats 4000000 in
set_option maxRecDepth 100000 in
theorem rotaref06_later_a (a0 : Int) (r1 : ByteArray) (r2 : Int) (r3 : Int) (r4 : ByteArray) (r5 : ByteArray) (r6 : Bool) (w : World) (h : rotaref06_later.f a0 = some (r1, r2, r3, r4, r5, r6)) (hk : a0 = 30 ∨ a0 = 31 ∨ a0 = 32 ∨ a0 = 33 ∨ a0 = 34 ∨ a0 = 35 ∨ a0 = 36 ∨ a0 = 37 ∨ a0 = 38 ∨ a0 = 39) :
    Calls Try.prog 52 #[.int .i64 a0] w fun e w' => e = .returned (.tuple #[.agg #[.string r1, .int .i64 r2, .int .i64 r3, .string r4, .string r5], .bool r6]) ∧ Below w.heap.size w w' := by
  rcases hk with rfl | rfl | rfl | rfl | rfl | rfl | rfl | rfl | rfl | rfl
  all_goals
    rw [show rotaref06_later.f _ = some (_, _, _, _, _, _) from rfl] at h
    simp only [Option.some.injEq, Prod.mk.injEq] at h
    obtain ⟨rfl, rfl, rfl, rfl, rfl, rfl⟩ := h
    have M := Aside0.mk (Mem.start [3] w)
    go_enter Try.func52, Try.ntmps52
    go_wp2_with (first
      | (refine eB M 2 #[.string (⟨#[]⟩ : ByteArray), .int .i64 0, .int .i64 0, .string (⟨#[]⟩ : ByteArray), .string (⟨#[]⟩ : ByteArray)] 86 ?_; clear M; intro g w1 M1)
      | (refine eR M1 86 2 0 _ ?_; clear M1; intro w2 M2))
    exact bodyPost_ret (results_ct rfl _ _ g 86 _ (0, 0) _ rfl (M2.out.at 0 rfl) Try.underlying86 rfl (by kernel_rfl)) rfl ⟨rfl, M2.out.below⟩

set_option maxHeartbeats 4000000 in
set_option maxRecDepth 100000 in
theorem rotaref06_later_b (a0 : Int) (r1 : ByteArray) (r2 : Int) (r3 : Int) (r4 : ByteArray) (r5 : ByteArray) (r6 : Bool) (w : World) (h : rotaref06_later.f a0 = some (r1, r2, r3, r4, r5, r6)) (hk : a0 = 40 ∨ a0 = 41 ∨ a0 = 42 ∨ a0 = 43 ∨ a0 = 44 ∨ a0 = 45 ∨ a0 = 46 ∨ a0 = 47 ∨ a0 = 48 ∨ a0 = 49) :
    Calls Try.prog 52 #[.int .i64 a0] w fun e w' => e = .returned (.tuple #[.agg #[.string r1, .int .i64 r2, .int .i64 r3, .string r4, .string r5], .bool r6]) ∧ Below w.heap.size w w' := by
  rcases hk with rfl | rfl | rfl | rfl | rfl | rfl | rfl | rfl | rfl | rfl
  all_goals
    rw [show rotaref06_later.f _ = some (_, _, _, _, _, _) from rfl] at h
    simp only [Option.some.injEq, Prod.mk.injEq] at h
    obtain ⟨rfl, rfl, rfl, rfl, rfl, rfl⟩ := h
    have M := Aside0.mk (Mem.start [3] w)
    go_enter Try.func52, Try.ntmps52
    go_wp2_with (first
      | (refine eB M 2 #[.string (⟨#[]⟩ : ByteArray), .int .i64 0, .int .i64 0, .string (⟨#[]⟩ : ByteArray), .string (⟨#[]⟩ : ByteArray)] 86 ?_; clear M; intro g w1 M1)
      | (refine eR M1 86 2 0 _ ?_; clear M1; intro w2 M2))
    exact bodyPost_ret (results_ct rfl _ _ g 86 _ (0, 0) _ rfl (M2.out.at 0 rfl) Try.underlying86 rfl (by kernel_rfl)) rfl ⟨rfl, M2.out.below⟩

set_option maxHeartbeats 4000000 in
set_option maxRecDepth 100000 in
theorem rotaref06_later_z (a0 : Int) (r1 : ByteArray) (r2 : Int) (r3 : Int) (r4 : ByteArray) (r5 : ByteArray) (r6 : Bool) (w : World) (h : rotaref06_later.f a0 = some (r1, r2, r3, r4, r5, r6)) (hk : a0 = 50 ∨ a0 = 51 ∨ a0 = 52 ∨ a0 = 53 ∨ a0 = 54 ∨ a0 = 55 ∨ a0 = 56 ∨ a0 = 57 ∨ a0 = 58) :
    Calls Try.prog 52 #[.int .i64 a0] w fun e w' => e = .returned (.tuple #[.agg #[.string r1, .int .i64 r2, .int .i64 r3, .string r4, .string r5], .bool r6]) ∧ Below w.heap.size w w' := by
  rcases hk with rfl | rfl | rfl | rfl | rfl | rfl | rfl | rfl | rfl
  all_goals
    rw [show rotaref06_later.f _ = some (_, _, _, _, _, _) from rfl] at h
    simp only [Option.some.injEq, Prod.mk.injEq] at h
    obtain ⟨rfl, rfl, rfl, rfl, rfl, rfl⟩ := h
    have M := Aside0.mk (Mem.start [3] w)
    go_enter Try.func52, Try.ntmps52
    go_wp2_with (first
      | (refine eB M 2 #[.string (⟨#[]⟩ : ByteArray), .int .i64 0, .int .i64 0, .string (⟨#[]⟩ : ByteArray), .string (⟨#[]⟩ : ByteArray)] 86 ?_; clear M; intro g w1 M1)
      | (refine eR M1 86 2 0 _ ?_; clear M1; intro w2 M2))
    exact bodyPost_ret (results_ct rfl _ _ g 86 _ (0, 0) _ rfl (M2.out.at 0 rfl) Try.underlying86 rfl (by kernel_rfl)) rfl ⟨rfl, M2.out.below⟩

set_option maxHeartbeats 4000000 in
set_option maxRecDepth 100000 in
theorem rotaref06_later_else (a0 : Int) (r1 : ByteArray) (r2 : Int) (r3 : Int) (r4 : ByteArray) (r5 : ByteArray) (r6 : Bool) (w : World) (h : rotaref06_later.f a0 = some (r1, r2, r3, r4, r5, r6)) (hk : a0 < 30 ∨ 58 < a0) :
    Calls Try.prog 52 #[.int .i64 a0] w fun e w' => e = .returned (.tuple #[.agg #[.string r1, .int .i64 r2, .int .i64 r3, .string r4, .string r5], .bool r6]) ∧ Below w.heap.size w w' := by
  unfold rotaref06_later.f at h
  rw [if_neg (show ¬ a0 = 30 by omega)] at h
  rw [if_neg (show ¬ a0 = 31 by omega)] at h
  rw [if_neg (show ¬ a0 = 32 by omega)] at h
  rw [if_neg (show ¬ a0 = 33 by omega)] at h
  rw [if_neg (show ¬ a0 = 34 by omega)] at h
  rw [if_neg (show ¬ a0 = 35 by omega)] at h
  rw [if_neg (show ¬ a0 = 36 by omega)] at h
  rw [if_neg (show ¬ a0 = 37 by omega)] at h
  rw [if_neg (show ¬ a0 = 38 by omega)] at h
  rw [if_neg (show ¬ a0 = 39 by omega)] at h
  rw [if_neg (show ¬ a0 = 40 by omega)] at h
  rw [if_neg (show ¬ a0 = 41 by omega)] at h
  rw [if_neg (show ¬ a0 = 42 by omega)] at h
  rw [if_neg (show ¬ a0 = 43 by omega)] at h
  rw [if_neg (show ¬ a0 = 44 by omega)] at h
  rw [if_neg (show ¬ a0 = 45 by omega)] at h
  rw [if_neg (show ¬ a0 = 46 by omega)] at h
  rw [if_neg (show ¬ a0 = 47 by omega)] at h
  rw [if_neg (show ¬ a0 = 48 by omega)] at h
  rw [if_neg (show ¬ a0 = 49 by omega)] at h
  rw [if_neg (show ¬ a0 = 50 by omega)] at h
  rw [if_neg (show ¬ a0 = 51 by omega)] at h
  rw [if_neg (show ¬ a0 = 52 by omega)] at h
  rw [if_neg (show ¬ a0 = 53 by omega)] at h
  rw [if_neg (show ¬ a0 = 54 by omega)] at h
  rw [if_neg (show ¬ a0 = 55 by omega)] at h
  rw [if_neg (show ¬ a0 = 56 by omega)] at h
  rw [if_neg (show ¬ a0 = 57 by omega)] at h
  rw [if_neg (show ¬ a0 = 58 by omega)] at h
  have c30 := beq_eq_false_iff_ne.mpr (show a0 ≠ 30 by omega)
  have c31 := beq_eq_false_iff_ne.mpr (show a0 ≠ 31 by omega)
  have c32 := beq_eq_false_iff_ne.mpr (show a0 ≠ 32 by omega)
  have c33 := beq_eq_false_iff_ne.mpr (show a0 ≠ 33 by omega)
  have c34 := beq_eq_false_iff_ne.mpr (show a0 ≠ 34 by omega)
  have c35 := beq_eq_false_iff_ne.mpr (show a0 ≠ 35 by omega)
  have c36 := beq_eq_false_iff_ne.mpr (show a0 ≠ 36 by omega)
  have c37 := beq_eq_false_iff_ne.mpr (show a0 ≠ 37 by omega)
  have c38 := beq_eq_false_iff_ne.mpr (show a0 ≠ 38 by omega)
  have c39 := beq_eq_false_iff_ne.mpr (show a0 ≠ 39 by omega)
  have c40 := beq_eq_false_iff_ne.mpr (show a0 ≠ 40 by omega)
  have c41 := beq_eq_false_iff_ne.mpr (show a0 ≠ 41 by omega)
  have c42 := beq_eq_false_iff_ne.mpr (show a0 ≠ 42 by omega)
  have c43 := beq_eq_false_iff_ne.mpr (show a0 ≠ 43 by omega)
  have c44 := beq_eq_false_iff_ne.mpr (show a0 ≠ 44 by omega)
  have c45 := beq_eq_false_iff_ne.mpr (show a0 ≠ 45 by omega)
  have c46 := beq_eq_false_iff_ne.mpr (show a0 ≠ 46 by omega)
  have c47 := beq_eq_false_iff_ne.mpr (show a0 ≠ 47 by omega)
  have c48 := beq_eq_false_iff_ne.mpr (show a0 ≠ 48 by omega)
  have c49 := beq_eq_false_iff_ne.mpr (show a0 ≠ 49 by omega)
  have c50 := beq_eq_false_iff_ne.mpr (show a0 ≠ 50 by omega)
  have c51 := beq_eq_false_iff_ne.mpr (show a0 ≠ 51 by omega)
  have c52 := beq_eq_false_iff_ne.mpr (show a0 ≠ 52 by omega)
  have c53 := beq_eq_false_iff_ne.mpr (show a0 ≠ 53 by omega)
  have c54 := beq_eq_false_iff_ne.mpr (show a0 ≠ 54 by omega)
  have c55 := beq_eq_false_iff_ne.mpr (show a0 ≠ 55 by omega)
  have c56 := beq_eq_false_iff_ne.mpr (show a0 ≠ 56 by omega)
  have c57 := beq_eq_false_iff_ne.mpr (show a0 ≠ 57 by omega)
  have c58 := beq_eq_false_iff_ne.mpr (show a0 ≠ 58 by omega)
  clear hk
  simp only [Option.some.injEq, Prod.mk.injEq] at h
  obtain ⟨rfl, rfl, rfl, rfl, rfl, rfl⟩ := h
  have M := Aside0.mk (Mem.start [3] w)
  go_enter Try.func52, Try.ntmps52
  go_wp2_with (first
    | (refine eB M 2 #[.string (⟨#[]⟩ : ByteArray), .int .i64 0, .int .i64 0, .string (⟨#[]⟩ : ByteArray), .string (⟨#[]⟩ : ByteArray)] 86 ?_; clear M; intro g w1 M1)
    | (refine eR M1 86 2 0 _ ?_; clear M1; intro w2 M2))
  exact bodyPost_ret (results_ct rfl _ _ g 86 _ (0, 0) _ rfl (M2.out.at 0 rfl) Try.underlying86 rfl (by kernel_rfl)) rfl ⟨rfl, M2.out.below⟩

theorem rotaref06_later.calls (a0 : Int) (r1 : ByteArray) (r2 : Int) (r3 : Int) (r4 : ByteArray) (r5 : ByteArray) (r6 : Bool) (w : World) (h : rotaref06_later.f a0 = some (r1, r2, r3, r4, r5, r6)) :
    Calls Try.prog 52 #[.int .i64 a0] w fun e w' => e = .returned (.tuple #[.agg #[.string r1, .int .i64 r2, .int .i64 r3, .string r4, .string r5], .bool r6]) ∧ Below w.heap.size w w' := by
  by_cases hk : a0 < 30 ∨ 58 < a0
  · exact rotaref06_later_else a0 r1 r2 r3 r4 r5 r6 w h hk
  by_cases hka : a0 < 40
  · exact rotaref06_later_a a0 r1 r2 r3 r4 r5 r6 w h (by omega)
  by_cases hkb : a0 < 50
  · exact rotaref06_later_b a0 r1 r2 r3 r4 r5 r6 w h (by omega)
  exact rotaref06_later_z a0 r1 r2 r3 r4 r5 r6 w h (by omega)

end Go.Proofs.Ythjfmlehkcccfaa.GA
end
