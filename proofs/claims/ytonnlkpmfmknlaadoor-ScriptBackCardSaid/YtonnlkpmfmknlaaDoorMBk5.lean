import Derived.Test.YtonnlkpmfmknlaaDoorMB6
import Derived.Test.YtonnlkpmfmknlaaDoorMBk4
import Derived.Test.YtonnlkpmfmknlaaDoorMB4
import Derived.Lib.ItoaLen
import Derived.IntWalk
section
-- laid by a program of this session (wip/gp.sh)
namespace Go.Proofs.YtonnlkpmfmknlaaDoor.GA
open Go.RowKit Go.Proofs.YtonnlkpmfmknlaaDoorW.PrintWords Go.Proofs.YtonnlkpmfmknlaaDoorW.PrintLast Go.Proofs.YtonnlkpmfmknlaaDoorW.PrintMore
attribute [local go_sem] max2_int min2_int max_two min_two max_three min_three max_four min_four   -- for this text's walks alone
set_option linter.unusedVariables false
set_option linter.unusedSimpArgs false

/-! ### rotaref19_digits: function 59 -/
mutual
def rotaref19_digits.j0 : Nat → ByteArray → Int → Bool → Option (Int × Bool)
  | 0, _, _, _ => none
  | k + 1, x0, x1, x26 => if x26 = true then (some (0, false)) else (rotaref19_digits.l0 k x0 x1 0 0)
def rotaref19_digits.l0 : Nat → ByteArray → Int → Int → Int → Option (Int × Bool)
  | 0, _, _, _, _ => none
  | k + 1, x0, x1, x6, x7 => if x7 < (x0.size : Int) then (if 0 ≤ x7 then (if (bt x0 x7) < 48 then (rotaref19_digits.j2 k x0 x1 x6 x7 true) else (rotaref19_digits.j2 k x0 x1 x6 x7 (decide ((bt x0 x7) > 57)))) else (none)) else (some (x6, true))
def rotaref19_digits.j2 : Nat → ByteArray → Int → Int → Int → Bool → Option (Int × Bool)
  | 0, _, _, _, _, _ => none
  | k + 1, x0, x1, x6, x7, x42 => if x42 = true then (some (0, false)) else (if 0 ≤ x7 then (if x7 < (x0.size : Int) then (if x6 > (IntKind.u64.wrap (Int.tdiv (IntKind.u64.wrap (x1 - (((bt x0 x7) - 48) % 256))) 10)) then (some (0, false)) else (rotaref19_digits.l0 k x0 x1 (IntKind.u64.wrap ((IntKind.u64.wrap (x6 * 10)) + (((bt x0 x7) - 48) % 256))) (wrap64 (x7 + 1)))) else (none)) else (none))
end
def rotaref19_digits.f (k : Nat) (a0 : ByteArray) (a1 : Int) : Option (Int × Bool) := if (a0.size : Int) = 0 then (rotaref19_digits.j0 k a0 a1 true) else (if (a0.size : Int) > 20 then (rotaref19_digits.j0 k a0 a1 true) else (if (a0.size : Int) > 1 then (if 0 < (a0.size : Int) then (rotaref19_digits.j0 k a0 a1 ((bt a0 0) == 48)) else (none)) else (rotaref19_digits.j0 k a0 a1 false)))
theorem rotaref19_digits.mono_l : ∀ k, (∀ y0 y1 y2, LeO (rotaref19_digits.j0 k y0 y1 y2) (rotaref19_digits.j0 (k + 1) y0 y1 y2)) ∧ (∀ y0 y1 y2 y3, LeO (rotaref19_digits.l0 k y0 y1 y2 y3) (rotaref19_digits.l0 (k + 1) y0 y1 y2 y3)) ∧ (∀ y0 y1 y2 y3 y4, LeO (rotaref19_digits.j2 k y0 y1 y2 y3 y4) (rotaref19_digits.j2 (k + 1) y0 y1 y2 y3 y4))
  | 0 => ⟨fun _ _ _ r h => by simp [rotaref19_digits.j0] at h, fun _ _ _ _ r h => by simp [rotaref19_digits.l0] at h, fun _ _ _ _ _ r h => by simp [rotaref19_digits.j2] at h⟩
  | k + 1 => by
    obtain ⟨ih0, ih1, ih2⟩ := rotaref19_digits.mono_l k
    refine ⟨?_, ?_, ?_⟩
    · intro y0 y1 y2
      unfold rotaref19_digits.j0
      repeat' first
      | (with_reducible exact ih0 _ _ _)
      | (with_reducible exact ih1 _ _ _ _)
      | (with_reducible exact ih2 _ _ _ _ _)
      | (with_reducible exact LeO.refl _)
      | (with_reducible exact LeO.none _)
      | (with_reducible refine LeO.ite ?_ ?_)
      | (with_reducible refine LeO.bind ?_ (fun _ => ?_))
      | exact ih0 _ _ _
      | exact ih1 _ _ _ _
      | exact ih2 _ _ _ _ _
      | exact LeO.none _
      | refine LeO.ite ?_ ?_
      | refine LeO.bind ?_ (fun _ => ?_)
    · intro y0 y1 y2 y3
      unfold rotaref19_digits.l0
      repeat' first
      | (with_reducible exact ih0 _ _ _)
      | (with_reducible exact ih1 _ _ _ _)
      | (with_reducible exact ih2 _ _ _ _ _)
      | (with_reducible exact LeO.refl _)
      | (with_reducible exact LeO.none _)
      | (with_reducible refine LeO.ite ?_ ?_)
      | (with_reducible refine LeO.bind ?_ (fun _ => ?_))
      | exact ih0 _ _ _
      | exact ih1 _ _ _ _
      | exact ih2 _ _ _ _ _
      | exact LeO.none _
      | refine LeO.ite ?_ ?_
      | refine LeO.bind ?_ (fun _ => ?_)
    · intro y0 y1 y2 y3 y4
      unfold rotaref19_digits.j2
      repeat' first
      | (with_reducible exact ih0 _ _ _)
      | (with_reducible exact ih1 _ _ _ _)
      | (with_reducible exact ih2 _ _ _ _ _)
      | (with_reducible exact LeO.refl _)
      | (with_reducible exact LeO.none _)
      | (with_reducible refine LeO.ite ?_ ?_)
      | (with_reducible refine LeO.bind ?_ (fun _ => ?_))
      | exact ih0 _ _ _
      | exact ih1 _ _ _ _
      | exact ih2 _ _ _ _ _
      | exact LeO.none _
      | refine LeO.ite ?_ ?_
      | refine LeO.bind ?_ (fun _ => ?_)
theorem rotaref19_digits.mono : ∀ a0 a1 k, LeO (rotaref19_digits.f k a0 a1) (rotaref19_digits.f (k + 1) a0 a1) := by
  intro a0 a1 k
  obtain ⟨ih0, ih1, ih2⟩ := rotaref19_digits.mono_l k
  unfold rotaref19_digits.f
  repeat' first
      | (with_reducible exact ih0 _ _ _)
      | (with_reducible exact ih1 _ _ _ _)
      | (with_reducible exact ih2 _ _ _ _ _)
      | (with_reducible exact LeO.refl _)
      | (with_reducible exact LeO.none _)
      | (with_reducible refine LeO.ite ?_ ?_)
      | (with_reducible refine LeO.bind ?_ (fun _ => ?_))
      | exact ih0 _ _ _
      | exact ih1 _ _ _ _
      | exact ih2 _ _ _ _ _
      | exact LeO.none _
      | refine LeO.ite ?_ ?_
      | refine LeO.bind ?_ (fun _ => ?_)
set_option maxHeartbeats 8000000 in
set_option maxRecDepth 100000 in
theorem rotaref19_digits.calls (k : Nat) (a0 : ByteArray) (a1 : Int) (r1 : Int) (r2 : Bool) (w : World) (h : rotaref19_digits.f k a0 a1 = some (r1, r2)) :
    Calls Tryd.prog 59 #[.string a0, .int .u64 a1] w fun e w' => e = .returned (.tuple #[.int .u64 r1, .bool r2]) ∧ Drawn0 w w' := by
  have H : (if (a0.size : Int) = 0 then (rotaref19_digits.j0 k a0 a1 true) else (if (a0.size : Int) > 20 then (rotaref19_digits.j0 k a0 a1 true) else (if (a0.size : Int) > 1 then (if 0 < (a0.size : Int) then (rotaref19_digits.j0 k a0 a1 ((bt a0 0) == 48)) else (none)) else (rotaref19_digits.j0 k a0 a1 false)))) = some (r1, r2) := h
  clear h
  have HC3 := Aside0.mk H
  clear H
  go_enter Tryd.func59, Tryd.ntmps59
  go_upto_region 1 with (fail)
  go_cut [26] (fun v26 wc => ∃ (kq : Nat) (x26_2 : Bool), v26 = .bool x26_2 ∧ Aside0 (rotaref19_digits.j0 kq a0 a1 x26_2 = some (r1, r2)) ∧ Aside0 (kq ≤ k) ∧ Drawn0 w wc)
  case first =>
    have H := HC3.out
    clear HC3
    by_cases c4 : (a0.size : Int) = 0
    · rw [if_pos c4] at H
      have c4b0 : ((a0.size : Int) == 0) = true := beq_iff_eq.mpr c4
      have c4b1 : ((a0.size : Int) != 0) = false := bne_eq_false_iff_eq.mpr c4
      clear c4
      (first | rw [c4b0] | (simp only [i64_w, i32_w]; rw [c4b0]) | skip)
      have H' := Aside0.mk H
      clear H
      go_wp2
      go_meet
      case rel => exact ⟨_, (true), (by first | rfl | (simp; done) | (simp [*]; done)), H', ⟨by first | omega | exact Nat.le_refl _⟩, by repeat (first | exact Drawn0.refl _ | apply Drawn0.step)⟩
    · rw [if_neg c4] at H
      have c4b0 : ((a0.size : Int) == 0) = false := beq_eq_false_iff_ne.mpr c4
      have c4b1 : ((a0.size : Int) != 0) = true := bne_iff_ne.mpr c4
      (first | rw [c4b0] | (simp only [i64_w, i32_w]; rw [c4b0]) | skip)
      by_cases c5 : (a0.size : Int) > 20
      · rw [if_pos c5] at H
        have c5b0 : decide (20 < (a0.size : Int)) = true := decide_eq_true c5
        have c5b1 : decide (20 < a0.size) = true := decide_eq_true (by omega)
        clear c5
        have H' := Aside0.mk H
        clear H
        go_wp2
        go_meet
        case rel => exact ⟨_, (true), (by first | rfl | (simp; done) | (simp [*]; done)), H', ⟨by first | omega | exact Nat.le_refl _⟩, by repeat (first | exact Drawn0.refl _ | apply Drawn0.step)⟩
      · rw [if_neg c5] at H
        have c5b0 : decide (20 < (a0.size : Int)) = false := decide_eq_false c5
        have c5b1 : decide (20 < a0.size) = false := decide_eq_false (by omega)
        clear c5
        by_cases c6 : (a0.size : Int) > 1
        · rw [if_pos c6] at H
          have c6b0 : decide (1 < (a0.size : Int)) = true := decide_eq_true c6
          have c6b1 : decide (1 < a0.size) = true := decide_eq_true (by omega)
          clear c6
          by_cases c7 : 0 < (a0.size : Int)
          · rw [if_pos c7] at H
            have c7b0 : decide (0 < (a0.size : Int)) = true := decide_eq_true c7
            have c7b1 : decide (0 < a0.size) = true := decide_eq_true (by omega)
            clear c7
            have H' := Aside0.mk H
            clear H
            have p8 : 0 ≤ (0 : Int) := (by omega)
            have q8 : 0 < a0.size := (by have : (0 : Int) < (a0.size : Int) := of_decide_eq_true (by first | (with_reducible assumption) | assumption); omega)
            have hx8 : ∀ h : 0 < a0.size, ((a0[0]'h).toNat : Int) = bt a0 0 := bt_at a0 0
            clear p8
            have qi8 : (0 < (a0.size : Int)) = True := eq_true (of_decide_eq_true (by first | (with_reducible assumption) | assumption))
            replace q8 := eq_true q8
            go_wp2
            go_meet
            case rel => exact ⟨_, (((bt a0 0) == 48)), (by first | rfl | (simp; done) | (simp [*]; done)), H', ⟨by first | omega | exact Nat.le_refl _⟩, by repeat (first | exact Drawn0.refl _ | apply Drawn0.step)⟩
          · rw [if_neg c7] at H
            exact absurd H (by simp)
        · rw [if_neg c6] at H
          have c6b0 : decide (1 < (a0.size : Int)) = false := decide_eq_false c6
          have c6b1 : decide (1 < a0.size) = false := decide_eq_false (by omega)
          clear c6
          have H' := Aside0.mk H
          clear H
          go_wp2
          go_meet
          case rel => exact ⟨_, (false), (by first | rfl | (simp; done) | (simp [*]; done)), H', ⟨by first | omega | exact Nat.le_refl _⟩, by repeat (first | exact Drawn0.refl _ | apply Drawn0.step)⟩
  case rest =>
    clear HC3
    try clear p2
    try clear c4
    try clear c4b0
    try clear c4b1
    try clear c5
    try clear c5b0
    try clear c5b1
    try clear c6
    try clear c6b0
    try clear c6b1
    try clear c7
    try clear c7b0
    try clear c7b1
    try clear p8
    try clear q8
    try clear hx8
    try clear qi8
    try clear p8
    try clear q8
    obtain ⟨kq, x26_2, rfl, HA, HJ2, ⟨mc2, rfl⟩⟩ := hcut
    cases kq with
    | zero => exact absurd HA.out (by simp [rotaref19_digits.j0])
    | succ kj2 =>
      have H := HA.out
      clear HA
      simp only [rotaref19_digits.j0] at H
      by_cases c9 : x26_2 = true
      · subst c9
        have H1 : (some (0, false)) = some (r1, r2) := by rw [if_pos rfl] at H; exact H
        clear H
        have H := H1
        clear H1
        simp only [Option.some.injEq, Prod.mk.injEq] at H
        obtain ⟨rfl, rfl⟩ := H
        go_wp2
        go_ret2
        exact ⟨by first | rfl | (simp; done) | (simp [*]; done), by repeat (first | exact Drawn0.refl _ | apply Drawn0.step)⟩
      · replace c9 := Bool.eq_false_iff.mpr c9
        subst c9
        have H1 : (rotaref19_digits.l0 kj2 a0 a1 0 0) = some (r1, r2) := by rw [if_neg (show ¬ (false = true) by decide)] at H; exact H
        clear H
        have H := H1
        clear H1
        have H' := Aside0.mk H
        clear H
        go_wp2
        go_loopg [6, 7] kj2 (fun kq v6 v7 w' => ∃ (x6_2 : Int) (x7_2 : Int), v6 = .int .u64 x6_2 ∧ v7 = .int .i64 x7_2 ∧ Aside0 (rotaref19_digits.l0 kq a0 a1 x6_2 x7_2 = some (r1, r2)) ∧ Aside0 (kq ≤ kj2) ∧ Drawn0 w w')
        case atStart => exact ⟨(0), (0), (by first | rfl | (simp; done) | (simp [*]; done)), (by first | rfl | (simp; done) | (simp [*]; done)), H', ⟨Nat.le_refl _⟩, by repeat (first | exact Drawn0.refl _ | apply Drawn0.step)⟩
        case round =>
          clear H'
          try clear c2
          try clear p2
          try clear c4
          try clear c4b0
          try clear c4b1
          try clear c5
          try clear c5b0
          try clear c5b1
          try clear c6
          try clear c6b0
          try clear c6b1
          try clear c7
          try clear c7b0
          try clear c7b1
          try clear p8
          try clear q8
          try clear hx8
          try clear qi8
          try clear c9
          try clear p2
          try clear p8
          try clear q8
          obtain ⟨x6_2, x7_2, rfl, rfl, HA, HK2, ⟨m2, rfl⟩⟩ := hrel
          cases gk with
          | zero => exact absurd HA.out (by simp [rotaref19_digits.l0])
          | succ k2 =>
            have H := HA.out
            clear HA
            simp only [rotaref19_digits.l0] at H
            by_cases c10 : x7_2 < (a0.size : Int)
            · rw [if_pos c10] at H
              have c10b0 : decide (x7_2 < (a0.size : Int)) = true := decide_eq_true c10
              clear c10
              have HC11 := Aside0.mk H
              clear H
              go_upto_region 7 with (fail)
              go_cut [42] (fun v42 wc => ∃ (kq : Nat) (x42_10 : Bool), v42 = .bool x42_10 ∧ Aside0 (rotaref19_digits.j2 kq a0 a1 x6_2 x7_2 x42_10 = some (r1, r2)) ∧ Aside0 (kq ≤ k2) ∧ Drawn0 w wc)
              case first =>
                have H := HC11.out
                clear HC11
                by_cases c12 : 0 ≤ x7_2
                · rw [if_pos c12] at H
                  have c12b0 : decide (0 ≤ x7_2) = true := decide_eq_true c12
                  clear c12
                  (first | rw [c12b0] | (simp only [i64_w, i32_w]; rw [c12b0]) | skip)
                  by_cases c14 : (bt a0 x7_2) < 48
                  · rw [if_pos c14] at H
                    have c14b0 : decide ((bt a0 x7_2) < 48) = true := decide_eq_true c14
                    clear c14
                    have H' := Aside0.mk H
                    clear H
                    have p13 : 0 ≤ (x7_2 : Int) := of_decide_eq_true (by first | (with_reducible assumption) | assumption)
                    have q13 : x7_2 < (a0.size : Int) := of_decide_eq_true (by first | (with_reducible assumption) | assumption)
                    have hx13 := bt_at a0 x7_2
                    replace p13 := eq_true p13
                    replace q13 := eq_true q13
                    go_wp2
                    go_meet
                    case rel => exact ⟨_, (true), (by first | rfl | (simp; done) | (simp [*]; done)), H', ⟨by have := HJ2.out; have := HK2.out; first | omega | exact Nat.le_refl _⟩, by repeat (first | exact Drawn0.refl _ | apply Drawn0.step)⟩
                  · rw [if_neg c14] at H
                    have c14b0 : decide ((bt a0 x7_2) < 48) = false := decide_eq_false c14
                    clear c14
                    have H' := Aside0.mk H
                    clear H
                    have p13 : 0 ≤ (x7_2 : Int) := of_decide_eq_true (by first | (with_reducible assumption) | assumption)
                    have q13 : x7_2 < (a0.size : Int) := of_decide_eq_true (by first | (with_reducible assumption) | assumption)
                    have hx13 := bt_at a0 x7_2
                    replace p13 := eq_true p13
                    replace q13 := eq_true q13
                    have p15 : 0 ≤ (x7_2 : Int) := of_decide_eq_true (by first | (with_reducible assumption) | assumption)
                    have q15 : x7_2 < (a0.size : Int) := of_decide_eq_true (by first | (with_reducible assumption) | assumption)
                    have hx15 := bt_at a0 x7_2
                    replace p15 := eq_true p15
                    replace q15 := eq_true q15
                    go_wp2
                    go_meet
                    case rel => exact ⟨_, (decide ((bt a0 x7_2) > 57)), (by first | rfl | (simp; done) | (simp [*]; done)), H', ⟨by have := HJ2.out; have := HK2.out; first | omega | exact Nat.le_refl _⟩, by repeat (first | exact Drawn0.refl _ | apply Drawn0.step)⟩
                · rw [if_neg c12] at H
                  exact absurd H (by simp)
              case rest =>
                clear HC11
                try clear c1
                try clear p1
                try clear q1
                try clear hx1
                try clear c2
                try clear p2
                try clear c4
                try clear c4b0
                try clear c4b1
                try clear c5
                try clear c5b0
                try clear c5b1
                try clear c6
                try clear c6b0
                try clear c6b1
                try clear c7
                try clear c7b0
                try clear c7b1
                try clear p8
                try clear q8
                try clear hx8
                try clear qi8
                try clear c9
                try clear c10
                try clear c10b0
                try clear c12
                try clear c12b0
                try clear p13
                try clear q13
                try clear hx13
                try clear c14
                try clear c14b0
                try clear p15
                try clear q15
                try clear hx15
                try clear p13
                try clear p15
                try clear p2
                try clear p8
                try clear q13
                try clear q15
                try clear q8
                obtain ⟨kq, x42_10, rfl, HA, HJ10, ⟨mc10, rfl⟩⟩ := hcut
                cases kq with
                | zero => exact absurd HA.out (by simp [rotaref19_digits.j2])
                | succ kj10 =>
                  have H := HA.out
                  clear HA
                  simp only [rotaref19_digits.j2] at H
                  by_cases c16 : x42_10 = true
                  · subst c16
                    have H1 : (some (0, false)) = some (r1, r2) := by rw [if_pos rfl] at H; exact H
                    clear H
                    have H := H1
                    clear H1
                    simp only [Option.some.injEq, Prod.mk.injEq] at H
                    obtain ⟨rfl, rfl⟩ := H
                    go_wp2
                    go_ret2
                    exact ⟨by first | rfl | (simp; done) | (simp [*]; done), by repeat (first | exact Drawn0.refl _ | apply Drawn0.step)⟩
                  · replace c16 := Bool.eq_false_iff.mpr c16
                    subst c16
                    have H1 : (if 0 ≤ x7_2 then (if x7_2 < (a0.size : Int) then (if x6_2 > (IntKind.u64.wrap (Int.tdiv (IntKind.u64.wrap (a1 - (((bt a0 x7_2) - 48) % 256))) 10)) then (some (0, false)) else (rotaref19_digits.l0 kj10 a0 a1 (IntKind.u64.wrap ((IntKind.u64.wrap (x6_2 * 10)) + (((bt a0 x7_2) - 48) % 256))) (wrap64 (x7_2 + 1)))) else (none)) else (none)) = some (r1, r2) := by rw [if_neg (show ¬ (false = true) by decide)] at H; exact H
                    clear H
                    have H := H1
                    clear H1
                    by_cases c17 : 0 ≤ x7_2
                    · rw [if_pos c17] at H
                      have c17b0 : decide (0 ≤ x7_2) = true := decide_eq_true c17
                      clear c17
                      by_cases c18 : x7_2 < (a0.size : Int)
                      · rw [if_pos c18] at H
                        have c18b0 : decide (x7_2 < (a0.size : Int)) = true := decide_eq_true c18
                        clear c18
                        by_cases c20 : x6_2 > (IntKind.u64.wrap (Int.tdiv (IntKind.u64.wrap (a1 - (((bt a0 x7_2) - 48) % 256))) 10))
                        · rw [if_pos c20] at H
                          have c20b0 : decide ((IntKind.u64.wrap (Int.tdiv (IntKind.u64.wrap (a1 - (((bt a0 x7_2) - 48) % 256))) 10)) < x6_2) = true := decide_eq_true c20
                          clear c20
                          simp only [Option.some.injEq, Prod.mk.injEq] at H
                          obtain ⟨rfl, rfl⟩ := H
                          have p19 : 0 ≤ (x7_2 : Int) := of_decide_eq_true (by first | (with_reducible assumption) | assumption)
                          have q19 : x7_2 < (a0.size : Int) := of_decide_eq_true (by first | (with_reducible assumption) | assumption)
                          have hx19 := bt_at a0 x7_2
                          replace p19 := eq_true p19
                          replace q19 := eq_true q19
                          go_wp2
                          go_ret2
                          exact ⟨by first | rfl | (simp; done) | (simp [*]; done), by repeat (first | exact Drawn0.refl _ | apply Drawn0.step)⟩
                        · rw [if_neg c20] at H
                          have c20b0 : decide ((IntKind.u64.wrap (Int.tdiv (IntKind.u64.wrap (a1 - (((bt a0 x7_2) - 48) % 256))) 10)) < x6_2) = false := decide_eq_false c20
                          clear c20
                          have H' := Aside0.mk H
                          clear H
                          have p19 : 0 ≤ (x7_2 : Int) := of_decide_eq_true (by first | (with_reducible assumption) | assumption)
                          have q19 : x7_2 < (a0.size : Int) := of_decide_eq_true (by first | (with_reducible assumption) | assumption)
                          have hx19 := bt_at a0 x7_2
                          replace p19 := eq_true p19
                          replace q19 := eq_true q19
                          go_wp2
                          go_roundg kj10
                          case measure => have := HJ2.out; have := HK2.out; have := HJ10.out; omega
                          case rel => exact ⟨(IntKind.u64.wrap ((IntKind.u64.wrap (x6_2 * 10)) + (((bt a0 x7_2) - 48) % 256))), (wrap64 (x7_2 + 1)), (by first | rfl | (simp; done) | (simp [*]; done)), (by first | rfl | (simp; done) | (simp [*]; done)), H', ⟨by have := HJ2.out; have := HK2.out; have := HJ10.out; omega⟩, by repeat (first | exact Drawn0.refl _ | apply Drawn0.step)⟩
                      · rw [if_neg c18] at H
                        exact absurd H (by simp)
                    · rw [if_neg c17] at H
                      exact absurd H (by simp)
            · rw [if_neg c10] at H
              have c10b0 : decide (x7_2 < (a0.size : Int)) = false := decide_eq_false c10
              clear c10
              simp only [Option.some.injEq, Prod.mk.injEq] at H
              obtain ⟨rfl, rfl⟩ := H
              go_wp2
              go_ret2
              exact ⟨by first | rfl | (simp; done) | (simp [*]; done), by repeat (first | exact Drawn0.refl _ | apply Drawn0.step)⟩

end Go.Proofs.YtonnlkpmfmknlaaDoor.GA
end

section
-- laid by a program of this session (wip/gp.sh)
namespace Go.Proofs.YtonnlkpmfmknlaaDoor.GA
open Go.RowKit Go.Proofs.YtonnlkpmfmknlaaDoorW.PrintWords Go.Proofs.YtonnlkpmfmknlaaDoorW.PrintLast Go.Proofs.YtonnlkpmfmknlaaDoorW.PrintMore
attribute [local go_sem] max2_int min2_int max_two min_two max_three min_three max_four min_four   -- for this text's walks alone
set_option linter.unusedVariables false
set_option linter.unusedSimpArgs false

/-! ### rotaref19_signed: function 60 -/
def rotaref19_signed.j0 : Nat → ByteArray → Bool → Option (Int × Bool)
  | 0, _, _ => none
  | k + 1, x0, x15 => if x15 = true then (if 1 ≤ (x0.size : Int) then ((rotaref19_digits.f k (x0.extract 1 x0.size) 9223372036854775808).bind fun bt161 => (if bt161.2 = true then (some (wrap64 (IntKind.u64.wrap (-bt161.1)), decide (bt161.1 > 0))) else (some (wrap64 (IntKind.u64.wrap (-bt161.1)), false)))) else (none)) else ((rotaref19_digits.f k x0 9223372036854775807).bind fun bt163 => (some (wrap64 (bt163.1), bt163.2)))
def rotaref19_signed.f (k : Nat) (a0 : ByteArray) : Option (Int × Bool) := if (a0.size : Int) > 0 then (if 0 < (a0.size : Int) then (rotaref19_signed.j0 k a0 ((bt a0 0) == 45)) else (none)) else (rotaref19_signed.j0 k a0 false)
theorem rotaref19_signed.mono_l : ∀ k, (∀ y0 y1, LeO (rotaref19_signed.j0 k y0 y1) (rotaref19_signed.j0 (k + 1) y0 y1))
  | 0 => fun _ _ r h => by simp [rotaref19_signed.j0] at h
  | k + 1 => by
    have ih0 := rotaref19_signed.mono_l k
    · intro y0 y1
      unfold rotaref19_signed.j0
      repeat' first
      | (with_reducible exact ih0 _ _)
      | (with_reducible exact rotaref19_digits.mono _ _ _)
      | (with_reducible exact LeO.refl _)
      | (with_reducible exact LeO.none _)
      | (with_reducible refine LeO.ite ?_ ?_)
      | (with_reducible refine LeO.bind ?_ (fun _ => ?_))
      | exact ih0 _ _
      | exact rotaref19_digits.mono _ _ _
      | exact LeO.none _
      | refine LeO.ite ?_ ?_
      | refine LeO.bind ?_ (fun _ => ?_)
theorem rotaref19_signed.mono : ∀ a0 k, LeO (rotaref19_signed.f k a0) (rotaref19_signed.f (k + 1) a0) := by
  intro a0 k
  have ih0 := rotaref19_signed.mono_l k
  unfold rotaref19_signed.f
  repeat' first
      | (with_reducible exact ih0 _ _)
      | (with_reducible exact rotaref19_digits.mono _ _ _)
      | (with_reducible exact LeO.refl _)
      | (with_reducible exact LeO.none _)
      | (with_reducible refine LeO.ite ?_ ?_)
      | (with_reducible refine LeO.bind ?_ (fun _ => ?_))
      | exact ih0 _ _
      | exact rotaref19_digits.mono _ _ _
      | exact LeO.none _
      | refine LeO.ite ?_ ?_
      | refine LeO.bind ?_ (fun _ => ?_)
set_option maxHeartbeats 8000000 in
set_option maxRecDepth 100000 in
theorem rotaref19_signed.calls (k : Nat) (a0 : ByteArray) (r1 : Int) (r2 : Bool) (w : World) (h : rotaref19_signed.f k a0 = some (r1, r2)) :
    Calls Tryd.prog 60 #[.string a0] w fun e w' => e = .returned (.tuple #[.int .i64 r1, .bool r2]) ∧ Drawn0 w w' := by
  have H : (if (a0.size : Int) > 0 then (if 0 < (a0.size : Int) then (rotaref19_signed.j0 k a0 ((bt a0 0) == 45)) else (none)) else (rotaref19_signed.j0 k a0 false)) = some (r1, r2) := h
  clear h
  have HC2 := Aside0.mk H
  clear H
  go_enter Tryd.func60, Tryd.ntmps60
  go_upto_region 1 with (fail)
  go_cut [15] (fun v15 wc => ∃ (kq : Nat) (x15_1 : Bool), v15 = .bool x15_1 ∧ Aside0 (rotaref19_signed.j0 kq a0 x15_1 = some (r1, r2)) ∧ Aside0 (kq ≤ k) ∧ Drawn0 w wc)
  case first =>
    have H := HC2.out
    clear HC2
    by_cases c3 : (a0.size : Int) > 0
    · rw [if_pos c3] at H
      have c3b0 : decide (0 < (a0.size : Int)) = true := decide_eq_true c3
      have c3b1 : decide (0 < a0.size) = true := decide_eq_true (by omega)
      clear c3
      (first | rw [c3b0] | (simp only [i64_w, i32_w]; rw [c3b0]) | skip)
      by_cases c4 : 0 < (a0.size : Int)
      · rw [if_pos c4] at H
        have c4b0 : decide (0 < (a0.size : Int)) = true := decide_eq_true c4
        have c4b1 : decide (0 < a0.size) = true := decide_eq_true (by omega)
        clear c4
        have H' := Aside0.mk H
        clear H
        have p5 : 0 ≤ (0 : Int) := (by omega)
        have q5 : 0 < a0.size := (by have : (0 : Int) < (a0.size : Int) := of_decide_eq_true (by first | (with_reducible assumption) | assumption); omega)
        have hx5 : ∀ h : 0 < a0.size, ((a0[0]'h).toNat : Int) = bt a0 0 := bt_at a0 0
        clear p5
        have qi5 : (0 < (a0.size : Int)) = True := eq_true (of_decide_eq_true (by first | (with_reducible assumption) | assumption))
        replace q5 := eq_true q5
        go_wp2
        go_meet
        case rel => exact ⟨_, (((bt a0 0) == 45)), (by first | rfl | (simp; done) | (simp [*]; done)), H', ⟨by first | omega | exact Nat.le_refl _⟩, by repeat (first | exact Drawn0.refl _ | apply Drawn0.step)⟩
      · rw [if_neg c4] at H
        exact absurd H (by simp)
    · rw [if_neg c3] at H
      have c3b0 : decide (0 < (a0.size : Int)) = false := decide_eq_false c3
      have c3b1 : decide (0 < a0.size) = false := decide_eq_false (by omega)
      clear c3
      (first | rw [c3b0] | (simp only [i64_w, i32_w]; rw [c3b0]) | skip)
      have H' := Aside0.mk H
      clear H
      go_wp2
      go_meet
      case rel => exact ⟨_, (false), (by first | rfl | (simp; done) | (simp [*]; done)), H', ⟨by first | omega | exact Nat.le_refl _⟩, by repeat (first | exact Drawn0.refl _ | apply Drawn0.step)⟩
  case rest =>
    clear HC2
    try clear p2
    try clear c3
    try clear c3b0
    try clear c3b1
    try clear c4
    try clear c4b0
    try clear c4b1
    try clear p5
    try clear q5
    try clear hx5
    try clear qi5
    try clear p5
    try clear q5
    obtain ⟨kq, x15_1, rfl, HA, HJ1, ⟨mc1, rfl⟩⟩ := hcut
    cases kq with
    | zero => exact absurd HA.out (by simp [rotaref19_signed.j0])
    | succ kj1 =>
      have H := HA.out
      clear HA
      simp only [rotaref19_signed.j0] at H
      by_cases c6 : x15_1 = true
      · subst c6
        have H1 : (if 1 ≤ (a0.size : Int) then ((rotaref19_digits.f kj1 (a0.extract 1 a0.size) 9223372036854775808).bind fun bt161 => (if bt161.2 = true then (some (wrap64 (IntKind.u64.wrap (-bt161.1)), decide (bt161.1 > 0))) else (some (wrap64 (IntKind.u64.wrap (-bt161.1)), false)))) else (none)) = some (r1, r2) := by rw [if_pos rfl] at H; exact H
        clear H
        have H := H1
        clear H1
        by_cases c7 : 1 ≤ (a0.size : Int)
        · rw [if_pos c7] at H
          have c7b0 := eq_true c7
          have c7b1 : decide (1 ≤ (a0.size : Int)) = true := decide_eq_true c7
          clear c7
          replace H := Option.bind_eq_some_iff.mp H
          obtain ⟨⟨t161, t162⟩, A80, H⟩ := H
          replace H : (if t162 = true then (some (wrap64 (IntKind.u64.wrap (-t161)), decide (t161 > 0))) else (some (wrap64 (IntKind.u64.wrap (-t161)), false))) = some (r1, r2) := H
          have A8 := Aside0.mk A80
          clear A80
          by_cases c9 : t162 = true
          · subst c9
            have H1 : (some (wrap64 (IntKind.u64.wrap (-t161)), decide (t161 > 0))) = some (r1, r2) := by rw [if_pos rfl] at H; exact H
            clear H
            have H := H1
            clear H1
            simp only [Option.some.injEq, Prod.mk.injEq] at H
            obtain ⟨rfl, rfl⟩ := H
            go_wp2_with (first | ((with_reducible refine gate_callee (f := 59) rfl ?_); refine goesL_ (some 19) rfl rfl Tryd.func59 (by kernel_rfl) rfl #[.string (a0.extract 1 a0.size), .int .u64 9223372036854775808] rfl (by (try simp only [List.map_toArray, List.map_cons, List.map_nil]); first | done | rfl | (simp only [List.length_drop, List.length_take]; rfl)) ?_; (with_reducible refine (rotaref19_digits.calls kj1 (a0.extract 1 a0.size) 9223372036854775808 t161 true _ A8.out).mono ?_); rintro e w' ⟨rfl, ⟨nd, rfl⟩⟩; refine ⟨_, rfl, ?_⟩))
            go_ret2
            exact ⟨by first | rfl | (simp; done) | (simp [*]; done), by repeat (first | exact Drawn0.refl _ | apply Drawn0.step)⟩
          · replace c9 := Bool.eq_false_iff.mpr c9
            subst c9
            have H1 : (some (wrap64 (IntKind.u64.wrap (-t161)), false)) = some (r1, r2) := by rw [if_neg (show ¬ (false = true) by decide)] at H; exact H
            clear H
            have H := H1
            clear H1
            simp only [Option.some.injEq, Prod.mk.injEq] at H
            obtain ⟨rfl, rfl⟩ := H
            go_wp2_with (first | ((with_reducible refine gate_callee (f := 59) rfl ?_); refine goesL_ (some 19) rfl rfl Tryd.func59 (by kernel_rfl) rfl #[.string (a0.extract 1 a0.size), .int .u64 9223372036854775808] rfl (by (try simp only [List.map_toArray, List.map_cons, List.map_nil]); first | done | rfl | (simp only [List.length_drop, List.length_take]; rfl)) ?_; (with_reducible refine (rotaref19_digits.calls kj1 (a0.extract 1 a0.size) 9223372036854775808 t161 false _ A8.out).mono ?_); rintro e w' ⟨rfl, ⟨nd, rfl⟩⟩; refine ⟨_, rfl, ?_⟩))
            go_ret2
            exact ⟨by first | rfl | (simp; done) | (simp [*]; done), by repeat (first | exact Drawn0.refl _ | apply Drawn0.step)⟩
        · rw [if_neg c7] at H
          exact absurd H (by simp)
      · replace c6 := Bool.eq_false_iff.mpr c6
        subst c6
        have H1 : ((rotaref19_digits.f kj1 a0 9223372036854775807).bind fun bt163 => (some (wrap64 (bt163.1), bt163.2))) = some (r1, r2) := by rw [if_neg (show ¬ (false = true) by decide)] at H; exact H
        clear H
        have H := H1
        clear H1
        replace H := Option.bind_eq_some_iff.mp H
        obtain ⟨⟨t163, t164⟩, A100, H⟩ := H
        replace H : (some (wrap64 (t163), t164)) = some (r1, r2) := H
        have A10 := Aside0.mk A100
        clear A100
        simp only [Option.some.injEq, Prod.mk.injEq] at H
        obtain ⟨rfl, rfl⟩ := H
        go_wp2_with (first | ((with_reducible refine gate_callee (f := 59) rfl ?_); refine goesL_ (some 32) rfl rfl Tryd.func59 (by kernel_rfl) rfl #[.string a0, .int .u64 9223372036854775807] rfl (by (try simp only [List.map_toArray, List.map_cons, List.map_nil]); first | done | rfl | (simp only [List.length_drop, List.length_take]; rfl)) ?_; (with_reducible refine (rotaref19_digits.calls kj1 a0 9223372036854775807 t163 t164 _ A10.out).mono ?_); rintro e w' ⟨rfl, ⟨nd, rfl⟩⟩; refine ⟨_, rfl, ?_⟩))
        go_ret2
        exact ⟨by first | rfl | (simp; done) | (simp [*]; done), by repeat (first | exact Drawn0.refl _ | apply Drawn0.step)⟩

end Go.Proofs.YtonnlkpmfmknlaaDoor.GA
end

section
/-
  The frozen numbers are the program's: plain Lean.
-/
set_option linter.unusedVariables false
set_option linter.unusedSimpArgs false
namespace Go.Proofs.YtonnlkpmfmknlaaDoor.Q
open Go.RowKit Go.Lib Num Go.Proofs.YtonnlkpmfmknlaaDoorW.PrintWords Go.Proofs.YtonnlkpmfmknlaaDoorW.PrintLast Go.Proofs.YtonnlkpmfmknlaaDoorW.PrintMore Go.Proofs.YtonnlkpmfmknlaaDoor.GA
theorem sz_len (s : ByteArray) : s.data.toList.length = s.size := Array.length_toList
theorem bt_get (s : ByteArray) (i : Nat) (h : i < s.data.toList.length) : bt s (i : Int) = ((s.data.toList[i]).toNat : Int) := by
  have h' : i < s.size := by rw [← sz_len]; exact h
  unfold bt
  rw [dif_pos (by rw [Int.toNat_natCast]; exact h')]
  simp only [Int.toNat_natCast]
  rfl
theorem ext_one (s : ByteArray) (h : 1 ≤ s.size) : (s.extract 1 s.size).data.toList = s.data.toList.drop 1 := by
  have e : (s.extract 1 s.size).data.toList = (s.data.toList.drop 1).take (s.size - 1) := by
    simp [ByteArray.data_extract, Array.toList_extract, List.extract]
  rw [e, List.take_of_length_le]
  rw [List.length_drop, sz_len]; exact Nat.le_refl _
theorem wr_succ (i n : Nat) (h : i < n) (hn : n ≤ 9223372036854775807) : wrap64 ((i : Int) + 1) = ((i + 1 : Nat) : Int) := by
  rw [Int.natCast_add]; exact IntWalk.wrap64_in _ (by omega)
/-! the program's numbers -/
theorem uintM_iff (M : Nat) (hM : M ≤ 18446744073709551615) : ∀ (l : List UInt8) (acc : Nat), acc ≤ M → ∀ v, parseUintM M acc l = .ok v ↔ ((∀ b ∈ l, dig b = true) ∧ dfold acc l ≤ M ∧ v = dfold acc l)
  | [], acc, ha, v => by
    rw [parseUintM, dfold_nil]
    constructor
    · intro h; injection h with h; exact ⟨(fun b hb => by cases hb), ha, h.symm⟩
    · rintro ⟨_, _, rfl⟩; rfl
  | c :: r, acc, ha, v => by
    rw [parseUintM, dfold_cons, dstep_eq]
    by_cases hc : 48 ≤ c.toNat ∧ c.toNat ≤ 57
    · rw [if_pos hc]
      have hle := dfold_le r (acc * 10 + (c.toNat - 48))
      by_cases h1 : 1844674407370955162 ≤ acc
      · rw [if_pos h1]
        exact ⟨(fun h => by cases h), fun ⟨_, h, _⟩ => by omega⟩
      · rw [if_neg h1]
        by_cases h2 : M < acc * 10 + (c.toNat - 48)
        · rw [if_pos h2]
          exact ⟨(fun h => by cases h), fun ⟨_, h, _⟩ => by omega⟩
        · rw [if_neg h2, uintM_iff M hM r _ (by omega) v]
          constructor
          · rintro ⟨a, b, d⟩
            exact ⟨fun x hx => by rcases List.mem_cons.1 hx with rfl | hx; exact (dig_iff _).2 hc; exact a x hx, b, d⟩
          · rintro ⟨a, b, d⟩
            exact ⟨fun x hx => a x (List.mem_cons_of_mem _ hx), b, d⟩
    · rw [if_neg hc]
      exact ⟨(fun h => by cases h), fun ⟨h, _, _⟩ => absurd ((dig_iff c).1 (h c List.mem_cons_self)) hc⟩
theorem uintB_iff (B : Nat) (hB : 2 ^ B - 1 ≤ 18446744073709551615) (l : List UInt8) (v : Nat) : parseUintB B l = .ok v ↔ (l ≠ [] ∧ (∀ b ∈ l, dig b = true) ∧ dfold 0 l ≤ 2 ^ B - 1 ∧ v = dfold 0 l) := by
  unfold parseUintB
  by_cases h : l = []
  · rw [if_pos h]
    exact ⟨(fun h2 => by cases h2), fun h2 => absurd h h2.1⟩
  · rw [if_neg h, uintM_iff _ hB l 0 (Nat.zero_le _) v]
    exact ⟨fun h2 => ⟨h, h2⟩, fun h2 => h2.2⟩
theorem uint10_M : ∀ (l : List UInt8) (acc : Nat), parseUint10 acc l = parseUintM 18446744073709551615 acc l
  | [], acc => by rw [parseUint10, parseUintM]
  | c :: r, acc => by
    rw [parseUint10, parseUintM, uint10_M r]
    by_cases hc : 48 ≤ c.toNat ∧ c.toNat ≤ 57
    · rw [if_pos hc, if_pos hc]
      by_cases h1 : 1844674407370955162 ≤ acc
      · rw [if_pos h1, if_pos h1]
      · rw [if_neg h1, if_neg h1]
        by_cases h2 : 18446744073709551616 ≤ acc * 10 + (c.toNat - 48)
        · rw [if_pos h2, if_pos (by omega)]
        · rw [if_neg h2, if_neg (by omega)]
    · rw [if_neg hc, if_neg hc]
theorem mag_iff (l : List UInt8) (v : Nat) : parseMag l = .ok v ↔ (l ≠ [] ∧ (∀ b ∈ l, dig b = true) ∧ dfold 0 l ≤ 18446744073709551615 ∧ v = dfold 0 l) := by
  unfold parseMag
  by_cases h : l = []
  · rw [if_pos h]
    exact ⟨(fun h2 => by cases h2), fun h2 => absurd h h2.1⟩
  · rw [if_neg h, uint10_M, uintM_iff _ (Nat.le_refl _) l 0 (Nat.zero_le _) v]
    exact ⟨fun h2 => ⟨h, h2⟩, fun h2 => h2.2⟩
/-! the frozen digits -/
/-- Canonical digits of at most M. -/
def Canon (l : List UInt8) (M : Nat) : Prop := l ≠ [] ∧ (∀ b ∈ l, dig b = true) ∧ (l.head? ≠ some 48 ∨ l = [48]) ∧ dfold 0 l ≤ M
instance (l : List UInt8) (M : Nat) : Decidable (Canon l M) := by unfold Canon; infer_instance
theorem canon_len {l : List UInt8} {M : Nat} (h : Canon l M) (hM : M ≤ 18446744073709551615) : l.length ≤ 20 := by
  obtain ⟨h0, hd, hh, hm⟩ := h
  have key : ∀ u : Nat, u ≤ 18446744073709551615 → (decDigits u).length ≤ 20 := fun u hu => by rw [decDigits_length]; exact nDigits_le20 _ (by omega)
  rcases hh with hh | rfl
  · have := canon l.length l rfl h0 hd hh
    rw [← this.1]; exact key _ (by omega)
  · decide
theorem q10 (m d n : Nat) (hd : d ≤ 9) (hm : d ≤ m) (hm2 : m ≤ 18446744073709551615) : ((n : Int) > IntKind.u64.wrap (Int.tdiv (IntKind.u64.wrap ((m : Int) - (d : Int))) 10)) ↔ m < n * 10 + d := by
  have e1 : IntKind.u64.wrap ((m : Int) - (d : Int)) = ((m - d : Nat) : Int) := by rw [IntWalk.u64_in _ (by omega)]; omega
  rw [e1, IntWalk.u64_quo _ _ (by omega)]
  omega
theorem digits_l (s : ByteArray) (m : Nat) (hm : 9 ≤ m) (hm2 : m ≤ 18446744073709551615) (hs : s.size ≤ 1000000) : ∀ (d i n : Nat), i + d = s.data.toList.length → n ≤ m → ∀ k, 2 * d + 1 ≤ k →
    rotaref19_digits.l0 k s (m : Int) (n : Int) (i : Int) = some (if (∀ b ∈ s.data.toList.drop i, dig b = true) ∧ dfold n (s.data.toList.drop i) ≤ m then ((dfold n (s.data.toList.drop i) : Nat) : Int) else 0, decide ((∀ b ∈ s.data.toList.drop i, dig b = true) ∧ dfold n (s.data.toList.drop i) ≤ m))
  | 0, i, n, hi, hn, k, hk => by
    obtain ⟨k, rfl⟩ : ∃ j, k = j + 1 := ⟨k - 1, by omega⟩
    have hz := sz_len s
    rw [rotaref19_digits.l0, if_neg (by omega), List.drop_eq_nil_of_le (by omega), dfold_nil, if_pos ⟨(fun b hb => by cases hb), hn⟩, decide_eq_true ⟨(fun b hb => by cases hb), hn⟩]
  | d + 1, i, n, hi, hn, k, hk => by
    obtain ⟨k, rfl⟩ : ∃ j, k = j + 1 + 1 := ⟨k - 2, by omega⟩
    have hz := sz_len s
    have hil : i < s.data.toList.length := by omega
    have hb := bt_get s i hil
    have hbr : (s.data.toList[i]).toNat < 256 := UInt8.toNat_lt _
    rw [List.drop_eq_getElem_cons hil, dfold_cons, dstep_eq]
    generalize hc : s.data.toList[i] = c at hb hbr
    have no : ∀ (h : ¬ (48 ≤ c.toNat ∧ c.toNat ≤ 57)), ¬ ((∀ b ∈ c :: s.data.toList.drop (i + 1), dig b = true) ∧ dfold (n * 10 + (c.toNat - 48)) (s.data.toList.drop (i + 1)) ≤ m) := fun h h2 => h ((dig_iff c).1 (h2.1 c List.mem_cons_self))
    rw [rotaref19_digits.l0, if_pos (by omega), if_pos (by omega), hb]
    by_cases h1 : c.toNat < 48
    · rw [if_pos (by omega), rotaref19_digits.j2, if_pos rfl, if_neg (no (by omega)), decide_eq_false (no (by omega))]
    · rw [if_neg (by omega)]
      by_cases h2 : c.toNat > 57
      · rw [decide_eq_true (by omega), rotaref19_digits.j2, if_pos rfl, if_neg (no (by omega)), decide_eq_false (no (by omega))]
      · rw [decide_eq_false (by omega), rotaref19_digits.j2, if_neg (by simp), if_pos (by omega), if_pos (by omega), hb]
        have e0 : ((c.toNat : Int) - 48) % 256 = ((c.toNat - 48 : Nat) : Int) := by omega
        have hle := dfold_le (s.data.toList.drop (i + 1)) (n * 10 + (c.toNat - 48))
        rw [e0]
        by_cases h3 : m < n * 10 + (c.toNat - 48)
        · have nn : ¬ ((∀ b ∈ c :: s.data.toList.drop (i + 1), dig b = true) ∧ dfold (n * 10 + (c.toNat - 48)) (s.data.toList.drop (i + 1)) ≤ m) := fun h => by have := h.2; omega
          rw [if_pos ((q10 m _ n (by omega) (by omega) hm2).2 h3), if_neg nn, decide_eq_false nn]
        · rw [if_neg (fun h => h3 ((q10 m _ n (by omega) (by omega) hm2).1 h)), wr_succ i s.size (by omega) (by omega)]
          have e1 : IntKind.u64.wrap (IntKind.u64.wrap ((n : Int) * 10) + ((c.toNat - 48 : Nat) : Int)) = ((n * 10 + (c.toNat - 48) : Nat) : Int) := by
            rw [IntWalk.u64_in ((n : Int) * 10) (by omega), IntWalk.u64_in _ (by omega)]; omega
          rw [e1, digits_l s m hm hm2 hs d (i + 1) _ (by omega) (by omega) k (by omega)]
          have key : ((∀ b ∈ s.data.toList.drop (i + 1), dig b = true) ∧ dfold (n * 10 + (c.toNat - 48)) (s.data.toList.drop (i + 1)) ≤ m) ↔ ((∀ b ∈ c :: s.data.toList.drop (i + 1), dig b = true) ∧ dfold (n * 10 + (c.toNat - 48)) (s.data.toList.drop (i + 1)) ≤ m) :=
            ⟨fun h => ⟨fun x hx => by rcases List.mem_cons.1 hx with rfl | hx; exact (dig_iff _).2 (by omega); exact h.1 x hx, h.2⟩, fun h => ⟨fun x hx => h.1 x (List.mem_cons_of_mem _ hx), h.2⟩⟩
          simp only [key]
theorem digitsF (s : ByteArray) (m : Nat) (hm : 9 ≤ m) (hm2 : m ≤ 18446744073709551615) (hs : s.size ≤ 1000000) (k : Nat) (hk : 2 * s.size + 3 ≤ k) :
    rotaref19_digits.f k s (m : Int) = some (if Canon s.data.toList m then ((dfold 0 s.data.toList : Nat) : Int) else 0, decide (Canon s.data.toList m)) := by
  obtain ⟨k, rfl⟩ : ∃ j, k = j + 1 := ⟨k - 1, by omega⟩
  have hz := sz_len s
  have bad : ∀ (h : ¬ Canon s.data.toList m), rotaref19_digits.j0 (k + 1) s (m : Int) true = some (if Canon s.data.toList m then ((dfold 0 s.data.toList : Nat) : Int) else 0, decide (Canon s.data.toList m)) := fun h => by
    rw [rotaref19_digits.j0, if_pos rfl, if_neg h, decide_eq_false h]
  have good : ∀ (h0 : s.data.toList ≠ []) (hh : s.data.toList.head? ≠ some 48 ∨ s.data.toList = [48]), rotaref19_digits.j0 (k + 1) s (m : Int) false = some (if Canon s.data.toList m then ((dfold 0 s.data.toList : Nat) : Int) else 0, decide (Canon s.data.toList m)) := fun h0 hh => by
    rw [rotaref19_digits.j0, if_neg (by simp)]
    have := digits_l s m hm hm2 hs s.data.toList.length 0 0 (by omega) (by omega) k (by omega)
    rw [List.drop_zero] at this
    rw [show ((0 : Nat) : Int) = 0 from rfl] at this
    rw [this]
    have key : ((∀ b ∈ s.data.toList, dig b = true) ∧ dfold 0 s.data.toList ≤ m) ↔ Canon s.data.toList m := ⟨fun h => ⟨h0, h.1, hh, h.2⟩, fun h => ⟨h.2.1, h.2.2.2⟩⟩
    simp only [key]
  unfold rotaref19_digits.f
  by_cases c0 : s.data.toList = []
  · rw [if_pos (by rw [c0] at hz; simp at hz; omega)]
    exact bad (fun h => h.1 c0)
  · have hpos : 0 < s.data.toList.length := List.length_pos_iff.2 c0
    rw [if_neg (by omega)]
    by_cases c1 : 20 < s.data.toList.length
    · rw [if_pos (by omega)]
      exact bad (fun h => by have := canon_len h hm2; omega)
    · rw [if_neg (by omega)]
      have hb := bt_get s 0 hpos
      have hhead : s.data.toList.head? = some (s.data.toList[0]) := by rw [List.head?_eq_getElem?, List.getElem?_eq_getElem hpos]
      rw [show ((0 : Nat) : Int) = 0 from rfl] at hb
      by_cases c2 : 1 < s.data.toList.length
      · rw [if_pos (by omega), if_pos (by omega), hb]
        have hne : s.data.toList ≠ [48] := fun e => by rw [e] at c2; simp at c2
        by_cases c3 : s.data.toList[0] = 48
        · have : ((((s.data.toList[0]).toNat : Nat) : Int) == 48) = true := by rw [c3]; rfl
          rw [this]
          exact bad (fun h => by
            rcases h.2.2.1 with h | h
            · exact h (by rw [hhead, c3])
            · exact hne h)
        · have : ((((s.data.toList[0]).toNat : Nat) : Int) == 48) = false := beq_eq_false_iff_ne.mpr (fun e => c3 (UInt8.toNat_inj.1 (by show _ = 48; omega)))
          rw [this]
          exact good c0 (.inl (fun e => by rw [hhead] at e; exact c3 (Option.some.inj e)))
      · rw [if_neg (by omega)]
        refine good c0 ?_
        by_cases c3 : s.data.toList[0] = 48
        · right
          obtain ⟨x, hx⟩ : ∃ x, s.data.toList = [x] := List.length_eq_one_iff.1 (by omega)
          have : x = 48 := by simp only [hx] at c3; simpa using c3
          rw [hx, this]
        · exact .inl (fun e => by rw [hhead] at e; exact c3 (Option.some.inj e))
/-! the frozen number -/
theorem all_l (s : ByteArray) (hs : s.size ≤ 1000000) : ∀ (d i : Nat), i + d = s.data.toList.length → ∀ k, d + 1 ≤ k → rotaref19_number.l0 k s (i : Int) = some ((s.data.toList.drop i).all dig)
  | 0, i, hi, k, hk => by
    obtain ⟨k, rfl⟩ : ∃ j, k = j + 1 := ⟨k - 1, by omega⟩
    have hz := sz_len s
    rw [rotaref19_number.l0, if_neg (by omega), List.drop_eq_nil_of_le (by omega)]; rfl
  | d + 1, i, hi, k, hk => by
    obtain ⟨k, rfl⟩ : ∃ j, k = j + 1 := ⟨k - 1, by omega⟩
    have hz := sz_len s
    have hil : i < s.data.toList.length := by omega
    have hb := bt_get s i hil
    rw [List.drop_eq_getElem_cons hil, List.all_cons]
    generalize s.data.toList[i] = c at hb
    rw [rotaref19_number.l0, if_pos (by omega), if_pos (by omega), hb]
    by_cases h1 : c.toNat < 48
    · rw [if_pos (by omega), show dig c = false from decide_eq_false (by omega)]; rfl
    · rw [if_neg (by omega)]
      by_cases h2 : c.toNat > 57
      · rw [if_pos (by omega), show dig c = false from decide_eq_false (by omega)]; rfl
      · rw [if_neg (by omega), wr_succ i s.size (by omega) (by omega), all_l s hs d (i + 1) (by omega) k (by omega), show dig c = true from decide_eq_true (by omega)]; rfl
/-- Behind a sign. -/
def numT (l : List UInt8) (minus : Bool) : Bool := !l.isEmpty && l.all dig && (l.head? != some 48 || (l == [48] && !minus))
theorem number_j (s : ByteArray) (hs : s.size ≤ 1000000) (minus : Bool) (k : Nat) (hk : s.size + 4 ≤ k) : rotaref19_number.j1 k s minus = some (numT s.data.toList minus) := by
  obtain ⟨k, rfl⟩ : ∃ j, k = j + 1 + 1 := ⟨k - 2, by omega⟩
  have hz := sz_len s
  have j2t : rotaref19_number.j2 (k + 1) s true = some false := by rw [rotaref19_number.j2, if_pos rfl]
  have j2f : rotaref19_number.j2 (k + 1) s false = some (s.data.toList.all dig) := by
    rw [rotaref19_number.j2, if_neg (by simp)]
    have := all_l s hs s.data.toList.length 0 (by omega) k (by omega)
    rw [List.drop_zero] at this; exact this
  rw [rotaref19_number.j1]
  by_cases c0 : s.data.toList = []
  · rw [if_pos (by rw [c0] at hz; simp at hz; omega), j2t, c0]; rfl
  · have hpos : 0 < s.data.toList.length := List.length_pos_iff.2 c0
    have hb := bt_get s 0 hpos
    have hhead : s.data.toList.head? = some (s.data.toList[0]) := by rw [List.head?_eq_getElem?, List.getElem?_eq_getElem hpos]
    rw [show ((0 : Nat) : Int) = 0 from rfl] at hb
    have he : s.data.toList.isEmpty = false := by cases h : s.data.toList with | nil => exact absurd h c0 | cons => rfl
    rw [if_neg (by omega), if_pos (by omega), hb]
    unfold numT
    rw [he, hhead]
    by_cases c3 : s.data.toList[0] = 48
    · rw [if_pos (by rw [c3]; rfl), c3]
      by_cases c2 : 1 < s.data.toList.length
      · have hne : (s.data.toList == [48]) = false := beq_eq_false_iff_ne.mpr (fun e => by rw [e] at c2; simp at c2)
        rw [if_pos (by omega), j2t, hne]; simp
      · obtain ⟨x, hx⟩ : ∃ x, s.data.toList = [x] := List.length_eq_one_iff.1 (by omega)
        have hx8 : x = 48 := by simp only [hx] at c3; simpa using c3
        have hne : (s.data.toList == [48]) = true := by rw [hx, hx8]; rfl
        rw [if_neg (by omega), hne]
        cases minus
        · rw [j2f]; simp
        · rw [j2t]; simp
    · have h48 : ((some (s.data.toList[0]) : Option UInt8) != some 48) = true := by simpa using c3
      rw [if_neg (fun e => c3 (UInt8.toNat_inj.1 (by show _ = 48; omega))), j2f, h48]; simp
theorem numberF (s : ByteArray) (hs : s.size ≤ 1000000) (k : Nat) (hk : s.size + 5 ≤ k) : rotaref19_number.f k s = some (numB s.data.toList) := by
  obtain ⟨k, rfl⟩ : ∃ j, k = j + 1 := ⟨k - 1, by omega⟩
  have hz := sz_len s
  unfold rotaref19_number.f
  cases hl : s.data.toList with
  | nil =>
    rw [hl] at hz
    simp at hz
    rw [if_neg (by omega), rotaref19_number.j0, if_neg (by simp), number_j s hs false k (by omega), hl]; rfl
  | cons c r =>
    rw [hl] at hz
    simp only [List.length_cons] at hz
    have hb := bt_get s 0 (by rw [hl]; simp)
    simp only [hl, List.getElem_cons_zero] at hb
    rw [show ((0 : Nat) : Int) = 0 from rfl] at hb
    rw [if_pos (by omega), if_pos (by omega), hb]
    unfold numB
    rw [trimP_cons]
    by_cases h : c = 45
    · have : (((c.toNat : Nat) : Int) == 45) = true := by rw [h]; rfl
      rw [this, rotaref19_number.j0, if_pos rfl, if_pos (by omega), number_j _ (by rw [ByteArray.size_extract]; omega) true k (by rw [ByteArray.size_extract]; omega), ext_one s (by omega), hl, if_pos h, List.drop_one, List.tail_cons]
      unfold numT
      have : ((c :: r : List UInt8) == [48]) = false := by rw [h]; rfl
      rw [this]; simp
    · have : (((c.toNat : Nat) : Int) == 45) = false := beq_eq_false_iff_ne.mpr (fun e => h (UInt8.toNat_inj.1 (by show _ = 45; omega)))
      rw [this, rotaref19_number.j0, if_neg (by simp), number_j s hs false k (by omega), hl, if_neg h]
      unfold numT
      simp
end Go.Proofs.YtonnlkpmfmknlaaDoor.Q
end
