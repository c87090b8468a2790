import Derived.Test.YtonnlkpmfmknlaaDoorMB6
import Derived.Test.YtonnlkpmfmknlaaDoorMB3
import Derived.Test.YtonnlkpmfmknlaaDoorMB2
import Derived.Lib.Hide
import Derived.WalkKit
import Derived.Outline
section
-- laid by a program of this session (wip/gp.sh)
namespace Go.Proofs.YtonnlkpmfmknlaaDoor.GA
open Go.RowKit Go.Proofs.YtonnlkpmfmknlaaDoorW.PrintWords Go.Proofs.YtonnlkpmfmknlaaDoorW.PrintLast Go.Proofs.YtonnlkpmfmknlaaDoorW.PrintMore
attribute [local go_sem] max2_int min2_int max_two min_two max_three min_three max_four min_four   -- for this text's walks alone
set_option linter.unusedVariables false
set_option linter.unusedSimpArgs false

/-! ### slices_Equal_uint32_uint32: function 50 -/
def slices_Equal_uint32_uint32.l0 : Nat → List Int → List Int → Int → Int → Option (Bool)
  | 0, _, _, _, _ => none
  | k + 1, x0, x1, x12, x13 => if x13 < x12 then (if 0 ≤ x13 then (if x13 < (x0.length : Int) then (if x13 < (x1.length : Int) then (if (rd x0 x13) = (rd x1 x13) then (slices_Equal_uint32_uint32.l0 k x0 x1 x12 (wrap64 (x13 + 1))) else (some false)) else (none)) else (none)) else (none)) else (some true)
def slices_Equal_uint32_uint32.f (k : Nat) (l0 : List Int) (l1 : List Int) : Option (Bool) := if (l0.length : Int) = (l1.length : Int) then (slices_Equal_uint32_uint32.l0 k l0 l1 (l0.length : Int) 0) else (some false)
theorem slices_Equal_uint32_uint32.mono_l : ∀ k, (∀ y0 y1 y2 y3, LeO (slices_Equal_uint32_uint32.l0 k y0 y1 y2 y3) (slices_Equal_uint32_uint32.l0 (k + 1) y0 y1 y2 y3))
  | 0 => fun _ _ _ _ r h => by simp [slices_Equal_uint32_uint32.l0] at h
  | k + 1 => by
    have ih0 := slices_Equal_uint32_uint32.mono_l k
    · intro y0 y1 y2 y3
      unfold slices_Equal_uint32_uint32.l0
      repeat' first
      | (with_reducible exact ih0 _ _ _ _)
      | (with_reducible exact LeO.refl _)
      | (with_reducible exact LeO.none _)
      | (with_reducible refine LeO.ite ?_ ?_)
      | (with_reducible refine LeO.bind ?_ (fun _ => ?_))
      | exact ih0 _ _ _ _
      | exact LeO.none _
      | refine LeO.ite ?_ ?_
      | refine LeO.bind ?_ (fun _ => ?_)
theorem slices_Equal_uint32_uint32.mono : ∀ a0 a1 k, LeO (slices_Equal_uint32_uint32.f k a0 a1) (slices_Equal_uint32_uint32.f (k + 1) a0 a1) := by
  intro a0 a1 k
  have ih0 := slices_Equal_uint32_uint32.mono_l k
  unfold slices_Equal_uint32_uint32.f
  repeat' first
      | (with_reducible exact ih0 _ _ _ _)
      | (with_reducible exact LeO.refl _)
      | (with_reducible exact LeO.none _)
      | (with_reducible refine LeO.ite ?_ ?_)
      | (with_reducible refine LeO.bind ?_ (fun _ => ?_))
      | exact ih0 _ _ _ _
      | exact LeO.none _
      | refine LeO.ite ?_ ?_
      | refine LeO.bind ?_ (fun _ => ?_)
set_option maxHeartbeats 8000000 in
set_option maxRecDepth 100000 in
theorem slices_Equal_uint32_uint32.calls (k : Nat) (A0 : Option Addr) (c0 : Nat) (l0 : List Int) (A1 : Option Addr) (c1 : Nat) (l1 : List Int) (r : Bool) (w : World) (hr0 : Kd.C (Kd.int .u32) w A0 l0.length l0) (hc0 : l0.length ≤ c0) (hr1 : Kd.C (Kd.int .u32) w A1 l1.length l1) (hc1 : l1.length ≤ c1) (h : slices_Equal_uint32_uint32.f k l0 l1 = some r) :
    Calls Tryd.prog 50 #[.slice A0 l0.length c0, .slice A1 l1.length c1] w fun e w' => e = .returned (.bool r) ∧ Drawn0 w w' := by
  have HR0 := Aside0.mk hr0
  have HC0 := Aside0.mk hc0
  clear hr0 hc0
  have HR1 := Aside0.mk hr1
  have HC1 := Aside0.mk hc1
  clear hr1 hc1
  have H : (if (l0.length : Int) = (l1.length : Int) then (slices_Equal_uint32_uint32.l0 k l0 l1 (l0.length : Int) 0) else (some false)) = some r := h
  clear h
  by_cases c3 : (l0.length : Int) = (l1.length : Int)
  · rw [if_pos c3] at H
    have c3b0 : ((l0.length : Int) == (l1.length : Int)) = true := beq_iff_eq.mpr c3
    have c3b1 : ((l0.length : Int) != (l1.length : Int)) = false := bne_eq_false_iff_eq.mpr c3
    have c3b2 : (l0.length == l1.length) = true := by first | simpa using c3 | (simp at c3 ⊢; omega)
    clear c3
    have H' := Aside0.mk H
    clear H
    go_enter Tryd.func50, Tryd.ntmps50
    go_wp2
    repeat (go_quiet (fail); try go_wp2)
    go_loopg [13] k (fun kq v13 w' => ∃ (x13_1 : Int), v13 = .int .i64 x13_1 ∧ Aside0 (slices_Equal_uint32_uint32.l0 kq l0 l1 (l0.length : Int) x13_1 = some r) ∧ Aside0 (kq ≤ k) ∧ Drawn0 w w')
    case atStart => exact ⟨(0), (by first | rfl | (simp; done) | (simp [*]; done)), H', ⟨Nat.le_refl _⟩, by repeat (first | exact Drawn0.refl _ | apply Drawn0.step)⟩
    case round =>
      clear H'
      try clear c1
      try clear p2
      try clear c3
      try clear c3b0
      try clear c3b1
      try clear c3b2
      obtain ⟨x13_1, rfl, HA, HK1, ⟨m1, rfl⟩⟩ := hrel
      cases gk with
      | zero => exact absurd HA.out (by simp [slices_Equal_uint32_uint32.l0])
      | succ k1 =>
        have H := HA.out
        clear HA
        simp only [slices_Equal_uint32_uint32.l0] at H
        by_cases c4 : x13_1 < (l0.length : Int)
        · rw [if_pos c4] at H
          have c4b0 : decide (x13_1 < (l0.length : Int)) = true := decide_eq_true c4
          clear c4
          by_cases c5 : 0 ≤ x13_1
          · rw [if_pos c5] at H
            have c5b0 : decide (0 ≤ x13_1) = true := decide_eq_true c5
            clear c5
            by_cases c6 : x13_1 < (l0.length : Int)
            · rw [if_pos c6] at H
              have c6b0 : decide (x13_1 < (l0.length : Int)) = true := decide_eq_true c6
              clear c6
              by_cases c7 : x13_1 < (l1.length : Int)
              · rw [if_pos c7] at H
                have c7b0 : decide (x13_1 < (l1.length : Int)) = true := decide_eq_true c7
                clear c7
                by_cases c8 : (rd l0 x13_1) = (rd l1 x13_1)
                · rw [if_pos c8] at H
                  have c8b0 : ((rd l0 x13_1) == (rd l1 x13_1)) = true := beq_iff_eq.mpr c8
                  have c8b1 : ((rd l0 x13_1) != (rd l1 x13_1)) = false := bne_eq_false_iff_eq.mpr c8
                  clear c8
                  have H' := Aside0.mk H
                  clear H
                  have p482 : 0 ≤ (x13_1 : Int) := of_decide_eq_true (by first | (with_reducible assumption) | assumption)
                  have q482 : x13_1 < (l0.length : Int) := of_decide_eq_true (by first | (with_reducible assumption) | assumption)
                  obtain ⟨ad482, e482, hx482_0⟩ := Kd.at_int HR0.out x13_1 p482 q482
                  cases e482
                  replace p482 := eq_true p482
                  replace q482 := eq_true q482
                  have p483 : 0 ≤ (x13_1 : Int) := of_decide_eq_true (by first | (with_reducible assumption) | assumption)
                  have q483 : x13_1 < (l1.length : Int) := of_decide_eq_true (by first | (with_reducible assumption) | assumption)
                  obtain ⟨ad483, e483, hx483_0⟩ := Kd.at_int HR1.out x13_1 p483 q483
                  cases e483
                  replace p483 := eq_true p483
                  replace q483 := eq_true q483
                  go_wp2
                  repeat (go_quiet (fail); try go_wp2)
                  go_roundg k1
                  case measure => have := HK1.out; omega
                  case rel => exact ⟨(wrap64 (x13_1 + 1)), (by first | rfl | (simp; done) | (simp [*]; done)), H', ⟨by have := HK1.out; omega⟩, by repeat (first | exact Drawn0.refl _ | apply Drawn0.step)⟩
                · rw [if_neg c8] at H
                  have c8b0 : ((rd l0 x13_1) == (rd l1 x13_1)) = false := beq_eq_false_iff_ne.mpr c8
                  have c8b1 : ((rd l0 x13_1) != (rd l1 x13_1)) = true := bne_iff_ne.mpr c8
                  obtain rfl := Option.some.inj H
                  have p482 : 0 ≤ (x13_1 : Int) := of_decide_eq_true (by first | (with_reducible assumption) | assumption)
                  have q482 : x13_1 < (l0.length : Int) := of_decide_eq_true (by first | (with_reducible assumption) | assumption)
                  obtain ⟨ad482, e482, hx482_0⟩ := Kd.at_int HR0.out x13_1 p482 q482
                  cases e482
                  replace p482 := eq_true p482
                  replace q482 := eq_true q482
                  have p483 : 0 ≤ (x13_1 : Int) := of_decide_eq_true (by first | (with_reducible assumption) | assumption)
                  have q483 : x13_1 < (l1.length : Int) := of_decide_eq_true (by first | (with_reducible assumption) | assumption)
                  obtain ⟨ad483, e483, hx483_0⟩ := Kd.at_int HR1.out x13_1 p483 q483
                  cases e483
                  replace p483 := eq_true p483
                  replace q483 := eq_true q483
                  go_wp2
                  repeat (go_quiet (fail); try go_wp2)
                  go_ret
                  exact ⟨by first | rfl | (simp; done) | (simp [*]; done), by repeat (first | exact Drawn0.refl _ | apply Drawn0.step)⟩
              · rw [if_neg c7] at H
                exact absurd H (by simp)
            · rw [if_neg c6] at H
              exact absurd H (by simp)
          · rw [if_neg c5] at H
            exact absurd H (by simp)
        · rw [if_neg c4] at H
          have c4b0 : decide (x13_1 < (l0.length : Int)) = false := decide_eq_false c4
          clear c4
          obtain rfl := Option.some.inj H
          go_wp2
          repeat (go_quiet (fail); try go_wp2)
          go_ret
          exact ⟨by first | rfl | (simp; done) | (simp [*]; done), by repeat (first | exact Drawn0.refl _ | apply Drawn0.step)⟩
  · rw [if_neg c3] at H
    have c3b0 : ((l0.length : Int) == (l1.length : Int)) = false := beq_eq_false_iff_ne.mpr c3
    have c3b1 : ((l0.length : Int) != (l1.length : Int)) = true := bne_iff_ne.mpr c3
    have c3b2 : (l0.length == l1.length) = false := by first | simpa using c3 | (simp at c3 ⊢; omega)
    obtain rfl := Option.some.inj H
    go_enter Tryd.func50, Tryd.ntmps50
    go_wp2
    repeat (go_quiet (fail); try go_wp2)
    go_ret
    exact ⟨by first | rfl | (simp; done) | (simp [*]; done), by repeat (first | exact Drawn0.refl _ | apply Drawn0.step)⟩

/-- THE ONE PURE STATEMENT of slices_Equal_uint32_uint32: yours. -/
def slices_Equal_uint32_uint32.Pure : Prop := ∀ (l0 : List Int) (l1 : List Int), l0.length ≤ maxLen → l0.length * 4 ≤ 140737488351232 → (∀ x ∈ l0, (Lit.int .u32 x).wf = true) → l1.length ≤ maxLen → l1.length * 4 ≤ 140737488351232 → (∀ x ∈ l1, (Lit.int .u32 x).wf = true) → ∃ k, slices_Equal_uint32_uint32.f k l0 l1 = some true
theorem slices_Equal_uint32_uint32.walk (P : slices_Equal_uint32_uint32.Pure) (a0 : Option Addr) (len0 cap0 : Nat) (z0 : List Int) (a1 : Option Addr) (len1 cap1 : Nat) (z1 : List Int) (w : World) (w0 : (a0 = none ∧ len0 = 0 ∧ cap0 = 0 ∧ z0 = []) ∨ ∃ x, a0 = some x ∧ len0 ≤ cap0 ∧ cap0 ≤ maxLen ∧ z0.length = cap0 ∧ (∀ i, i < z0.length → w.cell? (x.add i) = some (.int .u32 (z0.getD i 0))) ∧ ∀ n ∈ z0, (Lit.int .u32 n).wf = true) (y0 : len0 * 4 ≤ 140737488351232) (w1 : (a1 = none ∧ len1 = 0 ∧ cap1 = 0 ∧ z1 = []) ∨ ∃ x, a1 = some x ∧ len1 ≤ cap1 ∧ cap1 ≤ maxLen ∧ z1.length = cap1 ∧ (∀ i, i < z1.length → w.cell? (x.add i) = some (.int .u32 (z1.getD i 0))) ∧ ∀ n ∈ z1, (Lit.int .u32 n).wf = true) (y1 : len1 * 4 ≤ 140737488351232) :
    Calls Tryd.prog 50 #[.slice a0 len0 cap0, .slice a1 len1 cap1] w fun e w' => e = .returned (.bool true) ∧ Below w.heap.size w w' := by
  obtain ⟨l0, rfl, hr0, hm0, hw0, hc0⟩ := ReadsInt.ofRowC w0
  obtain ⟨l1, rfl, hr1, hm1, hw1, hc1⟩ := ReadsInt.ofRowC w1
  obtain ⟨k, h⟩ := P l0 l1 hm0 y0 hw0 hm1 y1 hw1
  refine (slices_Equal_uint32_uint32.calls k _ _ l0 _ _ l1 true w (Kd.C_of_reads (d := (0 : Int)) (h1 := fun _ => rfl) hr0) hc0 (Kd.C_of_reads (d := (0 : Int)) (h1 := fun _ => rfl) hr1) hc1 h).mono ?_
  rintro e w' ⟨rfl, hd⟩
  exact ⟨rfl, hd.below⟩

end Go.Proofs.YtonnlkpmfmknlaaDoor.GA
end

section
-- laid by a program of this session (wip/gp.sh)
namespace Go.Proofs.YtonnlkpmfmknlaaDoor.GA
open Go.RowKit Go.Proofs.YtonnlkpmfmknlaaDoorW.PrintWords Go.Proofs.YtonnlkpmfmknlaaDoorW.PrintLast Go.Proofs.YtonnlkpmfmknlaaDoorW.PrintMore
attribute [local go_sem] max2_int min2_int max_two min_two max_three min_three max_four min_four   -- for this text's walks alone
set_option linter.unusedVariables false
set_option linter.unusedSimpArgs false

/-! ### slices_Equal_int64_int64: function 51 -/
def slices_Equal_int64_int64.l0 : Nat → List Int → List Int → Int → Int → Option (Bool)
  | 0, _, _, _, _ => none
  | k + 1, x0, x1, x12, x13 => if x13 < x12 then (if 0 ≤ x13 then (if x13 < (x0.length : Int) then (if x13 < (x1.length : Int) then (if (rd x0 x13) = (rd x1 x13) then (slices_Equal_int64_int64.l0 k x0 x1 x12 (wrap64 (x13 + 1))) else (some false)) else (none)) else (none)) else (none)) else (some true)
def slices_Equal_int64_int64.f (k : Nat) (l0 : List Int) (l1 : List Int) : Option (Bool) := if (l0.length : Int) = (l1.length : Int) then (slices_Equal_int64_int64.l0 k l0 l1 (l0.length : Int) 0) else (some false)
theorem slices_Equal_int64_int64.mono_l : ∀ k, (∀ y0 y1 y2 y3, LeO (slices_Equal_int64_int64.l0 k y0 y1 y2 y3) (slices_Equal_int64_int64.l0 (k + 1) y0 y1 y2 y3))
  | 0 => fun _ _ _ _ r h => by simp [slices_Equal_int64_int64.l0] at h
  | k + 1 => by
    have ih0 := slices_Equal_int64_int64.mono_l k
    · intro y0 y1 y2 y3
      unfold slices_Equal_int64_int64.l0
      repeat' first
      | (with_reducible exact ih0 _ _ _ _)
      | (with_reducible exact LeO.refl _)
      | (with_reducible exact LeO.none _)
      | (with_reducible refine LeO.ite ?_ ?_)
      | (with_reducible refine LeO.bind ?_ (fun _ => ?_))
      | exact ih0 _ _ _ _
      | exact LeO.none _
      | refine LeO.ite ?_ ?_
      | refine LeO.bind ?_ (fun _ => ?_)
theorem slices_Equal_int64_int64.mono : ∀ a0 a1 k, LeO (slices_Equal_int64_int64.f k a0 a1) (slices_Equal_int64_int64.f (k + 1) a0 a1) := by
  intro a0 a1 k
  have ih0 := slices_Equal_int64_int64.mono_l k
  unfold slices_Equal_int64_int64.f
  repeat' first
      | (with_reducible exact ih0 _ _ _ _)
      | (with_reducible exact LeO.refl _)
      | (with_reducible exact LeO.none _)
      | (with_reducible refine LeO.ite ?_ ?_)
      | (with_reducible refine LeO.bind ?_ (fun _ => ?_))
      | exact ih0 _ _ _ _
      | exact LeO.none _
      | refine LeO.ite ?_ ?_
      | refine LeO.bind ?_ (fun _ => ?_)
set_option maxHeartbeats 8000000 in
set_option maxRecDepth 100000 in
theorem slices_Equal_int64_int64.calls (k : Nat) (A0 : Option Addr) (c0 : Nat) (l0 : List Int) (A1 : Option Addr) (c1 : Nat) (l1 : List Int) (r : Bool) (w : World) (hr0 : Kd.C (Kd.int .i64) w A0 l0.length l0) (hc0 : l0.length ≤ c0) (hr1 : Kd.C (Kd.int .i64) w A1 l1.length l1) (hc1 : l1.length ≤ c1) (h : slices_Equal_int64_int64.f k l0 l1 = some r) :
    Calls Tryd.prog 51 #[.slice A0 l0.length c0, .slice A1 l1.length c1] w fun e w' => e = .returned (.bool r) ∧ Drawn0 w w' := by
  have HR0 := Aside0.mk hr0
  have HC0 := Aside0.mk hc0
  clear hr0 hc0
  have HR1 := Aside0.mk hr1
  have HC1 := Aside0.mk hc1
  clear hr1 hc1
  have H : (if (l0.length : Int) = (l1.length : Int) then (slices_Equal_int64_int64.l0 k l0 l1 (l0.length : Int) 0) else (some false)) = some r := h
  clear h
  by_cases c3 : (l0.length : Int) = (l1.length : Int)
  · rw [if_pos c3] at H
    have c3b0 : ((l0.length : Int) == (l1.length : Int)) = true := beq_iff_eq.mpr c3
    have c3b1 : ((l0.length : Int) != (l1.length : Int)) = false := bne_eq_false_iff_eq.mpr c3
    have c3b2 : (l0.length == l1.length) = true := by first | simpa using c3 | (simp at c3 ⊢; omega)
    clear c3
    have H' := Aside0.mk H
    clear H
    go_enter Tryd.func51, Tryd.ntmps51
    go_wp2
    repeat (go_quiet (fail); try go_wp2)
    go_loopg [13] k (fun kq v13 w' => ∃ (x13_1 : Int), v13 = .int .i64 x13_1 ∧ Aside0 (slices_Equal_int64_int64.l0 kq l0 l1 (l0.length : Int) x13_1 = some r) ∧ Aside0 (kq ≤ k) ∧ Drawn0 w w')
    case atStart => exact ⟨(0), (by first | rfl | (simp; done) | (simp [*]; done)), H', ⟨Nat.le_refl _⟩, by repeat (first | exact Drawn0.refl _ | apply Drawn0.step)⟩
    case round =>
      clear H'
      try clear c1
      try clear p2
      try clear c3
      try clear c3b0
      try clear c3b1
      try clear c3b2
      obtain ⟨x13_1, rfl, HA, HK1, ⟨m1, rfl⟩⟩ := hrel
      cases gk with
      | zero => exact absurd HA.out (by simp [slices_Equal_int64_int64.l0])
      | succ k1 =>
        have H := HA.out
        clear HA
        simp only [slices_Equal_int64_int64.l0] at H
        by_cases c4 : x13_1 < (l0.length : Int)
        · rw [if_pos c4] at H
          have c4b0 : decide (x13_1 < (l0.length : Int)) = true := decide_eq_true c4
          clear c4
          by_cases c5 : 0 ≤ x13_1
          · rw [if_pos c5] at H
            have c5b0 : decide (0 ≤ x13_1) = true := decide_eq_true c5
            clear c5
            by_cases c6 : x13_1 < (l0.length : Int)
            · rw [if_pos c6] at H
              have c6b0 : decide (x13_1 < (l0.length : Int)) = true := decide_eq_true c6
              clear c6
              by_cases c7 : x13_1 < (l1.length : Int)
              · rw [if_pos c7] at H
                have c7b0 : decide (x13_1 < (l1.length : Int)) = true := decide_eq_true c7
                clear c7
                by_cases c8 : (rd l0 x13_1) = (rd l1 x13_1)
                · rw [if_pos c8] at H
                  have c8b0 : ((rd l0 x13_1) == (rd l1 x13_1)) = true := beq_iff_eq.mpr c8
                  have c8b1 : ((rd l0 x13_1) != (rd l1 x13_1)) = false := bne_eq_false_iff_eq.mpr c8
                  clear c8
                  have H' := Aside0.mk H
                  clear H
                  have p484 : 0 ≤ (x13_1 : Int) := of_decide_eq_true (by first | (with_reducible assumption) | assumption)
                  have q484 : x13_1 < (l0.length : Int) := of_decide_eq_true (by first | (with_reducible assumption) | assumption)
                  obtain ⟨ad484, e484, hx484_0⟩ := Kd.at_int HR0.out x13_1 p484 q484
                  cases e484
                  replace p484 := eq_true p484
                  replace q484 := eq_true q484
                  have p485 : 0 ≤ (x13_1 : Int) := of_decide_eq_true (by first | (with_reducible assumption) | assumption)
                  have q485 : x13_1 < (l1.length : Int) := of_decide_eq_true (by first | (with_reducible assumption) | assumption)
                  obtain ⟨ad485, e485, hx485_0⟩ := Kd.at_int HR1.out x13_1 p485 q485
                  cases e485
                  replace p485 := eq_true p485
                  replace q485 := eq_true q485
                  go_wp2
                  repeat (go_quiet (fail); try go_wp2)
                  go_roundg k1
                  case measure => have := HK1.out; omega
                  case rel => exact ⟨(wrap64 (x13_1 + 1)), (by first | rfl | (simp; done) | (simp [*]; done)), H', ⟨by have := HK1.out; omega⟩, by repeat (first | exact Drawn0.refl _ | apply Drawn0.step)⟩
                · rw [if_neg c8] at H
                  have c8b0 : ((rd l0 x13_1) == (rd l1 x13_1)) = false := beq_eq_false_iff_ne.mpr c8
                  have c8b1 : ((rd l0 x13_1) != (rd l1 x13_1)) = true := bne_iff_ne.mpr c8
                  obtain rfl := Option.some.inj H
                  have p484 : 0 ≤ (x13_1 : Int) := of_decide_eq_true (by first | (with_reducible assumption) | assumption)
                  have q484 : x13_1 < (l0.length : Int) := of_decide_eq_true (by first | (with_reducible assumption) | assumption)
                  obtain ⟨ad484, e484, hx484_0⟩ := Kd.at_int HR0.out x13_1 p484 q484
                  cases e484
                  replace p484 := eq_true p484
                  replace q484 := eq_true q484
                  have p485 : 0 ≤ (x13_1 : Int) := of_decide_eq_true (by first | (with_reducible assumption) | assumption)
                  have q485 : x13_1 < (l1.length : Int) := of_decide_eq_true (by first | (with_reducible assumption) | assumption)
                  obtain ⟨ad485, e485, hx485_0⟩ := Kd.at_int HR1.out x13_1 p485 q485
                  cases e485
                  replace p485 := eq_true p485
                  replace q485 := eq_true q485
                  go_wp2
                  repeat (go_quiet (fail); try go_wp2)
                  go_ret
                  exact ⟨by first | rfl | (simp; done) | (simp [*]; done), by repeat (first | exact Drawn0.refl _ | apply Drawn0.step)⟩
              · rw [if_neg c7] at H
                exact absurd H (by simp)
            · rw [if_neg c6] at H
              exact absurd H (by simp)
          · rw [if_neg c5] at H
            exact absurd H (by simp)
        · rw [if_neg c4] at H
          have c4b0 : decide (x13_1 < (l0.length : Int)) = false := decide_eq_false c4
          clear c4
          obtain rfl := Option.some.inj H
          go_wp2
          repeat (go_quiet (fail); try go_wp2)
          go_ret
          exact ⟨by first | rfl | (simp; done) | (simp [*]; done), by repeat (first | exact Drawn0.refl _ | apply Drawn0.step)⟩
  · rw [if_neg c3] at H
    have c3b0 : ((l0.length : Int) == (l1.length : Int)) = false := beq_eq_false_iff_ne.mpr c3
    have c3b1 : ((l0.length : Int) != (l1.length : Int)) = true := bne_iff_ne.mpr c3
    have c3b2 : (l0.length == l1.length) = false := by first | simpa using c3 | (simp at c3 ⊢; omega)
    obtain rfl := Option.some.inj H
    go_enter Tryd.func51, Tryd.ntmps51
    go_wp2
    repeat (go_quiet (fail); try go_wp2)
    go_ret
    exact ⟨by first | rfl | (simp; done) | (simp [*]; done), by repeat (first | exact Drawn0.refl _ | apply Drawn0.step)⟩

/-- THE ONE PURE STATEMENT of slices_Equal_int64_int64: yours. -/
def slices_Equal_int64_int64.Pure : Prop := ∀ (l0 : List Int) (l1 : List Int), l0.length ≤ maxLen → l0.length * 8 ≤ 140737488351232 → (∀ x ∈ l0, (Lit.int .i64 x).wf = true) → l1.length ≤ maxLen → l1.length * 8 ≤ 140737488351232 → (∀ x ∈ l1, (Lit.int .i64 x).wf = true) → ∃ k, slices_Equal_int64_int64.f k l0 l1 = some true
theorem slices_Equal_int64_int64.walk (P : slices_Equal_int64_int64.Pure) (a0 : Option Addr) (len0 cap0 : Nat) (z0 : List Int) (a1 : Option Addr) (len1 cap1 : Nat) (z1 : List Int) (w : World) (w0 : (a0 = none ∧ len0 = 0 ∧ cap0 = 0 ∧ z0 = []) ∨ ∃ x, a0 = some x ∧ len0 ≤ cap0 ∧ cap0 ≤ maxLen ∧ z0.length = cap0 ∧ (∀ i, i < z0.length → w.cell? (x.add i) = some (.int .i64 (z0.getD i 0))) ∧ ∀ n ∈ z0, (Lit.int .i64 n).wf = true) (y0 : len0 * 8 ≤ 140737488351232) (w1 : (a1 = none ∧ len1 = 0 ∧ cap1 = 0 ∧ z1 = []) ∨ ∃ x, a1 = some x ∧ len1 ≤ cap1 ∧ cap1 ≤ maxLen ∧ z1.length = cap1 ∧ (∀ i, i < z1.length → w.cell? (x.add i) = some (.int .i64 (z1.getD i 0))) ∧ ∀ n ∈ z1, (Lit.int .i64 n).wf = true) (y1 : len1 * 8 ≤ 140737488351232) :
    Calls Tryd.prog 51 #[.slice a0 len0 cap0, .slice a1 len1 cap1] w fun e w' => e = .returned (.bool true) ∧ Below w.heap.size w w' := by
  obtain ⟨l0, rfl, hr0, hm0, hw0, hc0⟩ := ReadsInt.ofRowC w0
  obtain ⟨l1, rfl, hr1, hm1, hw1, hc1⟩ := ReadsInt.ofRowC w1
  obtain ⟨k, h⟩ := P l0 l1 hm0 y0 hw0 hm1 y1 hw1
  refine (slices_Equal_int64_int64.calls k _ _ l0 _ _ l1 true w (Kd.C_of_reads (d := (0 : Int)) (h1 := fun _ => rfl) hr0) hc0 (Kd.C_of_reads (d := (0 : Int)) (h1 := fun _ => rfl) hr1) hc1 h).mono ?_
  rintro e w' ⟨rfl, hd⟩
  exact ⟨rfl, hd.below⟩

end Go.Proofs.YtonnlkpmfmknlaaDoor.GA
end

section
/-
  script.at (49): the choices of a place, walked.
-/
set_option linter.unusedVariables false
set_option linter.unusedSimpArgs false
namespace Go.Proofs.YtonnlkpmfmknlaaDoor.Hof
open Go.RowKit Go.Proofs.YtonnlkpmfmknlaaDoorW.PrintWords Go.Proofs.YtonnlkpmfmknlaaDoorW.PrintLast Go.Proofs.YtonnlkpmfmknlaaDoorW.PrintMore Hctx GA
def oneAt (l : List S32) (i : Int) : S32 := if i < 0 ∨ (l.length : Int) ≤ i then z32 else rd_T32 l i
/-- What is there: its cells, whenever it is asked. -/
def OneOf (l : List S32) (A : Option Addr) (c : Nat) (i : Int) (w : World) (A0 : Option Addr) (c0 : Nat) (A1 : Option Addr) (c1 : Nat) : Prop :=
  k32.K w (oneAt l i) [.slice A0 (oneAt l i).f0.length c0, .slice A1 (oneAt l i).f1.length c1] ∧
  ∀ W, Below w.heap.size w W → Calls Tryd.prog 49 #[.slice A l.length c, .int .i64 i] W fun e W' => e = .returned (.agg #[.slice A0 (oneAt l i).f0.length c0, .slice A1 (oneAt l i).f1.length c1]) ∧ Below W.heap.size W W'
set_option maxHeartbeats 2000000 in
set_option maxRecDepth 100000 in
theorem at_calls (A : Option Addr) (c : Nat) (l : List S32) (i : Int) (w : World) (hr : Kd.C k32 w A l.length l) (hc : l.length ≤ c) :
    ∃ A0 c0 A1 c1, OneOf l A c i w A0 c0 A1 c1 := by
  have HR := Lib.hid hr
  clear hr
  by_cases h0 : i < 0
  · have e0 : decide (i < 0) = true := decide_eq_true h0
    have e : oneAt l i = z32 := if_pos (.inl h0)
    refine ⟨none, 0, none, 0, by rw [e]; exact k32_mk w z32 (Nat.le_refl _) (Kd.C_nil _ _) (Nat.le_refl _) (Kd.C_nil _ _), fun W hW => ?_⟩
    have M0 := Aside0.mk (Mem.start [] W)
    go_enter Tryd.func49, Tryd.ntmps49
    go_wp2_with (first
      | (refine eB M0 4 #[.slice none 0 0, .slice none 0 0] 32 ?_; clear M0; intro g w1 M1)
      | (refine eR M1 32 4 0 #[.slice none 0 0, .slice none 0 0] ?_; clear M1; intro w2 M2)
      | fail)
    refine bodyPost_ret (results_cell_row rfl _ _ g 32 #[.slice none 0 0, .slice none 0 0] (0, 0) _ rfl (M2.out.at 0 rfl) Tryd.underlying32 rfl (by kernel_rfl)) rfl ?_
    exact ⟨by first | rfl | (rw [e]; rfl), M2.out.below⟩
  · have e0 : decide (i < 0) = false := decide_eq_false h0
    by_cases h1 : (l.length : Int) ≤ i
    · have e1 : decide ((l.length : Int) ≤ i) = true := decide_eq_true h1
      have e2 : decide (i ≥ (l.length : Int)) = true := decide_eq_true h1
      have e : oneAt l i = z32 := if_pos (.inr h1)
      refine ⟨none, 0, none, 0, by rw [e]; exact k32_mk w z32 (Nat.le_refl _) (Kd.C_nil _ _) (Nat.le_refl _) (Kd.C_nil _ _), fun W hW => ?_⟩
      have M0 := Aside0.mk (Mem.start [] W)
      go_enter Tryd.func49, Tryd.ntmps49
      go_wp2_with (first
        | (refine eB M0 4 #[.slice none 0 0, .slice none 0 0] 32 ?_; clear M0; intro g w1 M1)
        | (refine eR M1 32 4 0 #[.slice none 0 0, .slice none 0 0] ?_; clear M1; intro w2 M2)
        | fail)
      refine bodyPost_ret (results_cell_row rfl _ _ g 32 #[.slice none 0 0, .slice none 0 0] (0, 0) _ rfl (M2.out.at 0 rfl) Tryd.underlying32 rfl (by kernel_rfl)) rfl ?_
      exact ⟨by first | rfl | (rw [e]; rfl), M2.out.below⟩
    · have e1 : decide ((l.length : Int) ≤ i) = false := decide_eq_false h1
      have e2 : decide (i ≥ (l.length : Int)) = false := decide_eq_false h1
      obtain ⟨ad, A0, c0, A1, c1, rfl, x0, x1, l0, g0, l1, g1⟩ := at_T32 HR.out i (by omega) (by omega)
      have hone : oneAt l i = rd_T32 l i := if_neg (by omega)
      refine ⟨A0, c0, A1, c1, by rw [hone]; exact k32_mk w (rd_T32 l i) l0 g0 l1 g1, fun W hW => ?_⟩
      have M0 := Aside0.mk (Mem.start [] W)
      have q0 : (0 ≤ i) = True := eq_true (by omega)
      have q1 : (i < (l.length : Int)) = True := eq_true (by omega)
      have X0 := Lib.hid ((hW.cell (World.block_lt_of_cell? _ _ x0)).trans x0)
      have X1 := Lib.hid ((hW.cell (World.block_lt_of_cell? _ _ x1)).trans x1)
      clear x0 x1 l0 g0 l1 g1
      go_enter Tryd.func49, Tryd.ntmps49
      go_wp2_with (first
        | (refine eB M0 4 #[.slice none 0 0, .slice none 0 0] 32 ?_; clear M0; intro g w1 M1; have x0 := (M1.out.below.cell (World.block_lt_of_cell? _ _ X0.out)).trans X0.out; have x1 := (M1.out.below.cell (World.block_lt_of_cell? _ _ X1.out)).trans X1.out)
        | (refine eR M1 32 4 0 #[.slice A0 (rd_T32 l i).f0.length c0, .slice A1 (rd_T32 l i).f1.length c1] ?_; clear M1; intro w2 M2)
        | fail)
      refine bodyPost_ret (results_cell_row rfl _ _ g 32 #[.slice A0 (rd_T32 l i).f0.length c0, .slice A1 (rd_T32 l i).f1.length c1] (0, 0) _ rfl (M2.out.at 0 rfl) Tryd.underlying32 rfl (by kernel_rfl)) rfl ?_
      exact ⟨by first | rfl | rw [hone], M2.out.below⟩
end Go.Proofs.YtonnlkpmfmknlaaDoor.Hof
end

section
/-
  slices.Equal in plain Lean.
-/
set_option linter.unusedVariables false
set_option linter.unusedSimpArgs false
namespace Go.Proofs.YtonnlkpmfmknlaaDoor.Q
open Go.RowKit Go.Proofs.YtonnlkpmfmknlaaDoorW.PrintWords Go.Proofs.YtonnlkpmfmknlaaDoorW.PrintLast Go.Proofs.YtonnlkpmfmknlaaDoorW.PrintMore Go.Proofs.YtonnlkpmfmknlaaDoor.GA
theorem eqL_uint32 (l0 l1 : List Int) (hl : l0.length = l1.length) (hb : l0.length ≤ 9223372036854775807) : ∀ (d i : Nat), i + d = l0.length → ∀ k, d + 1 ≤ k → slices_Equal_uint32_uint32.l0 k l0 l1 (l0.length : Int) (i : Int) = some (decide (l0.drop i = l1.drop i))
  | 0, i, hi, k, hk => by
    obtain ⟨k, rfl⟩ : ∃ j, k = j + 1 := ⟨k - 1, by omega⟩
    rw [slices_Equal_uint32_uint32.l0, if_neg (by omega), List.drop_of_length_le (by omega), List.drop_of_length_le (by omega)]; rfl
  | d + 1, i, hi, k, hk => by
    obtain ⟨k, rfl⟩ : ∃ j, k = j + 1 := ⟨k - 1, by omega⟩
    have e : wrap64 ((i : Int) + 1) = ((i + 1 : Nat) : Int) := by rw [Int.natCast_add]; exact IntWalk.wrap64_in _ (by omega)
    have r0 : rd l0 (i : Int) = l0[i]'(by omega) := by unfold rd; rw [Int.toNat_natCast, List.getD_eq_getElem?_getD, List.getElem?_eq_getElem (by omega)]; rfl
    have r1 : rd l1 (i : Int) = l1[i]'(by omega) := by unfold rd; rw [Int.toNat_natCast, List.getD_eq_getElem?_getD, List.getElem?_eq_getElem (by omega)]; rfl
    rw [slices_Equal_uint32_uint32.l0, if_pos (by omega), if_pos (by omega), if_pos (by omega), if_pos (by omega), r0, r1]
    have key : l0.drop i = l1.drop i ↔ (l0[i]'(by omega) = l1[i]'(by omega) ∧ l0.drop (i + 1) = l1.drop (i + 1)) := by
      rw [List.drop_eq_getElem_cons (show i < l0.length by omega), List.drop_eq_getElem_cons (show i < l1.length by omega), List.cons.injEq]
    by_cases h : l0[i]'(by omega) = l1[i]'(by omega)
    · rw [if_pos h, e, eqL_uint32 l0 l1 hl hb d (i + 1) (by omega) k (by omega)]
      exact congrArg some (decide_eq_decide.2 ⟨fun z => key.2 ⟨h, z⟩, fun z => (key.1 z).2⟩)
    · rw [if_neg h]
      exact congrArg some (decide_eq_false (fun z => h (key.1 z).1)).symm
theorem eq_uint32 (l0 l1 : List Int) (hb : l0.length ≤ 9223372036854775807) : slices_Equal_uint32_uint32.f (l0.length + 1) l0 l1 = some (decide (l0 = l1)) := by
  unfold slices_Equal_uint32_uint32.f
  by_cases h : l0.length = l1.length
  · rw [if_pos (by omega)]
    exact eqL_uint32 l0 l1 h hb l0.length 0 (by omega) _ (Nat.le_refl _)
  · rw [if_neg (by omega)]
    have : ¬ l0 = l1 := fun e => h (by rw [e])
    simp [this]
theorem eqL_int64 (l0 l1 : List Int) (hl : l0.length = l1.length) (hb : l0.length ≤ 9223372036854775807) : ∀ (d i : Nat), i + d = l0.length → ∀ k, d + 1 ≤ k → slices_Equal_int64_int64.l0 k l0 l1 (l0.length : Int) (i : Int) = some (decide (l0.drop i = l1.drop i))
  | 0, i, hi, k, hk => by
    obtain ⟨k, rfl⟩ : ∃ j, k = j + 1 := ⟨k - 1, by omega⟩
    rw [slices_Equal_int64_int64.l0, if_neg (by omega), List.drop_of_length_le (by omega), List.drop_of_length_le (by omega)]; rfl
  | d + 1, i, hi, k, hk => by
    obtain ⟨k, rfl⟩ : ∃ j, k = j + 1 := ⟨k - 1, by omega⟩
    have e : wrap64 ((i : Int) + 1) = ((i + 1 : Nat) : Int) := by rw [Int.natCast_add]; exact IntWalk.wrap64_in _ (by omega)
    have r0 : rd l0 (i : Int) = l0[i]'(by omega) := by unfold rd; rw [Int.toNat_natCast, List.getD_eq_getElem?_getD, List.getElem?_eq_getElem (by omega)]; rfl
    have r1 : rd l1 (i : Int) = l1[i]'(by omega) := by unfold rd; rw [Int.toNat_natCast, List.getD_eq_getElem?_getD, List.getElem?_eq_getElem (by omega)]; rfl
    rw [slices_Equal_int64_int64.l0, if_pos (by omega), if_pos (by omega), if_pos (by omega), if_pos (by omega), r0, r1]
    have key : l0.drop i = l1.drop i ↔ (l0[i]'(by omega) = l1[i]'(by omega) ∧ l0.drop (i + 1) = l1.drop (i + 1)) := by
      rw [List.drop_eq_getElem_cons (show i < l0.length by omega), List.drop_eq_getElem_cons (show i < l1.length by omega), List.cons.injEq]
    by_cases h : l0[i]'(by omega) = l1[i]'(by omega)
    · rw [if_pos h, e, eqL_int64 l0 l1 hl hb d (i + 1) (by omega) k (by omega)]
      exact congrArg some (decide_eq_decide.2 ⟨fun z => key.2 ⟨h, z⟩, fun z => (key.1 z).2⟩)
    · rw [if_neg h]
      exact congrArg some (decide_eq_false (fun z => h (key.1 z).1)).symm
theorem eq_int64 (l0 l1 : List Int) (hb : l0.length ≤ 9223372036854775807) : slices_Equal_int64_int64.f (l0.length + 1) l0 l1 = some (decide (l0 = l1)) := by
  unfold slices_Equal_int64_int64.f
  by_cases h : l0.length = l1.length
  · rw [if_pos (by omega)]
    exact eqL_int64 l0 l1 h hb l0.length 0 (by omega) _ (Nat.le_refl _)
  · rw [if_neg (by omega)]
    have : ¬ l0 = l1 := fun e => h (by rw [e])
    simp [this]
end Go.Proofs.YtonnlkpmfmknlaaDoor.Q
end

section
/-
  script.Agree's literal (48), walked: are the choices of a place other ones?
-/
set_option linter.unusedVariables false
set_option linter.unusedSimpArgs false
namespace Go.Proofs.YtonnlkpmfmknlaaDoor.Hof
open Go.RowKit Go.Proofs.YtonnlkpmfmknlaaDoorW.PrintWords Go.Proofs.YtonnlkpmfmknlaaDoorW.PrintLast Go.Proofs.YtonnlkpmfmknlaaDoorW.PrintMore Hctx GA
def otherAt (la lb : List S32) (p : Int) : Bool := !(decide ((oneAt la p).f0 = (oneAt lb p).f0) && decide ((oneAt la p).f1 = (oneAt lb p).f1))
theorem k32_parts {w : World} {x : S32} {A0 A1 : Option Addr} {c0 c1 : Nat} (h : k32.K w x [.slice A0 x.f0.length c0, .slice A1 x.f1.length c1]) : x.f0.length ≤ c0 ∧ (Kd.int .u32).C w A0 x.f0.length x.f0 ∧ x.f1.length ≤ c1 ∧ (Kd.int .i64).C w A1 x.f1.length x.f1 := by
  obtain ⟨A0', c0', A1', c1', he, l0, g0, l1, g1⟩ := k32_open h
  simp only [List.cons.injEq, Value.slice.injEq, and_true, true_and] at he
  obtain ⟨⟨rfl, rfl⟩, rfl, rfl⟩ := he
  exact ⟨l0, g0, l1, g1⟩
theorem below_dr {w w' : World} (h : Drawn0 w w') : Below w.heap.size w w' := h.below
set_option maxHeartbeats 4000000 in
set_option maxRecDepth 100000 in
theorem lit_calls (ga gb : Nat) (A : Option Addr) (ca : Nat) (la : List S32) (B : Option Addr) (cb : Nat) (lb : List S32) (p : Int) (w : World)
    (hA : w.cell? ⟨ga, 0, none⟩ = some (.slice A la.length ca)) (hB : w.cell? ⟨gb, 0, none⟩ = some (.slice B lb.length cb)) (hrA : Kd.C k32 w A la.length la) (hcA : la.length ≤ ca) (hrB : Kd.C k32 w B lb.length lb) (hcB : lb.length ≤ cb) :
    Calls Tryd.prog 48 #[.int .i64 p, .pointer (some ⟨ga, 0, none⟩), .pointer (some ⟨gb, 0, none⟩)] w fun e W' => e = .returned (.bool (otherAt la lb p)) ∧ Below w.heap.size w W' := by
  obtain ⟨A0, c0, A1, c1, hoA⟩ := at_calls A ca la p w hrA hcA
  obtain ⟨B0, d0, B1, d1, hoB⟩ := at_calls B cb lb p w hrB hcB
  have HA := Lib.hid hoA
  have HB := Lib.hid hoB
  have HT : Cells w [(⟨ga, 0, none⟩, .slice A la.length ca), (⟨gb, 0, none⟩, .slice B lb.length cb)] := fun c hc => by
    rcases List.mem_cons.1 hc with rfl | hc
    · exact hA
    · rw [List.mem_singleton] at hc; subst hc; exact hB
  have M0 := Aside0.mk (Mem.start [] w)
  clear hoA hoB hA hB hrA hrB
  go_enter Tryd.func48, Tryd.ntmps48
  go_wp2_with fail
  go_wp2_with fail
  refine dJoin (σ := (Nat) × (Nat)) (fun s => [(5, .pointer (some ⟨s.1, 0, none⟩)), (6, .pointer (some ⟨s.2, 0, none⟩)), (7, .slice A la.length ca), (8, .int .i64 p), (9, .agg #[.slice A0 (oneAt la p).f0.length c0, .slice A1 (oneAt la p).f1.length c1]), (10, .slice B lb.length cb), (11, .int .i64 p), (12, .agg #[.slice B0 (oneAt lb p).f0.length d0, .slice B1 (oneAt lb p).f1.length d1])]) (fun s w' => Aside0 (Mem [] w w' [(s.1, #[.slice A0 (oneAt la p).f0.length c0, .slice A1 (oneAt la p).f1.length c1], 32), (s.2, #[.slice B0 (oneAt lb p).f0.length d0, .slice B1 (oneAt lb p).f1.length d1], 32)] [])) ?_ (fun hK => ?_)
  rotate_left
  · simp only [putAll, Act.put, List.setIfInBounds_toArray, List.set_cons_zero, List.set_cons_succ] at hK
    refine dStart [8, 9] [(⟨ga, 0, none⟩, (.slice A la.length ca)), (⟨gb, 0, none⟩, (.slice B lb.length cb))] M0 (fun w' M => ?_)
    clear M0
    have M1 := M
    clear M
    refine dE M1 0 7 0 ?_
    simp only [Act.put, List.setIfInBounds_toArray, List.set_cons_zero, List.set_cons_succ]
    refine dP 1 8 (.int .i64 p) ?_
    simp only [Act.put, List.setIfInBounds_toArray, List.set_cons_zero, List.set_cons_succ]
    refine dE M1 3 10 1 ?_
    simp only [Act.put, List.setIfInBounds_toArray, List.set_cons_zero, List.set_cons_succ]
    refine dP 4 11 (.int .i64 p) ?_
    simp only [Act.put, List.setIfInBounds_toArray, List.set_cons_zero, List.set_cons_succ]
    refine dR [2, 6, 7] ?_
    refine qK 2 9 Tryd.func49 #[.slice A la.length ca, .int .i64 p] ?_ ?_
    · refine (HA.out.2 _ M1.out.below).mono ?_
      rintro e W9 ⟨rfl, hb⟩
      have M2 := Aside0.mk (Mem.call M1.out hb)
      clear M1 hb
      refine ⟨_, rfl, M2.out.held HT rfl, ?_⟩
      simp only [Act.put, List.setIfInBounds_toArray, List.set_cons_zero, List.set_cons_succ]
      refine dR [5, 6, 7] ?_
      refine qK 5 12 Tryd.func49 #[.slice B lb.length cb, .int .i64 p] ?_ ?_
      · refine (HB.out.2 _ M2.out.below).mono ?_
        rintro e W12 ⟨rfl, hb⟩
        have M3 := Aside0.mk (Mem.call M2.out hb)
        clear M2 hb
        refine ⟨_, rfl, M3.out.held HT rfl, ?_⟩
        simp only [Act.put, List.setIfInBounds_toArray, List.set_cons_zero, List.set_cons_succ]
        refine dR [6, 7] ?_
        refine qA M3 6 5 32 #[.slice none 0 0, .slice none 0 0] ?_ ?_
        · clear M3
          intro g5 w5 M4
          simp only [Act.put, List.setIfInBounds_toArray, List.set_cons_zero, List.set_cons_succ]
          refine dR [7] ?_
          refine qA M4 7 6 32 #[.slice none 0 0, .slice none 0 0] ?_ AllReadyL.nil
          clear M4
          intro g6 w6 M5
          simp only [Act.put, List.setIfInBounds_toArray, List.set_cons_zero, List.set_cons_succ]
          refine dR [8] ?_
          refine qS M5 8 32 5 0 #[.slice A0 (oneAt la p).f0.length c0, .slice A1 (oneAt la p).f1.length c1] ?_ AllReadyL.nil
          clear M5
          intro w_ M6
          refine dR [9] ?_
          refine qS M6 9 32 6 1 #[.slice B0 (oneAt lb p).f0.length d0, .slice B1 (oneAt lb p).f1.length d1] ?_ AllReadyL.nil
          clear M6
          intro w_ M7
          refine dDone ?_
          exact hK (g5, g6) _ M7
        refine qA M3 7 6 32 #[.slice none 0 0, .slice none 0 0] ?_ ?_
        · clear M3
          intro g6 w6 M4
          simp only [Act.put, List.setIfInBounds_toArray, List.set_cons_zero, List.set_cons_succ]
          refine dR [6] ?_
          refine qA M4 6 5 32 #[.slice none 0 0, .slice none 0 0] ?_ AllReadyL.nil
          clear M4
          intro g5 w5 M5
          simp only [Act.put, List.setIfInBounds_toArray, List.set_cons_zero, List.set_cons_succ]
          refine dR [8] ?_
          refine qS M5 8 32 5 1 #[.slice A0 (oneAt la p).f0.length c0, .slice A1 (oneAt la p).f1.length c1] ?_ AllReadyL.nil
          clear M5
          intro w_ M6
          refine dR [9] ?_
          refine qS M6 9 32 6 0 #[.slice B0 (oneAt lb p).f0.length d0, .slice B1 (oneAt lb p).f1.length d1] ?_ AllReadyL.nil
          clear M6
          intro w_ M7
          refine dDone ?_
          exact hK (g5, g6) _ (Aside0.mk (Mem.perm M7.out (List.Perm.swap _ _ _)))
        exact AllReadyL.nil
      refine qA M2 6 5 32 #[.slice none 0 0, .slice none 0 0] ?_ ?_
      · clear M2
        intro g5 w5 M3
        simp only [Act.put, List.setIfInBounds_toArray, List.set_cons_zero, List.set_cons_succ]
        refine dR [5, 7] ?_
        refine qK 5 12 Tryd.func49 #[.slice B lb.length cb, .int .i64 p] ?_ ?_
        · refine (HB.out.2 _ M3.out.below).mono ?_
          rintro e W12 ⟨rfl, hb⟩
          have M4 := Aside0.mk (Mem.call M3.out hb)
          clear M3 hb
          refine ⟨_, rfl, M4.out.held HT rfl, ?_⟩
          simp only [Act.put, List.setIfInBounds_toArray, List.set_cons_zero, List.set_cons_succ]
          refine dR [7] ?_
          refine qA M4 7 6 32 #[.slice none 0 0, .slice none 0 0] ?_ AllReadyL.nil
          clear M4
          intro g6 w6 M5
          simp only [Act.put, List.setIfInBounds_toArray, List.set_cons_zero, List.set_cons_succ]
          refine dR [8] ?_
          refine qS M5 8 32 5 0 #[.slice A0 (oneAt la p).f0.length c0, .slice A1 (oneAt la p).f1.length c1] ?_ AllReadyL.nil
          clear M5
          intro w_ M6
          refine dR [9] ?_
          refine qS M6 9 32 6 1 #[.slice B0 (oneAt lb p).f0.length d0, .slice B1 (oneAt lb p).f1.length d1] ?_ AllReadyL.nil
          clear M6
          intro w_ M7
          refine dDone ?_
          exact hK (g5, g6) _ M7
        refine qA M3 7 6 32 #[.slice none 0 0, .slice none 0 0] ?_ ?_
        · clear M3
          intro g6 w6 M4
          simp only [Act.put, List.setIfInBounds_toArray, List.set_cons_zero, List.set_cons_succ]
          refine dR [5] ?_
          refine qK 5 12 Tryd.func49 #[.slice B lb.length cb, .int .i64 p] ?_ AllReadyL.nil
          refine (HB.out.2 _ M4.out.below).mono ?_
          rintro e W12 ⟨rfl, hb⟩
          have M5 := Aside0.mk (Mem.call M4.out hb)
          clear M4 hb
          refine ⟨_, rfl, M5.out.held HT rfl, ?_⟩
          simp only [Act.put, List.setIfInBounds_toArray, List.set_cons_zero, List.set_cons_succ]
          refine dR [8] ?_
          refine qS M5 8 32 5 0 #[.slice A0 (oneAt la p).f0.length c0, .slice A1 (oneAt la p).f1.length c1] ?_ AllReadyL.nil
          clear M5
          intro w_ M6
          refine dR [9] ?_
          refine qS M6 9 32 6 1 #[.slice B0 (oneAt lb p).f0.length d0, .slice B1 (oneAt lb p).f1.length d1] ?_ AllReadyL.nil
          clear M6
          intro w_ M7
          refine dDone ?_
          exact hK (g5, g6) _ M7
        exact AllReadyL.nil
      refine qA M2 7 6 32 #[.slice none 0 0, .slice none 0 0] ?_ ?_
      · clear M2
        intro g6 w6 M3
        simp only [Act.put, List.setIfInBounds_toArray, List.set_cons_zero, List.set_cons_succ]
        refine dR [5, 6] ?_
        refine qK 5 12 Tryd.func49 #[.slice B lb.length cb, .int .i64 p] ?_ ?_
        · refine (HB.out.2 _ M3.out.below).mono ?_
          rintro e W12 ⟨rfl, hb⟩
          have M4 := Aside0.mk (Mem.call M3.out hb)
          clear M3 hb
          refine ⟨_, rfl, M4.out.held HT rfl, ?_⟩
          simp only [Act.put, List.setIfInBounds_toArray, List.set_cons_zero, List.set_cons_succ]
          refine dR [6] ?_
          refine qA M4 6 5 32 #[.slice none 0 0, .slice none 0 0] ?_ AllReadyL.nil
          clear M4
          intro g5 w5 M5
          simp only [Act.put, List.setIfInBounds_toArray, List.set_cons_zero, List.set_cons_succ]
          refine dR [8] ?_
          refine qS M5 8 32 5 1 #[.slice A0 (oneAt la p).f0.length c0, .slice A1 (oneAt la p).f1.length c1] ?_ AllReadyL.nil
          clear M5
          intro w_ M6
          refine dR [9] ?_
          refine qS M6 9 32 6 0 #[.slice B0 (oneAt lb p).f0.length d0, .slice B1 (oneAt lb p).f1.length d1] ?_ AllReadyL.nil
          clear M6
          intro w_ M7
          refine dDone ?_
          exact hK (g5, g6) _ (Aside0.mk (Mem.perm M7.out (List.Perm.swap _ _ _)))
        refine qA M3 6 5 32 #[.slice none 0 0, .slice none 0 0] ?_ ?_
        · clear M3
          intro g5 w5 M4
          simp only [Act.put, List.setIfInBounds_toArray, List.set_cons_zero, List.set_cons_succ]
          refine dR [5] ?_
          refine qK 5 12 Tryd.func49 #[.slice B lb.length cb, .int .i64 p] ?_ AllReadyL.nil
          refine (HB.out.2 _ M4.out.below).mono ?_
          rintro e W12 ⟨rfl, hb⟩
          have M5 := Aside0.mk (Mem.call M4.out hb)
          clear M4 hb
          refine ⟨_, rfl, M5.out.held HT rfl, ?_⟩
          simp only [Act.put, List.setIfInBounds_toArray, List.set_cons_zero, List.set_cons_succ]
          refine dR [8] ?_
          refine qS M5 8 32 5 1 #[.slice A0 (oneAt la p).f0.length c0, .slice A1 (oneAt la p).f1.length c1] ?_ AllReadyL.nil
          clear M5
          intro w_ M6
          refine dR [9] ?_
          refine qS M6 9 32 6 0 #[.slice B0 (oneAt lb p).f0.length d0, .slice B1 (oneAt lb p).f1.length d1] ?_ AllReadyL.nil
          clear M6
          intro w_ M7
          refine dDone ?_
          exact hK (g5, g6) _ (Aside0.mk (Mem.perm M7.out (List.Perm.swap _ _ _)))
        exact AllReadyL.nil
      exact AllReadyL.nil
    refine qA M1 6 5 32 #[.slice none 0 0, .slice none 0 0] ?_ ?_
    · clear M1
      intro g5 w5 M2
      simp only [Act.put, List.setIfInBounds_toArray, List.set_cons_zero, List.set_cons_succ]
      refine dR [2, 7] ?_
      refine qK 2 9 Tryd.func49 #[.slice A la.length ca, .int .i64 p] ?_ ?_
      · refine (HA.out.2 _ M2.out.below).mono ?_
        rintro e W9 ⟨rfl, hb⟩
        have M3 := Aside0.mk (Mem.call M2.out hb)
        clear M2 hb
        refine ⟨_, rfl, M3.out.held HT rfl, ?_⟩
        simp only [Act.put, List.setIfInBounds_toArray, List.set_cons_zero, List.set_cons_succ]
        refine dR [5, 7] ?_
        refine qK 5 12 Tryd.func49 #[.slice B lb.length cb, .int .i64 p] ?_ ?_
        · refine (HB.out.2 _ M3.out.below).mono ?_
          rintro e W12 ⟨rfl, hb⟩
          have M4 := Aside0.mk (Mem.call M3.out hb)
          clear M3 hb
          refine ⟨_, rfl, M4.out.held HT rfl, ?_⟩
          simp only [Act.put, List.setIfInBounds_toArray, List.set_cons_zero, List.set_cons_succ]
          refine dR [7] ?_
          refine qA M4 7 6 32 #[.slice none 0 0, .slice none 0 0] ?_ AllReadyL.nil
          clear M4
          intro g6 w6 M5
          simp only [Act.put, List.setIfInBounds_toArray, List.set_cons_zero, List.set_cons_succ]
          refine dR [8] ?_
          refine qS M5 8 32 5 0 #[.slice A0 (oneAt la p).f0.length c0, .slice A1 (oneAt la p).f1.length c1] ?_ AllReadyL.nil
          clear M5
          intro w_ M6
          refine dR [9] ?_
          refine qS M6 9 32 6 1 #[.slice B0 (oneAt lb p).f0.length d0, .slice B1 (oneAt lb p).f1.length d1] ?_ AllReadyL.nil
          clear M6
          intro w_ M7
          refine dDone ?_
          exact hK (g5, g6) _ M7
        refine qA M3 7 6 32 #[.slice none 0 0, .slice none 0 0] ?_ ?_
        · clear M3
          intro g6 w6 M4
          simp only [Act.put, List.setIfInBounds_toArray, List.set_cons_zero, List.set_cons_succ]
          refine dR [5] ?_
          refine qK 5 12 Tryd.func49 #[.slice B lb.length cb, .int .i64 p] ?_ AllReadyL.nil
          refine (HB.out.2 _ M4.out.below).mono ?_
          rintro e W12 ⟨rfl, hb⟩
          have M5 := Aside0.mk (Mem.call M4.out hb)
          clear M4 hb
          refine ⟨_, rfl, M5.out.held HT rfl, ?_⟩
          simp only [Act.put, List.setIfInBounds_toArray, List.set_cons_zero, List.set_cons_succ]
          refine dR [8] ?_
          refine qS M5 8 32 5 0 #[.slice A0 (oneAt la p).f0.length c0, .slice A1 (oneAt la p).f1.length c1] ?_ AllReadyL.nil
          clear M5
          intro w_ M6
          refine dR [9] ?_
          refine qS M6 9 32 6 1 #[.slice B0 (oneAt lb p).f0.length d0, .slice B1 (oneAt lb p).f1.length d1] ?_ AllReadyL.nil
          clear M6
          intro w_ M7
          refine dDone ?_
          exact hK (g5, g6) _ M7
        exact AllReadyL.nil
      refine qA M2 7 6 32 #[.slice none 0 0, .slice none 0 0] ?_ ?_
      · clear M2
        intro g6 w6 M3
        simp only [Act.put, List.setIfInBounds_toArray, List.set_cons_zero, List.set_cons_succ]
        refine dR [2] ?_
        refine qK 2 9 Tryd.func49 #[.slice A la.length ca, .int .i64 p] ?_ AllReadyL.nil
        refine (HA.out.2 _ M3.out.below).mono ?_
        rintro e W9 ⟨rfl, hb⟩
        have M4 := Aside0.mk (Mem.call M3.out hb)
        clear M3 hb
        refine ⟨_, rfl, M4.out.held HT rfl, ?_⟩
        simp only [Act.put, List.setIfInBounds_toArray, List.set_cons_zero, List.set_cons_succ]
        refine dR [5] ?_
        refine qK 5 12 Tryd.func49 #[.slice B lb.length cb, .int .i64 p] ?_ AllReadyL.nil
        refine (HB.out.2 _ M4.out.below).mono ?_
        rintro e W12 ⟨rfl, hb⟩
        have M5 := Aside0.mk (Mem.call M4.out hb)
        clear M4 hb
        refine ⟨_, rfl, M5.out.held HT rfl, ?_⟩
        simp only [Act.put, List.setIfInBounds_toArray, List.set_cons_zero, List.set_cons_succ]
        refine dR [8] ?_
        refine qS M5 8 32 5 0 #[.slice A0 (oneAt la p).f0.length c0, .slice A1 (oneAt la p).f1.length c1] ?_ AllReadyL.nil
        clear M5
        intro w_ M6
        refine dR [9] ?_
        refine qS M6 9 32 6 1 #[.slice B0 (oneAt lb p).f0.length d0, .slice B1 (oneAt lb p).f1.length d1] ?_ AllReadyL.nil
        clear M6
        intro w_ M7
        refine dDone ?_
        exact hK (g5, g6) _ M7
      exact AllReadyL.nil
    refine qA M1 7 6 32 #[.slice none 0 0, .slice none 0 0] ?_ ?_
    · clear M1
      intro g6 w6 M2
      simp only [Act.put, List.setIfInBounds_toArray, List.set_cons_zero, List.set_cons_succ]
      refine dR [2, 6] ?_
      refine qK 2 9 Tryd.func49 #[.slice A la.length ca, .int .i64 p] ?_ ?_
      · refine (HA.out.2 _ M2.out.below).mono ?_
        rintro e W9 ⟨rfl, hb⟩
        have M3 := Aside0.mk (Mem.call M2.out hb)
        clear M2 hb
        refine ⟨_, rfl, M3.out.held HT rfl, ?_⟩
        simp only [Act.put, List.setIfInBounds_toArray, List.set_cons_zero, List.set_cons_succ]
        refine dR [5, 6] ?_
        refine qK 5 12 Tryd.func49 #[.slice B lb.length cb, .int .i64 p] ?_ ?_
        · refine (HB.out.2 _ M3.out.below).mono ?_
          rintro e W12 ⟨rfl, hb⟩
          have M4 := Aside0.mk (Mem.call M3.out hb)
          clear M3 hb
          refine ⟨_, rfl, M4.out.held HT rfl, ?_⟩
          simp only [Act.put, List.setIfInBounds_toArray, List.set_cons_zero, List.set_cons_succ]
          refine dR [6] ?_
          refine qA M4 6 5 32 #[.slice none 0 0, .slice none 0 0] ?_ AllReadyL.nil
          clear M4
          intro g5 w5 M5
          simp only [Act.put, List.setIfInBounds_toArray, List.set_cons_zero, List.set_cons_succ]
          refine dR [8] ?_
          refine qS M5 8 32 5 1 #[.slice A0 (oneAt la p).f0.length c0, .slice A1 (oneAt la p).f1.length c1] ?_ AllReadyL.nil
          clear M5
          intro w_ M6
          refine dR [9] ?_
          refine qS M6 9 32 6 0 #[.slice B0 (oneAt lb p).f0.length d0, .slice B1 (oneAt lb p).f1.length d1] ?_ AllReadyL.nil
          clear M6
          intro w_ M7
          refine dDone ?_
          exact hK (g5, g6) _ (Aside0.mk (Mem.perm M7.out (List.Perm.swap _ _ _)))
        refine qA M3 6 5 32 #[.slice none 0 0, .slice none 0 0] ?_ ?_
        · clear M3
          intro g5 w5 M4
          simp only [Act.put, List.setIfInBounds_toArray, List.set_cons_zero, List.set_cons_succ]
          refine dR [5] ?_
          refine qK 5 12 Tryd.func49 #[.slice B lb.length cb, .int .i64 p] ?_ AllReadyL.nil
          refine (HB.out.2 _ M4.out.below).mono ?_
          rintro e W12 ⟨rfl, hb⟩
          have M5 := Aside0.mk (Mem.call M4.out hb)
          clear M4 hb
          refine ⟨_, rfl, M5.out.held HT rfl, ?_⟩
          simp only [Act.put, List.setIfInBounds_toArray, List.set_cons_zero, List.set_cons_succ]
          refine dR [8] ?_
          refine qS M5 8 32 5 1 #[.slice A0 (oneAt la p).f0.length c0, .slice A1 (oneAt la p).f1.length c1] ?_ AllReadyL.nil
          clear M5
          intro w_ M6
          refine dR [9] ?_
          refine qS M6 9 32 6 0 #[.slice B0 (oneAt lb p).f0.length d0, .slice B1 (oneAt lb p).f1.length d1] ?_ AllReadyL.nil
          clear M6
          intro w_ M7
          refine dDone ?_
          exact hK (g5, g6) _ (Aside0.mk (Mem.perm M7.out (List.Perm.swap _ _ _)))
        exact AllReadyL.nil
      refine qA M2 6 5 32 #[.slice none 0 0, .slice none 0 0] ?_ ?_
      · clear M2
        intro g5 w5 M3
        simp only [Act.put, List.setIfInBounds_toArray, List.set_cons_zero, List.set_cons_succ]
        refine dR [2] ?_
        refine qK 2 9 Tryd.func49 #[.slice A la.length ca, .int .i64 p] ?_ AllReadyL.nil
        refine (HA.out.2 _ M3.out.below).mono ?_
        rintro e W9 ⟨rfl, hb⟩
        have M4 := Aside0.mk (Mem.call M3.out hb)
        clear M3 hb
        refine ⟨_, rfl, M4.out.held HT rfl, ?_⟩
        simp only [Act.put, List.setIfInBounds_toArray, List.set_cons_zero, List.set_cons_succ]
        refine dR [5] ?_
        refine qK 5 12 Tryd.func49 #[.slice B lb.length cb, .int .i64 p] ?_ AllReadyL.nil
        refine (HB.out.2 _ M4.out.below).mono ?_
        rintro e W12 ⟨rfl, hb⟩
        have M5 := Aside0.mk (Mem.call M4.out hb)
        clear M4 hb
        refine ⟨_, rfl, M5.out.held HT rfl, ?_⟩
        simp only [Act.put, List.setIfInBounds_toArray, List.set_cons_zero, List.set_cons_succ]
        refine dR [8] ?_
        refine qS M5 8 32 5 1 #[.slice A0 (oneAt la p).f0.length c0, .slice A1 (oneAt la p).f1.length c1] ?_ AllReadyL.nil
        clear M5
        intro w_ M6
        refine dR [9] ?_
        refine qS M6 9 32 6 0 #[.slice B0 (oneAt lb p).f0.length d0, .slice B1 (oneAt lb p).f1.length d1] ?_ AllReadyL.nil
        clear M6
        intro w_ M7
        refine dDone ?_
        exact hK (g5, g6) _ (Aside0.mk (Mem.perm M7.out (List.Perm.swap _ _ _)))
      exact AllReadyL.nil
    exact AllReadyL.nil
  rintro ⟨g5, g6⟩ W_1 M8
  dsimp only at M8 ⊢
  simp only [putAll, Act.put, List.setIfInBounds_toArray, List.set_cons_zero, List.set_cons_succ]
  obtain ⟨a0, a1, a2, a3⟩ := k32_parts HA.out.1
  obtain ⟨b0, b1, b2, b3⟩ := k32_parts HB.out.1
  have z0 : (oneAt la p).f0.length ≤ 9223372036854775807 := by obtain ⟨_, h, _⟩ := a1; exact h
  have z1 : (oneAt la p).f1.length ≤ 9223372036854775807 := by obtain ⟨_, h, _⟩ := a3; exact h
  have x50 : W_1.cell? ⟨g5, 0, none⟩ = some (.slice A0 (oneAt la p).f0.length c0) := M8.out.cell 0 rfl 0
  have x60 : W_1.cell? ⟨g6, 0, none⟩ = some (.slice B0 (oneAt lb p).f0.length d0) := M8.out.cell 1 rfl 0
  by_cases h0 : (oneAt la p).f0 = (oneAt lb p).f0
  · have E0 := Q.eq_uint32 (oneAt la p).f0 (oneAt lb p).f0 z0
    rw [decide_eq_true h0] at E0
    have E0 := Lib.hid E0
    have H0 := Lib.hid h0
    clear h0
    go_wp2_with fail
    refine (slices_Equal_uint32_uint32.calls ((oneAt la p).f0.length + 1) A0 c0 (oneAt la p).f0 B0 d0 (oneAt lb p).f0 true _ (Kd.C_below a1 M8.out.below) a0 (Kd.C_below b1 M8.out.below) b0 E0.out).mono ?_
    rintro e W17 ⟨rfl, hd⟩
    have M9 := Aside0.mk (Mem.call M8.out (below_dr hd))
    clear hd M8 x50 x60
    have x51 : W17.cell? ⟨g5, 1, none⟩ = some (.slice A1 (oneAt la p).f1.length c1) := M9.out.cell 0 rfl 1
    have x61 : W17.cell? ⟨g6, 1, none⟩ = some (.slice B1 (oneAt lb p).f1.length d1) := M9.out.cell 1 rfl 1
    by_cases h1 : (oneAt la p).f1 = (oneAt lb p).f1
    · skip
      have E1 := Q.eq_int64 (oneAt la p).f1 (oneAt lb p).f1 z1
      rw [decide_eq_true h1] at E1
      have E1 := Lib.hid E1
      have H1 := Lib.hid h1
      clear h1
      go_wp2_with fail
      refine (slices_Equal_int64_int64.calls ((oneAt la p).f1.length + 1) A1 c1 (oneAt la p).f1 B1 d1 (oneAt lb p).f1 true _ (Kd.C_below a3 M9.out.below) a2 (Kd.C_below b3 M9.out.below) b2 E1.out).mono ?_
      rintro e W24 ⟨rfl, hd2⟩
      have HBB := Lib.hid (below_step M9.out.below (below_dr hd2))
      clear hd2 M9 x51 x61
      go_wp2_with fail
      go_ret
      exact ⟨by unfold otherAt; rw [decide_eq_true H0.out, decide_eq_true H1.out]; rfl, HBB.out⟩
    · skip
      have E1 := Q.eq_int64 (oneAt la p).f1 (oneAt lb p).f1 z1
      rw [decide_eq_false h1] at E1
      have E1 := Lib.hid E1
      have H1 := Lib.hid h1
      clear h1
      go_wp2_with fail
      refine (slices_Equal_int64_int64.calls ((oneAt la p).f1.length + 1) A1 c1 (oneAt la p).f1 B1 d1 (oneAt lb p).f1 false _ (Kd.C_below a3 M9.out.below) a2 (Kd.C_below b3 M9.out.below) b2 E1.out).mono ?_
      rintro e W24 ⟨rfl, hd2⟩
      have HBB := Lib.hid (below_step M9.out.below (below_dr hd2))
      clear hd2 M9 x51 x61
      go_wp2_with fail
      go_ret
      exact ⟨by unfold otherAt; rw [decide_eq_true H0.out, decide_eq_false H1.out]; rfl, HBB.out⟩
  · have E0 := Q.eq_uint32 (oneAt la p).f0 (oneAt lb p).f0 z0
    rw [decide_eq_false h0] at E0
    have E0 := Lib.hid E0
    have H0 := Lib.hid h0
    clear h0
    go_wp2_with fail
    refine (slices_Equal_uint32_uint32.calls ((oneAt la p).f0.length + 1) A0 c0 (oneAt la p).f0 B0 d0 (oneAt lb p).f0 false _ (Kd.C_below a1 M8.out.below) a0 (Kd.C_below b1 M8.out.below) b0 E0.out).mono ?_
    rintro e W17 ⟨rfl, hd⟩
    have HBB := Lib.hid (below_step M8.out.below (below_dr hd))
    clear hd M8 x50 x60
    go_wp2_with fail
    go_ret
    exact ⟨by unfold otherAt; rw [decide_eq_false H0.out]; rfl, HBB.out⟩
end Go.Proofs.YtonnlkpmfmknlaaDoor.Hof
end
