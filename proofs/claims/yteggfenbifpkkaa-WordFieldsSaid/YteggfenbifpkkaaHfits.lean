/-
  What word.fits comes to.
-/
import Derived.Test.YteggfenbifpkkaaHfind
import Derived.Test.YteggfenbifpkkaaWMore
import Derived.Test.YteggfenbifpkkaaWEqStruct
import Derived.RegionTactic
import Derived.ChangeAlike
namespace Go.Proofs.Yteggfenbifpkkaa.Hfits
open Go.RowKit Go.Proofs.YteggfenbifpkkaaW.PrintWords Go.Proofs.YteggfenbifpkkaaW.PrintMore
theorem eqA28 (d : Nat) (w : World) (x0 y0 : Int) (x1 y1 : Int) (x2 y2 : Int) (x3 y3 : Int) (x4 y4 : Int) :
    (Op.equalIn (d + 2) 28 (.agg #[.int .i64 x0, .int .i64 x1, .int .i64 x2, .int .i64 x3, .int .i64 x4]) (.agg #[.int .i64 y0, .int .i64 y1, .int .i64 y2, .int .i64 y3, .int .i64 y4])).run Try.prog w = .ok (x0 == y0 && (x1 == y1 && (x2 == y2 && (x3 == y3 && (x4 == y4))))) w := by
  refine eqA_of Try.underlying28 (by kernel_rfl) ?_
  refine eqf_cons (by rfl) (by go_simp; rfl) (by go_simp; rfl) (by go_simp) ?_
  refine eqf_cons (by rfl) (by go_simp; rfl) (by go_simp; rfl) (by go_simp) ?_
  refine eqf_cons (by rfl) (by go_simp; rfl) (by go_simp; rfl) (by go_simp) ?_
  refine eqf_cons (by rfl) (by go_simp; rfl) (by go_simp; rfl) (by go_simp) ?_
  exact eqf_last (by rfl) (by go_simp; rfl) (by go_simp; rfl) (by go_simp)
attribute [local go_sem high] eqA28

def reg (n : Int) : Bool := decide (0 ≤ n) && decide (n < 16)
def fitsB (a b c m s : Int) : Bool :=
  if s = 0 then a == 0 && (b == 0 && (c == 0 && m == 0))
  else if s = 1 ∨ s = 2 ∨ s = 3 then (decide (¬ s < 2) || b == 0) && ((decide (¬ s < 3) || c == 0) && (reg a && (reg b && (reg c && m == 0))))
  else if s = 4 then a == 0 && (b == 0 && (c == 0 && (reg a && (decide (0 ≤ m) && decide (m < 65536)))))
  else if s = 6 then b == 0 && (c == 0 && (reg a && (decide (-32768 ≤ m) && decide (m < 32768))))
  else b == 0 && (c == 0 && (reg a && (decide (0 ≤ m) && decide (m < 65536))))

set_option maxHeartbeats 1000000 in
set_option maxRecDepth 100000 in
theorem register_calls (n : Int) (w : World) : Calls Try.prog 39 #[.int .i64 n] w fun e w' => e = .returned (.bool (reg n)) ∧ w = w' := by
  by_cases h : 0 ≤ n
  · go_enter Try.func39, Try.ntmps39
    go_wp2
    go_ret
    exact ⟨by simp [reg, h], rfl⟩
  · have hd : reg n = false := by simp [reg]; omega
    have HD := Lib.hid hd
    clear hd
    go_enter Try.func39, Try.ntmps39
    go_wp2
    go_ret
    exact ⟨by rw [HD.out]; rfl, rfl⟩

set_option maxHeartbeats 2000000 in
set_option maxRecDepth 100000 in
theorem fits0 (o a b c m : Int) (w : World) :
    Calls Try.prog 32 #[.agg #[.int .i64 o, .int .i64 a, .int .i64 b, .int .i64 c, .int .i64 m], .int .i64 0] w fun e w' => e = .returned (.bool (a == 0 && (b == 0 && (c == 0 && m == 0)))) ∧ Below w.heap.size w w' := by
  have hu := Try.underlying28
  go_enter Try.func32, Try.ntmps32
  go_wp2_with (first | (go_at_call 39; refine (register_calls _ _).mono ?_; rintro e w' ⟨rfl, rfl⟩))
  all_goals go_ret
  all_goals
    refine ⟨?_, ?_⟩
    · first | rfl | (simp_all; done) | (simp_all; omega)
    · repeat (first | exact Below.refl _ _ | refine Below.alloc ?_ (by simp) _ | refine Below.setCell ?_ (by simp) _ | refine Below.drew ?_)
set_option maxHeartbeats 2000000 in
set_option maxRecDepth 100000 in
theorem fits1 (o a b c m : Int) (w : World) :
    Calls Try.prog 32 #[.agg #[.int .i64 o, .int .i64 a, .int .i64 b, .int .i64 c, .int .i64 m], .int .i64 1] w fun e w' => e = .returned (.bool (b == 0 && (c == 0 && (reg a && (reg b && (reg c && m == 0)))))) ∧ Below w.heap.size w w' := by
  have hu := Try.underlying28
  go_enter Try.func32, Try.ntmps32
  go_wp2_with (first | (go_at_call 39; refine (register_calls _ _).mono ?_; rintro e w' ⟨rfl, rfl⟩))
  all_goals go_ret
  all_goals
    refine ⟨?_, ?_⟩
    · first | rfl | (simp_all; done) | (simp_all; omega)
    · repeat (first | exact Below.refl _ _ | refine Below.alloc ?_ (by simp) _ | refine Below.setCell ?_ (by simp) _ | refine Below.drew ?_)
set_option maxHeartbeats 2000000 in
set_option maxRecDepth 100000 in
theorem fits2 (o a b c m : Int) (w : World) :
    Calls Try.prog 32 #[.agg #[.int .i64 o, .int .i64 a, .int .i64 b, .int .i64 c, .int .i64 m], .int .i64 2] w fun e w' => e = .returned (.bool (c == 0 && (reg a && (reg b && (reg c && m == 0))))) ∧ Below w.heap.size w w' := by
  have hu := Try.underlying28
  go_enter Try.func32, Try.ntmps32
  go_wp2_with (first | (go_at_call 39; refine (register_calls _ _).mono ?_; rintro e w' ⟨rfl, rfl⟩))
  all_goals go_ret
  all_goals
    refine ⟨?_, ?_⟩
    · first | rfl | (simp_all; done) | (simp_all; omega)
    · repeat (first | exact Below.refl _ _ | refine Below.alloc ?_ (by simp) _ | refine Below.setCell ?_ (by simp) _ | refine Below.drew ?_)
set_option maxHeartbeats 2000000 in
set_option maxRecDepth 100000 in
theorem fits3 (o a b c m : Int) (w : World) :
    Calls Try.prog 32 #[.agg #[.int .i64 o, .int .i64 a, .int .i64 b, .int .i64 c, .int .i64 m], .int .i64 3] w fun e w' => e = .returned (.bool (reg a && (reg b && (reg c && m == 0)))) ∧ Below w.heap.size w w' := by
  have hu := Try.underlying28
  go_enter Try.func32, Try.ntmps32
  go_wp2_with (first | (go_at_call 39; refine (register_calls _ _).mono ?_; rintro e w' ⟨rfl, rfl⟩))
  all_goals go_ret
  all_goals
    refine ⟨?_, ?_⟩
    · first | rfl | (simp_all; done) | (simp_all; omega)
    · repeat (first | exact Below.refl _ _ | refine Below.alloc ?_ (by simp) _ | refine Below.setCell ?_ (by simp) _ | refine Below.drew ?_)
set_option maxHeartbeats 2000000 in
set_option maxRecDepth 100000 in
theorem fits4 (o a b c m : Int) (w : World) :
    Calls Try.prog 32 #[.agg #[.int .i64 o, .int .i64 a, .int .i64 b, .int .i64 c, .int .i64 m], .int .i64 4] w fun e w' => e = .returned (.bool (a == 0 && (b == 0 && (c == 0 && (reg a && (decide (0 ≤ m) && decide (m < 65536))))))) ∧ Below w.heap.size w w' := by
  have hu := Try.underlying28
  go_enter Try.func32, Try.ntmps32
  go_wp2_with (first | (go_at_call 39; refine (register_calls _ _).mono ?_; rintro e w' ⟨rfl, rfl⟩))
  all_goals go_ret
  all_goals
    refine ⟨?_, ?_⟩
    · first | rfl | (simp_all; done) | (simp_all; omega)
    · repeat (first | exact Below.refl _ _ | refine Below.alloc ?_ (by simp) _ | refine Below.setCell ?_ (by simp) _ | refine Below.drew ?_)
set_option maxHeartbeats 2000000 in
set_option maxRecDepth 100000 in
theorem fits6 (o a b c m : Int) (w : World) :
    Calls Try.prog 32 #[.agg #[.int .i64 o, .int .i64 a, .int .i64 b, .int .i64 c, .int .i64 m], .int .i64 6] w fun e w' => e = .returned (.bool (b == 0 && (c == 0 && (reg a && (decide (-32768 ≤ m) && decide (m < 32768)))))) ∧ Below w.heap.size w w' := by
  have hu := Try.underlying28
  go_enter Try.func32, Try.ntmps32
  go_wp2_with (first | (go_at_call 39; refine (register_calls _ _).mono ?_; rintro e w' ⟨rfl, rfl⟩))
  go_region
  all_goals go_wp2_with (first | (go_at_call 39; refine (register_calls _ _).mono ?_; rintro e w' ⟨rfl, rfl⟩))
  all_goals go_ret
  all_goals
    refine ⟨?_, ?_⟩
    · first | rfl | (simp_all; done) | (simp_all; omega)
    · repeat (first | exact Below.refl _ _ | refine Below.alloc ?_ (by simp) _ | refine Below.setCell ?_ (by simp) _ | refine Below.drew ?_)
set_option maxHeartbeats 2000000 in
set_option maxRecDepth 100000 in
theorem fitsE (o a b c m s : Int) (h : s ≠ 0 ∧ s ≠ 1 ∧ s ≠ 2 ∧ s ≠ 3 ∧ s ≠ 4 ∧ s ≠ 6) (w : World) :
    Calls Try.prog 32 #[.agg #[.int .i64 o, .int .i64 a, .int .i64 b, .int .i64 c, .int .i64 m], .int .i64 s] w fun e w' => e = .returned (.bool (b == 0 && (c == 0 && (reg a && (decide (0 ≤ m) && decide (m < 65536)))))) ∧ Below w.heap.size w w' := by
  have hu := Try.underlying28
  obtain ⟨h0, h1, h2, h3, h4, h6⟩ := h
  replace h0 : (s == 0) = false := beq_eq_false_iff_ne.2 h0
  replace h1 : (s == 1) = false := beq_eq_false_iff_ne.2 h1
  replace h2 : (s == 2) = false := beq_eq_false_iff_ne.2 h2
  replace h3 : (s == 3) = false := beq_eq_false_iff_ne.2 h3
  replace h4 : (s == 4) = false := beq_eq_false_iff_ne.2 h4
  replace h6 : (s == 6) = false := beq_eq_false_iff_ne.2 h6
  go_enter Try.func32, Try.ntmps32
  go_wp2_with (first | (go_at_call 39; refine (register_calls _ _).mono ?_; rintro e w' ⟨rfl, rfl⟩))
  go_region
  all_goals go_wp2_with (first | (go_at_call 39; refine (register_calls _ _).mono ?_; rintro e w' ⟨rfl, rfl⟩))
  all_goals go_ret
  all_goals
    refine ⟨?_, ?_⟩
    · first | rfl | (simp_all; done) | (simp_all; omega)
    · repeat (first | exact Below.refl _ _ | refine Below.alloc ?_ (by simp) _ | refine Below.setCell ?_ (by simp) _ | refine Below.drew ?_)
end Go.Proofs.Yteggfenbifpkkaa.Hfits
