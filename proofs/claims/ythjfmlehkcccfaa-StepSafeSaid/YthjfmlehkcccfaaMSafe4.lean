import Derived.Test.YthjfmlehkcccfaaMSafe3
import Derived.Test.YthjfmlehkcccfaaWMore
import Derived.Test.YthjfmlehkcccfaaWEqStruct
import Derived.RegionTactic
import Derived.ChangeAlike
import Derived.Test.YthjfmlehkcccfaaMSafe1
import Derived.Test.YthjfmlehkcccfaaMSafe0
import Derived.Lib.Hide
import Derived.WalkKit
section
/-
  What word.fits comes to.
-/
namespace Go.Proofs.Ythjfmlehkcccfaa.Hfits
open Go.RowKit Go.Proofs.YthjfmlehkcccfaaW.PrintWords Go.Proofs.YthjfmlehkcccfaaW.PrintMore
theorem eqA37 (d : Nat) (w : World) (x0 y0 : Int) (x1 y1 : Int) (x2 y2 : Int) (x3 y3 : Int) (x4 y4 : Int) :
    (Op.equalIn (d + 2) 37 (.agg #[.int .i64 x0, .int .i64 x1, .int .i64 x2, .int .i64 x3, .int .i64 x4]) (.agg #[.int .i64 y0, .int .i64 y1, .int .i64 y2, .int .i64 y3, .int .i64 y4])).run Try.prog w = .ok (x0 == y0 && (x1 == y1 && (x2 == y2 && (x3 == y3 && (x4 == y4))))) w := by
  refine eqA_of Try.underlying37 (by kernel_rfl) ?_
  refine eqf_cons (by rfl) (by go_simp; rfl) (by go_simp; rfl) (by go_simp) ?_
  refine eqf_cons (by rfl) (by go_simp; rfl) (by go_simp; rfl) (by go_simp) ?_
  refine eqf_cons (by rfl) (by go_simp; rfl) (by go_simp; rfl) (by go_simp) ?_
  refine eqf_cons (by rfl) (by go_simp; rfl) (by go_simp; rfl) (by go_simp) ?_
  exact eqf_last (by rfl) (by go_simp; rfl) (by go_simp; rfl) (by go_simp)
attribute [local go_sem high] eqA37

def reg (n : Int) : Bool := decide (0 ≤ n) && decide (n < 16)
def fitsB (a b c m s : Int) : Bool :=
  if s = 0 then a == 0 && (b == 0 && (c == 0 && m == 0))
  else if s = 1 ∨ s = 2 ∨ s = 3 then (decide (¬ s < 2) || b == 0) && ((decide (¬ s < 3) || c == 0) && (reg a && (reg b && (reg c && m == 0))))
  else if s = 4 then a == 0 && (b == 0 && (c == 0 && (reg a && (decide (0 ≤ m) && decide (m < 65536)))))
  else if s = 6 then b == 0 && (c == 0 && (reg a && (decide (-32768 ≤ m) && decide (m < 32768))))
  else b == 0 && (c == 0 && (reg a && (decide (0 ≤ m) && decide (m < 65536))))

set_option maxHeartbeats 1000000 in
set_option maxRecDepth 100000 in
theorem register_calls (n : Int) (w : World) : Calls Try.prog 59 #[.int .i64 n] w fun e w' => e = .returned (.bool (reg n)) ∧ w = w' := by
  by_cases h : 0 ≤ n
  · go_enter Try.func59, Try.ntmps59
    go_wp2
    go_ret
    exact ⟨by simp [reg, h], rfl⟩
  · have hd : reg n = false := by simp [reg]; omega
    have HD := Lib.hid hd
    clear hd
    go_enter Try.func59, Try.ntmps59
    go_wp2
    go_ret
    exact ⟨by rw [HD.out]; rfl, rfl⟩

set_option maxHeartbeats 2000000 in
set_option maxRecDepth 100000 in
theorem fits0 (o a b c m : Int) (w : World) :
    Calls Try.prog 57 #[.agg #[.int .i64 o, .int .i64 a, .int .i64 b, .int .i64 c, .int .i64 m], .int .i64 0] w fun e w' => e = .returned (.bool (a == 0 && (b == 0 && (c == 0 && m == 0)))) ∧ Below w.heap.size w w' := by
  have hu := Try.underlying37
  go_enter Try.func57, Try.ntmps57
  go_wp2_with (first | (go_at_call 59; refine (register_calls _ _).mono ?_; rintro e w' ⟨rfl, rfl⟩))
  all_goals go_ret
  all_goals
    refine ⟨?_, ?_⟩
    · first | rfl | (simp_all; done) | (simp_all; omega)
    · repeat (first | exact Below.refl _ _ | refine Below.alloc ?_ (by simp) _ | refine Below.setCell ?_ (by simp) _ | refine Below.drew ?_)
set_option maxHeartbeats 2000000 in
set_option maxRecDepth 100000 in
theorem fits1 (o a b c m : Int) (w : World) :
    Calls Try.prog 57 #[.agg #[.int .i64 o, .int .i64 a, .int .i64 b, .int .i64 c, .int .i64 m], .int .i64 1] w fun e w' => e = .returned (.bool (b == 0 && (c == 0 && (reg a && (reg b && (reg c && m == 0)))))) ∧ Below w.heap.size w w' := by
  have hu := Try.underlying37
  go_enter Try.func57, Try.ntmps57
  go_wp2_with (first | (go_at_call 59; refine (register_calls _ _).mono ?_; rintro e w' ⟨rfl, rfl⟩))
  all_goals go_ret
  all_goals
    refine ⟨?_, ?_⟩
    · first | rfl | (simp_all; done) | (simp_all; omega)
    · repeat (first | exact Below.refl _ _ | refine Below.alloc ?_ (by simp) _ | refine Below.setCell ?_ (by simp) _ | refine Below.drew ?_)
set_option maxHeartbeats 2000000 in
set_option maxRecDepth 100000 in
theorem fits2 (o a b c m : Int) (w : World) :
    Calls Try.prog 57 #[.agg #[.int .i64 o, .int .i64 a, .int .i64 b, .int .i64 c, .int .i64 m], .int .i64 2] w fun e w' => e = .returned (.bool (c == 0 && (reg a && (reg b && (reg c && m == 0))))) ∧ Below w.heap.size w w' := by
  have hu := Try.underlying37
  go_enter Try.func57, Try.ntmps57
  go_wp2_with (first | (go_at_call 59; refine (register_calls _ _).mono ?_; rintro e w' ⟨rfl, rfl⟩))
  all_goals go_ret
  all_goals
    refine ⟨?_, ?_⟩
    · first | rfl | (simp_all; done) | (simp_all; omega)
    · repeat (first | exact Below.refl _ _ | refine Below.alloc ?_ (by simp) _ | refine Below.setCell ?_ (by simp) _ | refine Below.drew ?_)
set_option maxHeartbeats 2000000 in
set_option maxRecDepth 100000 in
theorem fits3 (o a b c m : Int) (w : World) :
    Calls Try.prog 57 #[.agg #[.int .i64 o, .int .i64 a, .int .i64 b, .int .i64 c, .int .i64 m], .int .i64 3] w fun e w' => e = .returned (.bool (reg a && (reg b && (reg c && m == 0)))) ∧ Below w.heap.size w w' := by
  have hu := Try.underlying37
  go_enter Try.func57, Try.ntmps57
  go_wp2_with (first | (go_at_call 59; refine (register_calls _ _).mono ?_; rintro e w' ⟨rfl, rfl⟩))
  all_goals go_ret
  all_goals
    refine ⟨?_, ?_⟩
    · first | rfl | (simp_all; done) | (simp_all; omega)
    · repeat (first | exact Below.refl _ _ | refine Below.alloc ?_ (by simp) _ | refine Below.setCell ?_ (by simp) _ | refine Below.drew ?_)
set_option maxHeartbeats 2000000 in
set_option maxRecDepth 100000 in
theorem fits4 (o a b c m : Int) (w : World) :
    Calls Try.prog 57 #[.agg #[.int .i64 o, .int .i64 a, .int .i64 b, .int .i64 c, .int .i64 m], .int .i64 4] w fun e w' => e = .returned (.bool (a == 0 && (b == 0 && (c == 0 && (reg a && (decide (0 ≤ m) && decide (m < 65536))))))) ∧ Below w.heap.size w w' := by
  have hu := Try.underlying37
  go_enter Try.func57, Try.ntmps57
  go_wp2_with (first | (go_at_call 59; refine (register_calls _ _).mono ?_; rintro e w' ⟨rfl, rfl⟩))
  all_goals go_ret
  all_goals
    refine ⟨?_, ?_⟩
    · first | rfl | (simp_all; done) | (simp_all; omega)
    · repeat (first | exact Below.refl _ _ | refine Below.alloc ?_ (by simp) _ | refine Below.setCell ?_ (by simp) _ | refine Below.drew ?_)
set_option maxHeartbeats 2000000 in
set_option maxRecDepth 100000 in
theorem fits6 (o a b c m : Int) (w : World) :
    Calls Try.prog 57 #[.agg #[.int .i64 o, .int .i64 a, .int .i64 b, .int .i64 c, .int .i64 m], .int .i64 6] w fun e w' => e = .returned (.bool (b == 0 && (c == 0 && (reg a && (decide (-32768 ≤ m) && decide (m < 32768)))))) ∧ Below w.heap.size w w' := by
  have hu := Try.underlying37
  go_enter Try.func57, Try.ntmps57
  go_wp2_with (first | (go_at_call 59; refine (register_calls _ _).mono ?_; rintro e w' ⟨rfl, rfl⟩))
  go_region
  all_goals go_wp2_with (first | (go_at_call 59; refine (register_calls _ _).mono ?_; rintro e w' ⟨rfl, rfl⟩))
  all_goals go_ret
  all_goals
    refine ⟨?_, ?_⟩
    · first | rfl | (simp_all; done) | (simp_all; omega)
    · repeat (first | exact Below.refl _ _ | refine Below.alloc ?_ (by simp) _ | refine Below.setCell ?_ (by simp) _ | refine Below.drew ?_)
set_option maxHeartbeats 2000000 in
set_option maxRecDepth 100000 in
theorem fitsE (o a b c m s : Int) (h : s ≠ 0 ∧ s ≠ 1 ∧ s ≠ 2 ∧ s ≠ 3 ∧ s ≠ 4 ∧ s ≠ 6) (w : World) :
    Calls Try.prog 57 #[.agg #[.int .i64 o, .int .i64 a, .int .i64 b, .int .i64 c, .int .i64 m], .int .i64 s] w fun e w' => e = .returned (.bool (b == 0 && (c == 0 && (reg a && (decide (0 ≤ m) && decide (m < 65536)))))) ∧ Below w.heap.size w w' := by
  have hu := Try.underlying37
  obtain ⟨h0, h1, h2, h3, h4, h6⟩ := h
  replace h0 : (s == 0) = false := beq_eq_false_iff_ne.2 h0
  replace h1 : (s == 1) = false := beq_eq_false_iff_ne.2 h1
  replace h2 : (s == 2) = false := beq_eq_false_iff_ne.2 h2
  replace h3 : (s == 3) = false := beq_eq_false_iff_ne.2 h3
  replace h4 : (s == 4) = false := beq_eq_false_iff_ne.2 h4
  replace h6 : (s == 6) = false := beq_eq_false_iff_ne.2 h6
  go_enter Try.func57, Try.ntmps57
  go_wp2_with (first | (go_at_call 59; refine (register_calls _ _).mono ?_; rintro e w' ⟨rfl, rfl⟩))
  go_region
  all_goals go_wp2_with (first | (go_at_call 59; refine (register_calls _ _).mono ?_; rintro e w' ⟨rfl, rfl⟩))
  all_goals go_ret
  all_goals
    refine ⟨?_, ?_⟩
    · first | rfl | (simp_all; done) | (simp_all; omega)
    · repeat (first | exact Below.refl _ _ | refine Below.alloc ?_ (by simp) _ | refine Below.setCell ?_ (by simp) _ | refine Below.drew ?_)
end Go.Proofs.Ythjfmlehkcccfaa.Hfits
end

section
-- laid by a program of this session (wip/gp.sh)
namespace Go.Proofs.Ythjfmlehkcccfaa.GA
open Go.RowKit Go.Proofs.YthjfmlehkcccfaaW.PrintWords Go.Proofs.YthjfmlehkcccfaaW.PrintLast Go.Proofs.YthjfmlehkcccfaaW.PrintMore
attribute [local go_sem] max2_int min2_int max_two min_two max_three min_three max_four min_four   -- for this text's walks alone
set_option linter.unusedVariables false
set_option linter.unusedSimpArgs false

/-! ### word_fits: function 57 (its contract: by hand) -/
-- NEEDS Derived.Test.YthjfmlehkcccfaaHfits
-- its type: def word_fits.f (a0_0 : Int) (a0_1 : Int) (a0_2 : Int) (a0_3 : Int) (a0_4 : Int) (a1 : Int) : Option (Bool)
def word_fits.f (a0_0 : Int) (a0_1 : Int) (a0_2 : Int) (a0_3 : Int) (a0_4 : Int) (a1 : Int) : Option (Bool) := some (Hfits.fitsB a0_1 a0_2 a0_3 a0_4 a1)
set_option maxHeartbeats 8000000 in
set_option maxRecDepth 100000 in
theorem word_fits.calls (a0_0 : Int) (a0_1 : Int) (a0_2 : Int) (a0_3 : Int) (a0_4 : Int) (a1 : Int) (r : Bool) (w : World) (h : word_fits.f a0_0 a0_1 a0_2 a0_3 a0_4 a1 = some r) :
    Calls Try.prog 57 #[.agg #[.int .i64 a0_0, .int .i64 a0_1, .int .i64 a0_2, .int .i64 a0_3, .int .i64 a0_4], .int .i64 a1] w fun e w' => e = .returned (.bool r) ∧ Below w.heap.size w w' := by
  obtain rfl := Option.some.inj h
  by_cases h0 : a1 = 0
  · subst h0; exact Hfits.fits0 a0_0 a0_1 a0_2 a0_3 a0_4 w
  by_cases h1 : a1 = 1
  · subst h1; exact (Hfits.fits1 a0_0 a0_1 a0_2 a0_3 a0_4 w)
  by_cases h2 : a1 = 2
  · subst h2; exact (Hfits.fits2 a0_0 a0_1 a0_2 a0_3 a0_4 w)
  by_cases h3 : a1 = 3
  · subst h3; exact (Hfits.fits3 a0_0 a0_1 a0_2 a0_3 a0_4 w)
  by_cases h4 : a1 = 4
  · subst h4; exact (Hfits.fits4 a0_0 a0_1 a0_2 a0_3 a0_4 w)
  by_cases h6 : a1 = 6
  · subst h6; exact (Hfits.fits6 a0_0 a0_1 a0_2 a0_3 a0_4 w)
  have e : Hfits.fitsB a0_1 a0_2 a0_3 a0_4 a1 = (a0_2 == 0 && (a0_3 == 0 && (Hfits.reg a0_1 && (decide (0 ≤ a0_4) && decide (a0_4 < 65536))))) := by
    unfold Hfits.fitsB
    rw [if_neg h0, if_neg (by omega), if_neg h4, if_neg h6]
  rw [e]
  exact Hfits.fitsE a0_0 a0_1 a0_2 a0_3 a0_4 a1 ⟨h0, h1, h2, h3, h4, h6⟩ w

end Go.Proofs.Ythjfmlehkcccfaa.GA
end

section
/-
  The program's Decode, walked.
-/
set_option linter.unusedVariables false
set_option linter.unusedSimpArgs false
namespace Go.Proofs.Ythjfmlehkcccfaa.GA
open Go.RowKit Go.Proofs.YthjfmlehkcccfaaW.PrintWords Go.Proofs.YthjfmlehkcccfaaW.PrintLast Go.Proofs.YthjfmlehkcccfaaW.PrintMore Hctx

def word_Decode.f (a0 : Int) : Option (Int × Int × Int × Int × Int × Int) := (word_find.f (wrap64 (a0 / 16777216))).bind fun bt103 => (if bt103.2.2.2.2.2 = 0 then (if bt103.2.1 = 6 then ((word_fits.f (wrap64 (a0 / 16777216)) (wrap64 (Go.bits .and .u32 (a0 / 1048576) 15)) (wrap64 (Go.bits .and .u32 (a0 / 65536) 15)) 0 (wrap64 (IntKind.i16.wrap (a0))) bt103.2.1).bind fun t110 => (if t110 = true then (some (wrap64 (a0 / 16777216), wrap64 (Go.bits .and .u32 (a0 / 1048576) 15), wrap64 (Go.bits .and .u32 (a0 / 65536) 15), 0, wrap64 (IntKind.i16.wrap (a0)), 0)) else (some (0, 0, 0, 0, 0, 61)))) else (if bt103.2.1 = 3 then ((word_fits.f (wrap64 (a0 / 16777216)) (wrap64 (Go.bits .and .u32 (a0 / 1048576) 15)) (wrap64 (Go.bits .and .u32 (a0 / 65536) 15)) (wrap64 (Go.bits .and .u32 a0 15)) (wrap64 (Go.bits .and .u32 a0 65520)) bt103.2.1).bind fun t111 => (if t111 = true then (some (wrap64 (a0 / 16777216), wrap64 (Go.bits .and .u32 (a0 / 1048576) 15), wrap64 (Go.bits .and .u32 (a0 / 65536) 15), wrap64 (Go.bits .and .u32 a0 15), wrap64 (Go.bits .and .u32 a0 65520), 0)) else (some (0, 0, 0, 0, 0, 61)))) else ((word_fits.f (wrap64 (a0 / 16777216)) (wrap64 (Go.bits .and .u32 (a0 / 1048576) 15)) (wrap64 (Go.bits .and .u32 (a0 / 65536) 15)) 0 (wrap64 (Go.bits .and .u32 a0 65535)) bt103.2.1).bind fun t112 => (if t112 = true then (some (wrap64 (a0 / 16777216), wrap64 (Go.bits .and .u32 (a0 / 1048576) 15), wrap64 (Go.bits .and .u32 (a0 / 65536) 15), 0, wrap64 (Go.bits .and .u32 a0 65535), 0)) else (some (0, 0, 0, 0, 0, 61)))))) else (some (0, 0, 0, 0, 0, bt103.2.2.2.2.2)))
set_option maxHeartbeats 2000000 in
set_option maxRecDepth 100000 in
theorem word_Decode.calls (a0 : Int) (r1 : Int) (r2 : Int) (r3 : Int) (r4 : Int) (r5 : Int) (r6 : Int) (w : World) (h : word_Decode.f a0 = some (r1, r2, r3, r4, r5, r6)) :
    Calls Try.prog 48 #[.int .u32 a0] w fun e w' => e = .returned (.tuple #[.agg #[.int .i64 r1, .int .i64 r2, .int .i64 r3, .int .i64 r4, .int .i64 r5], .int .i64 r6]) ∧ Below w.heap.size w w' := by
  have hu37 := Try.underlying37
  unfold word_Decode.f at h
  obtain ⟨⟨t103, t104, t105, t106, t107, t108⟩, hA, h⟩ := Option.bind_eq_some_iff.mp h
  dsimp only at h
  have HA := Lib.hid hA
  clear hA
  have H := Lib.hid h
  clear h
  have M0 := Aside0.mk (Mem.start [3] w)
  go_enter Try.func48, Try.ntmps48
  go_wp2_with (first
      | (refine eB M0 2 #[.int .i64 0, .int .i64 0, .int .i64 0, .int .i64 0, .int .i64 0] 37 ?_; clear M0; intro g2 w2 M1)
      | (refine eB M1 4 #[.int .i64 0, .int .i64 0, .int .i64 0, .int .i64 0, .int .i64 0] 37 ?_; clear M1; intro g4 w4 M2)
      | (refine eR M2 37 4 1 #[_, _, _, .int .i64 0, .int .i64 0] ?_; clear M2; intro w_ M3)
      | (refine eC M3 21 1 0 (_) ?_))
  refine (word_find.calls _ _ _ _ _ _ _ _ HA.out).mono ?_
  rintro e W22 ⟨rfl, hb⟩
  have M4 := Aside0.mk (Mem.call M3.out hb)
  clear M3 hb
  by_cases bA : t108 = 0
  · have h := H.out
    clear H
    rw [if_pos bA] at h
    have H := Lib.hid h
    clear h
    have e1 : (t108 != 0) = false := bne_eq_false_iff_eq.mpr bA
    clear bA
    by_cases bB : t104 = 6
    · have h := H.out
      clear H
      rw [if_pos bB] at h
      have H := Lib.hid h
      clear h
      have h := H.out
      clear H
      obtain ⟨tf, hB, h⟩ := Option.bind_eq_some_iff.mp h
      have HB := Lib.hid hB
      clear hB
      have H := Lib.hid h
      clear h
      have e2 : (t104 == 6) = true := beq_iff_eq.mpr bB
      clear bB
      go_wp2_with (first
          | (refine eB M4 5 #[.string ⟨#[]⟩, .int .i64 0, .int .i64 0, .string ⟨#[]⟩, .string ⟨#[]⟩] 102 ?_; clear M4; intro g5 w5 M5)
          | (refine eR M5 102 5 2 #[.string t103, .int .i64 t104, .int .i64 t105, .string t106, .string t107] ?_; clear M5; intro w_ M6)
          | (refine eC M6 30 2 1 (.int .i64 t104) ?_)
          | (refine eS M6 3 40 1 4 (_) #[_, _, _, .int .i64 0, _] ?_; clear M6; intro w_ M7)
          | (refine eL M7 51 1 hu37 ?_)
          | (refine eC M7 53 2 1 (.int .i64 t104) ?_))
      refine (word_fits.calls _ _ _ _ _ _ _ _ HB.out).mono ?_
      rintro e W54 ⟨rfl, hb⟩
      have M8 := Aside0.mk (Mem.call M7.out hb)
      clear M7 hb
      by_cases bD : tf = true
      · subst bD
        have h := H.out
        clear H
        rw [if_pos rfl] at h
        have H := Lib.hid h
        clear h
        go_wp2_with (first
            | (refine eL M8 57 1 hu37 ?_)
            | (refine eR M8 37 2 0 #[_, _, _, .int .i64 0, _] ?_; clear M8; intro w_ M9))
        have h := H.out
        clear H
        simp only [Option.some.injEq, Prod.mk.injEq] at h
        obtain ⟨rfl, rfl, rfl, rfl, rfl, rfl⟩ := h
        exact bodyPost_ret (results_ct rfl _ _ g2 37 _ (0, 0) _ rfl (M9.out.at 0 rfl) Try.underlying37 rfl (by kernel_rfl)) rfl ⟨rfl, M9.out.below⟩
      · replace bD := Bool.eq_false_iff.mpr bD
        subst bD
        have h := H.out
        clear H
        rw [if_neg (by decide)] at h
        have H := Lib.hid h
        clear h
        go_wp2_with (first
            | (refine eR M8 37 2 0 #[.int .i64 0, .int .i64 0, .int .i64 0, .int .i64 0, .int .i64 0] ?_; clear M8; intro w_ M9))
        have h := H.out
        clear H
        simp only [Option.some.injEq, Prod.mk.injEq] at h
        obtain ⟨rfl, rfl, rfl, rfl, rfl, rfl⟩ := h
        exact bodyPost_ret (results_ct rfl _ _ g2 37 _ (0, 0) _ rfl (M9.out.at 0 rfl) Try.underlying37 rfl (by kernel_rfl)) rfl ⟨rfl, M9.out.below⟩
    · have h := H.out
      clear H
      rw [if_neg bB] at h
      have H := Lib.hid h
      clear h
      have e2 : (t104 == 6) = false := beq_eq_false_iff_ne.mpr bB
      clear bB
      by_cases bC : t104 = 3
      · have h := H.out
        clear H
        rw [if_pos bC] at h
        have H := Lib.hid h
        clear h
        have h := H.out
        clear H
        obtain ⟨tf, hB, h⟩ := Option.bind_eq_some_iff.mp h
        have HB := Lib.hid hB
        clear hB
        have H := Lib.hid h
        clear h
        have e3 : (t104 == 3) = true := beq_iff_eq.mpr bC
        clear bC
        go_wp2_with (first
            | (refine eB M4 5 #[.string ⟨#[]⟩, .int .i64 0, .int .i64 0, .string ⟨#[]⟩, .string ⟨#[]⟩] 102 ?_; clear M4; intro g5 w5 M5)
            | (refine eR M5 102 5 2 #[.string t103, .int .i64 t104, .int .i64 t105, .string t106, .string t107] ?_; clear M5; intro w_ M6)
            | (refine eC M6 30 2 1 (.int .i64 t104) ?_)
            | (refine eS M6 3 49 1 3 (_) #[_, _, _, _, .int .i64 0] ?_; clear M6; intro w_ M7)
            | (refine eS M7 3 50 1 4 (_) #[_, _, _, _, _] ?_; clear M7; intro w_ M8)
            | (refine eL M8 51 1 hu37 ?_)
            | (refine eC M8 53 2 1 (.int .i64 t104) ?_))
        refine (word_fits.calls _ _ _ _ _ _ _ _ HB.out).mono ?_
        rintro e W54 ⟨rfl, hb⟩
        have M9 := Aside0.mk (Mem.call M8.out hb)
        clear M8 hb
        by_cases bD : tf = true
        · subst bD
          have h := H.out
          clear H
          rw [if_pos rfl] at h
          have H := Lib.hid h
          clear h
          go_wp2_with (first
              | (refine eL M9 57 1 hu37 ?_)
              | (refine eR M9 37 2 0 #[_, _, _, _, _] ?_; clear M9; intro w_ M10))
          have h := H.out
          clear H
          simp only [Option.some.injEq, Prod.mk.injEq] at h
          obtain ⟨rfl, rfl, rfl, rfl, rfl, rfl⟩ := h
          exact bodyPost_ret (results_ct rfl _ _ g2 37 _ (0, 0) _ rfl (M10.out.at 0 rfl) Try.underlying37 rfl (by kernel_rfl)) rfl ⟨rfl, M10.out.below⟩
        · replace bD := Bool.eq_false_iff.mpr bD
          subst bD
          have h := H.out
          clear H
          rw [if_neg (by decide)] at h
          have H := Lib.hid h
          clear h
          go_wp2_with (first
              | (refine eR M9 37 2 0 #[.int .i64 0, .int .i64 0, .int .i64 0, .int .i64 0, .int .i64 0] ?_; clear M9; intro w_ M10))
          have h := H.out
          clear H
          simp only [Option.some.injEq, Prod.mk.injEq] at h
          obtain ⟨rfl, rfl, rfl, rfl, rfl, rfl⟩ := h
          exact bodyPost_ret (results_ct rfl _ _ g2 37 _ (0, 0) _ rfl (M10.out.at 0 rfl) Try.underlying37 rfl (by kernel_rfl)) rfl ⟨rfl, M10.out.below⟩
      · have h := H.out
        clear H
        rw [if_neg bC] at h
        have H := Lib.hid h
        clear h
        have h := H.out
        clear H
        obtain ⟨tf, hB, h⟩ := Option.bind_eq_some_iff.mp h
        have HB := Lib.hid hB
        clear hB
        have H := Lib.hid h
        clear h
        have e3 : (t104 == 3) = false := beq_eq_false_iff_ne.mpr bC
        clear bC
        go_wp2_with (first
            | (refine eB M4 5 #[.string ⟨#[]⟩, .int .i64 0, .int .i64 0, .string ⟨#[]⟩, .string ⟨#[]⟩] 102 ?_; clear M4; intro g5 w5 M5)
            | (refine eR M5 102 5 2 #[.string t103, .int .i64 t104, .int .i64 t105, .string t106, .string t107] ?_; clear M5; intro w_ M6)
            | (refine eC M6 30 2 1 (.int .i64 t104) ?_)
            | (refine eS M6 3 34 1 4 (_) #[_, _, _, .int .i64 0, _] ?_; clear M6; intro w_ M7)
            | (refine eL M7 51 1 hu37 ?_)
            | (refine eC M7 53 2 1 (.int .i64 t104) ?_))
        refine (word_fits.calls _ _ _ _ _ _ _ _ HB.out).mono ?_
        rintro e W54 ⟨rfl, hb⟩
        have M8 := Aside0.mk (Mem.call M7.out hb)
        clear M7 hb
        by_cases bD : tf = true
        · subst bD
          have h := H.out
          clear H
          rw [if_pos rfl] at h
          have H := Lib.hid h
          clear h
          go_wp2_with (first
              | (refine eL M8 57 1 hu37 ?_)
              | (refine eR M8 37 2 0 #[_, _, _, .int .i64 0, _] ?_; clear M8; intro w_ M9))
          have h := H.out
          clear H
          simp only [Option.some.injEq, Prod.mk.injEq] at h
          obtain ⟨rfl, rfl, rfl, rfl, rfl, rfl⟩ := h
          exact bodyPost_ret (results_ct rfl _ _ g2 37 _ (0, 0) _ rfl (M9.out.at 0 rfl) Try.underlying37 rfl (by kernel_rfl)) rfl ⟨rfl, M9.out.below⟩
        · replace bD := Bool.eq_false_iff.mpr bD
          subst bD
          have h := H.out
          clear H
          rw [if_neg (by decide)] at h
          have H := Lib.hid h
          clear h
          go_wp2_with (first
              | (refine eR M8 37 2 0 #[.int .i64 0, .int .i64 0, .int .i64 0, .int .i64 0, .int .i64 0] ?_; clear M8; intro w_ M9))
          have h := H.out
          clear H
          simp only [Option.some.injEq, Prod.mk.injEq] at h
          obtain ⟨rfl, rfl, rfl, rfl, rfl, rfl⟩ := h
          exact bodyPost_ret (results_ct rfl _ _ g2 37 _ (0, 0) _ rfl (M9.out.at 0 rfl) Try.underlying37 rfl (by kernel_rfl)) rfl ⟨rfl, M9.out.below⟩
  · have h := H.out
    clear H
    rw [if_neg bA] at h
    have H := Lib.hid h
    clear h
    have e1 : (t108 != 0) = true := bne_iff_ne.mpr bA
    clear bA
    go_wp2_with (first
        | (refine eB M4 5 #[.string ⟨#[]⟩, .int .i64 0, .int .i64 0, .string ⟨#[]⟩, .string ⟨#[]⟩] 102 ?_; clear M4; intro g5 w5 M5)
        | (refine eR M5 102 5 2 #[.string t103, .int .i64 t104, .int .i64 t105, .string t106, .string t107] ?_; clear M5; intro w_ M6)
        | (refine eR M6 37 2 0 #[.int .i64 0, .int .i64 0, .int .i64 0, .int .i64 0, .int .i64 0] ?_; clear M6; intro w_ M7))
    have h := H.out
    clear H
    simp only [Option.some.injEq, Prod.mk.injEq] at h
    obtain ⟨rfl, rfl, rfl, rfl, rfl, rfl⟩ := h
    exact bodyPost_ret (results_ct rfl _ _ g2 37 _ (0, 0) _ rfl (M7.out.at 0 rfl) Try.underlying37 rfl (by kernel_rfl)) rfl ⟨rfl, M7.out.below⟩

end Go.Proofs.Ythjfmlehkcccfaa.GA
end
