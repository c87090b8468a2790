import Derived.Test.YtdbpglhdicmhhaaGreatDoorMBk12
import Derived.Test.YtdbpglhdicmhhaaGreatDoorMBk2
import Derived.Test.YtdbpglhdicmhhaaGreatDoorMBk3
import Derived.RegionTactic
import Derived.ChangeAlike
import Derived.Test.YtdbpglhdicmhhaaGreatDoorMBk4
set_option linter.unusedVariables false
set_option linter.unusedSimpArgs false
section
namespace Go.Proofs.YtdbpglhdicmhhaaGreatDoor.Hfits
open Go.RowKit Go.Proofs.YtdbpglhdicmhhaaGreatDoorW.PrintWords Go.Proofs.YtdbpglhdicmhhaaGreatDoorW.PrintMore
def reg (n : Int) : Bool:=decide (0 ≤ n) && decide (n < 16)
def fitsB (a b c m s : Int) : Bool :=
 if s = 0 then a == 0 && (b == 0 && (c == 0 && m == 0))
 else if s = 1 ∨ s = 2 ∨ s = 3 then (decide (¬ s < 2) || b == 0) && ((decide (¬ s < 3) || c == 0) && (reg a && (reg b && (reg c && m == 0))))
 else if s = 4 then a == 0 && (b == 0 && (c == 0 && (reg a && (decide (0 ≤ m) && decide (m < 65536)))))
 else if s = 6 then b == 0 && (c == 0 && (reg a && (decide (-32768 ≤ m) && decide (m < 32768))))
 else b == 0 && (c == 0 && (reg a && (decide (0 ≤ m) && decide (m < 65536))))
set_option maxHeartbeats 1000000 in
set_option maxRecDepth 100000 in
theorem register_calls (n : Int) (w : World) : Calls Tryz.prog 105 #[.int .i64 n] w fun e w' => e = .returned (.bool (reg n)) ∧ w = w':=by
 by_cases h : 0 ≤ n
 ·go_enter Tryz.func105,Tryz.ntmps105
  go_wp2
  go_ret
  exact ⟨by simp [reg,h],rfl⟩
 ·have hd : reg n = false:=by simp [reg]; omega
  have HD:=Lib.hid hd
  clear hd
  go_enter Tryz.func105,Tryz.ntmps105
  go_wp2
  go_ret
  exact ⟨by rw [HD.out]; rfl,rfl⟩
set_option maxHeartbeats 2000000 in
set_option maxRecDepth 100000 in
theorem fits0 (o a b c m : Int) (w : World) :
  Calls Tryz.prog 81 #[.agg #[.int .i64 o,.int .i64 a,.int .i64 b,.int .i64 c,.int .i64 m],.int .i64 0] w fun e w' => e = .returned (.bool (a == 0 && (b == 0 && (c == 0 && m == 0)))) ∧ Below w.heap.size w w':=by
 have hu:=Tryz.underlying70
 go_enter Tryz.func81,Tryz.ntmps81
 go_wp2_with (first | (go_at_call 105; refine (register_calls _ _).mono ?_; rintro e w' ⟨rfl,rfl⟩))
 all_goals go_ret
 all_goals
  refine ⟨?_,?_⟩
  ·first | rfl | (simp_all; done) | (simp_all; omega)
  ·repeat (first | exact Below.refl _ _ | refine Below.alloc ?_ (by simp) _ | refine Below.setCell ?_ (by simp) _ | refine Below.drew ?_)
set_option maxHeartbeats 2000000 in
set_option maxRecDepth 100000 in
theorem fits1 (o a b c m : Int) (w : World) :
  Calls Tryz.prog 81 #[.agg #[.int .i64 o,.int .i64 a,.int .i64 b,.int .i64 c,.int .i64 m],.int .i64 1] w fun e w' => e = .returned (.bool (b == 0 && (c == 0 && (reg a && (reg b && (reg c && m == 0)))))) ∧ Below w.heap.size w w':=by
 have hu:=Tryz.underlying70
 go_enter Tryz.func81,Tryz.ntmps81
 go_wp2_with (first | (go_at_call 105; refine (register_calls _ _).mono ?_; rintro e w' ⟨rfl,rfl⟩))
 all_goals go_ret
 all_goals
  refine ⟨?_,?_⟩
  ·first | rfl | (simp_all; done) | (simp_all; omega)
  ·repeat (first | exact Below.refl _ _ | refine Below.alloc ?_ (by simp) _ | refine Below.setCell ?_ (by simp) _ | refine Below.drew ?_)
set_option maxHeartbeats 2000000 in
set_option maxRecDepth 100000 in
theorem fits2 (o a b c m : Int) (w : World) :
  Calls Tryz.prog 81 #[.agg #[.int .i64 o,.int .i64 a,.int .i64 b,.int .i64 c,.int .i64 m],.int .i64 2] w fun e w' => e = .returned (.bool (c == 0 && (reg a && (reg b && (reg c && m == 0))))) ∧ Below w.heap.size w w':=by
 have hu:=Tryz.underlying70
 go_enter Tryz.func81,Tryz.ntmps81
 go_wp2_with (first | (go_at_call 105; refine (register_calls _ _).mono ?_; rintro e w' ⟨rfl,rfl⟩))
 all_goals go_ret
 all_goals
  refine ⟨?_,?_⟩
  ·first | rfl | (simp_all; done) | (simp_all; omega)
  ·repeat (first | exact Below.refl _ _ | refine Below.alloc ?_ (by simp) _ | refine Below.setCell ?_ (by simp) _ | refine Below.drew ?_)
set_option maxHeartbeats 2000000 in
set_option maxRecDepth 100000 in
theorem fits3 (o a b c m : Int) (w : World) :
  Calls Tryz.prog 81 #[.agg #[.int .i64 o,.int .i64 a,.int .i64 b,.int .i64 c,.int .i64 m],.int .i64 3] w fun e w' => e = .returned (.bool (reg a && (reg b && (reg c && m == 0)))) ∧ Below w.heap.size w w':=by
 have hu:=Tryz.underlying70
 go_enter Tryz.func81,Tryz.ntmps81
 go_wp2_with (first | (go_at_call 105; refine (register_calls _ _).mono ?_; rintro e w' ⟨rfl,rfl⟩))
 all_goals go_ret
 all_goals
  refine ⟨?_,?_⟩
  ·first | rfl | (simp_all; done) | (simp_all; omega)
  ·repeat (first | exact Below.refl _ _ | refine Below.alloc ?_ (by simp) _ | refine Below.setCell ?_ (by simp) _ | refine Below.drew ?_)
set_option maxHeartbeats 2000000 in
set_option maxRecDepth 100000 in
theorem fits4 (o a b c m : Int) (w : World) :
  Calls Tryz.prog 81 #[.agg #[.int .i64 o,.int .i64 a,.int .i64 b,.int .i64 c,.int .i64 m],.int .i64 4] w fun e w' => e = .returned (.bool (a == 0 && (b == 0 && (c == 0 && (reg a && (decide (0 ≤ m) && decide (m < 65536))))))) ∧ Below w.heap.size w w':=by
 have hu:=Tryz.underlying70
 go_enter Tryz.func81,Tryz.ntmps81
 go_wp2_with (first | (go_at_call 105; refine (register_calls _ _).mono ?_; rintro e w' ⟨rfl,rfl⟩))
 all_goals go_ret
 all_goals
  refine ⟨?_,?_⟩
  ·first | rfl | (simp_all; done) | (simp_all; omega)
  ·repeat (first | exact Below.refl _ _ | refine Below.alloc ?_ (by simp) _ | refine Below.setCell ?_ (by simp) _ | refine Below.drew ?_)
set_option maxHeartbeats 2000000 in
set_option maxRecDepth 100000 in
theorem fits6 (o a b c m : Int) (w : World) :
  Calls Tryz.prog 81 #[.agg #[.int .i64 o,.int .i64 a,.int .i64 b,.int .i64 c,.int .i64 m],.int .i64 6] w fun e w' => e = .returned (.bool (b == 0 && (c == 0 && (reg a && (decide (-32768 ≤ m) && decide (m < 32768)))))) ∧ Below w.heap.size w w':=by
 have hu:=Tryz.underlying70
 go_enter Tryz.func81,Tryz.ntmps81
 go_wp2_with (first | (go_at_call 105; refine (register_calls _ _).mono ?_; rintro e w' ⟨rfl,rfl⟩))
 go_region
 all_goals go_wp2_with (first | (go_at_call 105; refine (register_calls _ _).mono ?_; rintro e w' ⟨rfl,rfl⟩))
 all_goals go_ret
 all_goals
  refine ⟨?_,?_⟩
  ·first | rfl | (simp_all; done) | (simp_all; omega)
  ·repeat (first | exact Below.refl _ _ | refine Below.alloc ?_ (by simp) _ | refine Below.setCell ?_ (by simp) _ | refine Below.drew ?_)
set_option maxHeartbeats 2000000 in
set_option maxRecDepth 100000 in
theorem fitsE (o a b c m s : Int) (h : s ≠ 0 ∧ s ≠ 1 ∧ s ≠ 2 ∧ s ≠ 3 ∧ s ≠ 4 ∧ s ≠ 6) (w : World) :
  Calls Tryz.prog 81 #[.agg #[.int .i64 o,.int .i64 a,.int .i64 b,.int .i64 c,.int .i64 m],.int .i64 s] w fun e w' => e = .returned (.bool (b == 0 && (c == 0 && (reg a && (decide (0 ≤ m) && decide (m < 65536)))))) ∧ Below w.heap.size w w':=by
 have hu:=Tryz.underlying70
 obtain ⟨h0,h1,h2,h3,h4,h6⟩:=h
 replace h0 : (s == 0) = false:=beq_eq_false_iff_ne.2 h0
 replace h1 : (s == 1) = false:=beq_eq_false_iff_ne.2 h1
 replace h2 : (s == 2) = false:=beq_eq_false_iff_ne.2 h2
 replace h3 : (s == 3) = false:=beq_eq_false_iff_ne.2 h3
 replace h4 : (s == 4) = false:=beq_eq_false_iff_ne.2 h4
 replace h6 : (s == 6) = false:=beq_eq_false_iff_ne.2 h6
 go_enter Tryz.func81,Tryz.ntmps81
 go_wp2_with (first | (go_at_call 105; refine (register_calls _ _).mono ?_; rintro e w' ⟨rfl,rfl⟩))
 go_region
 all_goals go_wp2_with (first | (go_at_call 105; refine (register_calls _ _).mono ?_; rintro e w' ⟨rfl,rfl⟩))
 all_goals go_ret
 all_goals
  refine ⟨?_,?_⟩
  ·first | rfl | (simp_all; done) | (simp_all; omega)
  ·repeat (first | exact Below.refl _ _ | refine Below.alloc ?_ (by simp) _ | refine Below.setCell ?_ (by simp) _ | refine Below.drew ?_)
end Go.Proofs.YtdbpglhdicmhhaaGreatDoor.Hfits
end

section
namespace Go.Proofs.YtdbpglhdicmhhaaGreatDoor.GA
open Go.RowKit Go.Proofs.YtdbpglhdicmhhaaGreatDoorW.PrintWords Go.Proofs.YtdbpglhdicmhhaaGreatDoorW.PrintLast Go.Proofs.YtdbpglhdicmhhaaGreatDoorW.PrintMore
def word_find.f (a0 : Int) : Option (ByteArray × Int × Int × ByteArray × ByteArray × Int) :=
 if 1 ≤ a0 ∧ a0 ≤ 58 then some ((Hfind.rowAt (a0 - 1).toNat).1,(Hfind.rowAt (a0 - 1).toNat).2.1,(Hfind.rowAt (a0 - 1).toNat).2.2.1,(Hfind.rowAt (a0 - 1).toNat).2.2.2.1,(Hfind.rowAt (a0 - 1).toNat).2.2.2.2,0)
 else some (⟨#[]⟩,0,0,⟨#[]⟩,⟨#[]⟩,60)
set_option maxHeartbeats 8000000 in
set_option maxRecDepth 100000 in
theorem word_find.calls (a0 : Int) (r1 : ByteArray) (r2 : Int) (r3 : Int) (r4 : ByteArray) (r5 : ByteArray) (r6 : Int) (w : World) (h : word_find.f a0 = some (r1,r2,r3,r4,r5,r6)) :
  Calls Tryz.prog 80 #[.int .i64 a0] w fun e w' => e = .returned (.tuple #[.agg #[.string r1,.int .i64 r2,.int .i64 r3,.string r4,.string r5],.int .i64 r6]) ∧ Below w.heap.size w w':=by
 unfold word_find.f at h
 split at h
 ·rename_i hr
  obtain ⟨k,hk⟩ : ∃ k : Nat,a0 - 1 = (k : Int):=⟨(a0 - 1).toNat,by omega⟩
  obtain rfl : a0 = (k : Int) + 1:=by omega
  rw [hk,Int.toNat_natCast] at h
  simp only [Option.some.injEq,Prod.mk.injEq] at h
  obtain ⟨rfl,rfl,rfl,rfl,rfl,rfl⟩:=h
  exact Hfind.find_in k (by omega) w
 ·rename_i hr
  simp only [Option.some.injEq,Prod.mk.injEq] at h
  obtain ⟨rfl,rfl,rfl,rfl,rfl,rfl⟩:=h
  exact Hfind.find_out a0 (by omega) w
end Go.Proofs.YtdbpglhdicmhhaaGreatDoor.GA
end

section
namespace Go.Proofs.YtdbpglhdicmhhaaGreatDoor.GA
open Go.RowKit Go.Proofs.YtdbpglhdicmhhaaGreatDoorW.PrintWords Go.Proofs.YtdbpglhdicmhhaaGreatDoorW.PrintLast Go.Proofs.YtdbpglhdicmhhaaGreatDoorW.PrintMore
def word_fits.f (a0_0 : Int) (a0_1 : Int) (a0_2 : Int) (a0_3 : Int) (a0_4 : Int) (a1 : Int) : Option (Bool):=some (Hfits.fitsB a0_1 a0_2 a0_3 a0_4 a1)
set_option maxHeartbeats 8000000 in
set_option maxRecDepth 100000 in
theorem word_fits.calls (a0_0 : Int) (a0_1 : Int) (a0_2 : Int) (a0_3 : Int) (a0_4 : Int) (a1 : Int) (r : Bool) (w : World) (h : word_fits.f a0_0 a0_1 a0_2 a0_3 a0_4 a1 = some r) :
  Calls Tryz.prog 81 #[.agg #[.int .i64 a0_0,.int .i64 a0_1,.int .i64 a0_2,.int .i64 a0_3,.int .i64 a0_4],.int .i64 a1] w fun e w' => e = .returned (.bool r) ∧ Below w.heap.size w w':=by
 obtain rfl:=Option.some.inj h
 by_cases h0 : a1 = 0
 ·subst h0; exact Hfits.fits0 a0_0 a0_1 a0_2 a0_3 a0_4 w
 by_cases h1 : a1 = 1
 ·subst h1; exact (Hfits.fits1 a0_0 a0_1 a0_2 a0_3 a0_4 w)
 by_cases h2 : a1 = 2
 ·subst h2; exact (Hfits.fits2 a0_0 a0_1 a0_2 a0_3 a0_4 w)
 by_cases h3 : a1 = 3
 ·subst h3; exact (Hfits.fits3 a0_0 a0_1 a0_2 a0_3 a0_4 w)
 by_cases h4 : a1 = 4
 ·subst h4; exact (Hfits.fits4 a0_0 a0_1 a0_2 a0_3 a0_4 w)
 by_cases h6 : a1 = 6
 ·subst h6; exact (Hfits.fits6 a0_0 a0_1 a0_2 a0_3 a0_4 w)
 have e : Hfits.fitsB a0_1 a0_2 a0_3 a0_4 a1 = (a0_2 == 0 && (a0_3 == 0 && (Hfits.reg a0_1 && (decide (0 ≤ a0_4) && decide (a0_4 < 65536))))):=by
  unfold Hfits.fitsB
  rw [if_neg h0,if_neg (by omega),if_neg h4,if_neg h6]
 rw [e]
 exact Hfits.fitsE a0_0 a0_1 a0_2 a0_3 a0_4 a1 ⟨h0,h1,h2,h3,h4,h6⟩ w
end Go.Proofs.YtdbpglhdicmhhaaGreatDoor.GA
end
