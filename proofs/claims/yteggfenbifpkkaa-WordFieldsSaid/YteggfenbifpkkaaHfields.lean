/-
  The walk of the statement WordFields: what it comes to where both words are read.
-/
import Derived.Test.YteggfenbifpkkaaGA24
import Derived.Test.YteggfenbifpkkaaGA15
import Derived.Test.YteggfenbifpkkaaGA20
import Derived.Test.YteggfenbifpkkaaGA26
import Derived.Test.YteggfenbifpkkaaHfits
import Derived.Test.YteggfenbifpkkaaHfind
set_option linter.unusedVariables false
set_option linter.unusedSimpArgs false
namespace Go.Proofs.Yteggfenbifpkkaa.Hfields
open Go.RowKit Go.Proofs.YteggfenbifpkkaaW.PrintWords Go.Proofs.YteggfenbifpkkaaW.PrintMore Go.Proofs.Yteggfenbifpkkaa.GA
open Hfind (bcell)
attribute [local go_sem high] Hfits.eqA28
theorem drewN' {B : Nat} {a w : World} (h : Below B a w) (n : Nat) : Below B a (w.drewN n) := ⟨h.os, h.tape, h.output, h.size, h.block⟩

set_option maxHeartbeats 2000000 in
set_option maxRecDepth 100000 in
theorem law_no (w0 b : Int) (h0 : 0 ≤ b) (h9 : b ≤ 255) (f : Int) (r1 r2 r3 r4 r5 : Int) (hd : word_Decode.f w0 = some (r1, r2, r3, r4, r5, f)) (hf : (f != 0) = true) (ha : rotalaw06_awake.f = some true) (w : World) :
    Calls Try.prog 10 #[.int .u32 w0, .int .u8 b] w fun e w' => e = .returned (.bool true) ∧ Below w.heap.size w w' := by
  have hu := Try.underlying28
  have H1 := Lib.hid hd
  have HA := Lib.hid ha
  clear hd ha
  go_enter Try.func10, Try.ntmps10
  go_wp2_with (first | (go_at_call 24; with_reducible refine (word_Decode.calls w0 _ _ _ _ _ _ _ H1.out).mono ?_; rintro e w1 ⟨rfl, hb1⟩; obtain ⟨hc1, hf1⟩ := bcell hb1; have hz1 : w.heap.size ≤ w1.heap.size := hb1.size; clear H1) | (go_at_call 15; refine (rotalaw06_awake.calls true _ HA.out).mono ?_; rintro e w2 ⟨rfl, hb2⟩))
  go_ret
  refine ⟨rfl, ?_⟩
  exact (hb1.alloc hz1 _).trans (hb2.mono (by simp; omega))
set_option maxHeartbeats 4000000 in
set_option maxRecDepth 100000 in
theorem law_A1 (w0 b : Int) (h0 : 0 ≤ b) (h9 : b ≤ 255) (r1 r2 r3 r4 r5 k2 k3 k4 k5 s z : Int) (A B C : Bool) (lo hi : Int) (hd : word_Decode.f w0 = some (r1, r2, r3, r4, r5, 0)) (hd2 : word_Decode.f (Go.bits .xor .u32 w0 (2 ^ (b % 24).toNat % 4294967296)) = some (r1, k2, k3, k4, k5, 0))
    (hs : word_Shape.f r1 = some (s, z)) (hh : rotaref06_Has.f s = some (A, B, C, lo, hi)) (g20 : decide (20 ≤ b % 24) = true) (gA : A = true) (hres : (!(k2 == r2) || (!(k3 == r3) || (!(k4 == r4) || (!(k5 == r5))))) = true) (w : World) :
    Calls Try.prog 10 #[.int .u32 w0, .int .u8 b] w fun e w' => e = .returned (.bool true) ∧ Below w.heap.size w w' := by
  have hu := Try.underlying28
  subst gA
  have HR := Lib.hid hres
  have H1 := Lib.hid hd
  have H2 := Lib.hid hd2
  have H3 := Lib.hid hs
  have H4 := Lib.hid hh
  clear hd hd2 hs hh hres
  go_enter Try.func10, Try.ntmps10
  go_wp2_with (first | (go_at_call 24; with_reducible refine (word_Decode.calls w0 _ _ _ _ _ _ _ H1.out).mono ?_; rintro e w1 ⟨rfl, hb1⟩; obtain ⟨hc1, hf1⟩ := bcell hb1; have hz1 : w.heap.size ≤ w1.heap.size := hb1.size; clear H1) | (go_at_call 24; with_reducible refine (word_Decode.calls _ _ _ _ _ _ _ _ H2.out).mono ?_; rintro e w2 ⟨rfl, hb2⟩; obtain ⟨hc2, hf2⟩ := bcell hb2; have hz2 : w1.heap.size + 1 ≤ w2.heap.size := (by have := hb2.size; simp at this; omega); have hz3 : w1.heap.size < w2.heap.size := (by omega)) | (go_at_call 20; refine (word_Shape.calls _ _ _ _ H3.out).mono ?_; rintro e w3 ⟨rfl, hb3⟩; obtain ⟨hc3, hf3⟩ := bcell hb3; have hz4 : w2.heap.size + 1 ≤ w3.heap.size := (by have := hb3.size; simp at this; omega); have hz5 : w2.heap.size < w3.heap.size := (by omega); have hz6 : w1.heap.size < w3.heap.size := (by omega)) | (go_at_call 26; refine (rotaref06_Has.calls _ _ _ _ _ _ _ H4.out).mono ?_; rintro e w4 ⟨rfl, ⟨nd, rfl⟩⟩))
  go_ret
  refine ⟨(by simpa using HR.out), drewN' ?_ _⟩
  exact (((hb1.alloc hz1 _).trans (hb2.mono (by simp; omega))).alloc (by omega) _).trans (hb3.mono (by simp; omega))
set_option maxHeartbeats 4000000 in
set_option maxRecDepth 100000 in
theorem law_A0 (w0 b : Int) (h0 : 0 ≤ b) (h9 : b ≤ 255) (r1 r2 r3 r4 r5 k1 k2 k3 k4 k5 s z : Int) (A B C : Bool) (lo hi : Int) (hd : word_Decode.f w0 = some (r1, r2, r3, r4, r5, 0)) (hd2 : word_Decode.f (Go.bits .xor .u32 w0 (2 ^ (b % 24).toNat % 4294967296)) = some (k1, k2, k3, k4, k5, 61))
    (hs : word_Shape.f r1 = some (s, z)) (hh : rotaref06_Has.f s = some (A, B, C, lo, hi)) (g20 : decide (20 ≤ b % 24) = true) (gA : A = false) (w : World) :
    Calls Try.prog 10 #[.int .u32 w0, .int .u8 b] w fun e w' => e = .returned (.bool true) ∧ Below w.heap.size w w' := by
  have hu := Try.underlying28
  subst gA
  have g16 : decide (16 ≤ b % 24) = true := by simp at *; omega
  have g20b : decide (b % 24 < 20) = false := by simp at *; omega
  have g4 : decide (b % 24 < 4) = false := by simp at *; omega
  have g16b : decide (b % 24 < 16) = false := by simp at *; omega
  have H1 := Lib.hid hd
  have H2 := Lib.hid hd2
  have H3 := Lib.hid hs
  have H4 := Lib.hid hh
  clear hd hd2 hs hh
  go_enter Try.func10, Try.ntmps10
  go_wp2_with (first | (go_at_call 24; with_reducible refine (word_Decode.calls w0 _ _ _ _ _ _ _ H1.out).mono ?_; rintro e w1 ⟨rfl, hb1⟩; obtain ⟨hc1, hf1⟩ := bcell hb1; have hz1 : w.heap.size ≤ w1.heap.size := hb1.size; clear H1) | (go_at_call 24; with_reducible refine (word_Decode.calls _ _ _ _ _ _ _ _ H2.out).mono ?_; rintro e w2 ⟨rfl, hb2⟩; obtain ⟨hc2, hf2⟩ := bcell hb2; have hz2 : w1.heap.size + 1 ≤ w2.heap.size := (by have := hb2.size; simp at this; omega); have hz3 : w1.heap.size < w2.heap.size := (by omega)) | (go_at_call 20; refine (word_Shape.calls _ _ _ _ H3.out).mono ?_; rintro e w3 ⟨rfl, hb3⟩; obtain ⟨hc3, hf3⟩ := bcell hb3; have hz4 : w2.heap.size + 1 ≤ w3.heap.size := (by have := hb3.size; simp at this; omega); have hz5 : w2.heap.size < w3.heap.size := (by omega); have hz6 : w1.heap.size < w3.heap.size := (by omega)) | (go_at_call 26; refine (rotaref06_Has.calls _ _ _ _ _ _ _ H4.out).mono ?_; rintro e w4 ⟨rfl, ⟨nd, rfl⟩⟩))
  go_ret
  refine ⟨rfl, drewN' ?_ _⟩
  exact (((hb1.alloc hz1 _).trans (hb2.mono (by simp; omega))).alloc (by omega) _).trans (hb3.mono (by simp; omega))
set_option maxHeartbeats 4000000 in
set_option maxRecDepth 100000 in
theorem law_B1 (w0 b : Int) (h0 : 0 ≤ b) (h9 : b ≤ 255) (r1 r2 r3 r4 r5 k2 k3 k4 k5 s z : Int) (A B C : Bool) (lo hi : Int) (hd : word_Decode.f w0 = some (r1, r2, r3, r4, r5, 0)) (hd2 : word_Decode.f (Go.bits .xor .u32 w0 (2 ^ (b % 24).toNat % 4294967296)) = some (r1, k2, k3, k4, k5, 0))
    (hs : word_Shape.f r1 = some (s, z)) (hh : rotaref06_Has.f s = some (A, B, C, lo, hi)) (g20 : decide (20 ≤ b % 24) = false) (g16 : decide (16 ≤ b % 24) = true) (gB : B = true) (hres : (!(k2 == r2) || (!(k3 == r3) || (!(k4 == r4) || (!(k5 == r5))))) = true) (w : World) :
    Calls Try.prog 10 #[.int .u32 w0, .int .u8 b] w fun e w' => e = .returned (.bool true) ∧ Below w.heap.size w w' := by
  have hu := Try.underlying28
  subst gB
  have g20b : decide (b % 24 < 20) = true := by simp at *; omega
  have HR := Lib.hid hres
  have H1 := Lib.hid hd
  have H2 := Lib.hid hd2
  have H3 := Lib.hid hs
  have H4 := Lib.hid hh
  clear hd hd2 hs hh hres
  go_enter Try.func10, Try.ntmps10
  go_wp2_with (first | (go_at_call 24; with_reducible refine (word_Decode.calls w0 _ _ _ _ _ _ _ H1.out).mono ?_; rintro e w1 ⟨rfl, hb1⟩; obtain ⟨hc1, hf1⟩ := bcell hb1; have hz1 : w.heap.size ≤ w1.heap.size := hb1.size; clear H1) | (go_at_call 24; with_reducible refine (word_Decode.calls _ _ _ _ _ _ _ _ H2.out).mono ?_; rintro e w2 ⟨rfl, hb2⟩; obtain ⟨hc2, hf2⟩ := bcell hb2; have hz2 : w1.heap.size + 1 ≤ w2.heap.size := (by have := hb2.size; simp at this; omega); have hz3 : w1.heap.size < w2.heap.size := (by omega)) | (go_at_call 20; refine (word_Shape.calls _ _ _ _ H3.out).mono ?_; rintro e w3 ⟨rfl, hb3⟩; obtain ⟨hc3, hf3⟩ := bcell hb3; have hz4 : w2.heap.size + 1 ≤ w3.heap.size := (by have := hb3.size; simp at this; omega); have hz5 : w2.heap.size < w3.heap.size := (by omega); have hz6 : w1.heap.size < w3.heap.size := (by omega)) | (go_at_call 26; refine (rotaref06_Has.calls _ _ _ _ _ _ _ H4.out).mono ?_; rintro e w4 ⟨rfl, ⟨nd, rfl⟩⟩))
  go_ret
  refine ⟨(by simpa using HR.out), drewN' ?_ _⟩
  exact (((hb1.alloc hz1 _).trans (hb2.mono (by simp; omega))).alloc (by omega) _).trans (hb3.mono (by simp; omega))
set_option maxHeartbeats 4000000 in
set_option maxRecDepth 100000 in
theorem law_B0 (w0 b : Int) (h0 : 0 ≤ b) (h9 : b ≤ 255) (r1 r2 r3 r4 r5 k1 k2 k3 k4 k5 s z : Int) (A B C : Bool) (lo hi : Int) (hd : word_Decode.f w0 = some (r1, r2, r3, r4, r5, 0)) (hd2 : word_Decode.f (Go.bits .xor .u32 w0 (2 ^ (b % 24).toNat % 4294967296)) = some (k1, k2, k3, k4, k5, 61))
    (hs : word_Shape.f r1 = some (s, z)) (hh : rotaref06_Has.f s = some (A, B, C, lo, hi)) (g20 : decide (20 ≤ b % 24) = false) (g16 : decide (16 ≤ b % 24) = true) (gB : B = false) (w : World) :
    Calls Try.prog 10 #[.int .u32 w0, .int .u8 b] w fun e w' => e = .returned (.bool true) ∧ Below w.heap.size w w' := by
  have hu := Try.underlying28
  subst gB
  have g20b : decide (b % 24 < 20) = true := by simp at *; omega
  have g4 : decide (b % 24 < 4) = false := by simp at *; omega
  have g16b : decide (b % 24 < 16) = false := by simp at *; omega
  have H1 := Lib.hid hd
  have H2 := Lib.hid hd2
  have H3 := Lib.hid hs
  have H4 := Lib.hid hh
  clear hd hd2 hs hh
  go_enter Try.func10, Try.ntmps10
  go_wp2_with (first | (go_at_call 24; with_reducible refine (word_Decode.calls w0 _ _ _ _ _ _ _ H1.out).mono ?_; rintro e w1 ⟨rfl, hb1⟩; obtain ⟨hc1, hf1⟩ := bcell hb1; have hz1 : w.heap.size ≤ w1.heap.size := hb1.size; clear H1) | (go_at_call 24; with_reducible refine (word_Decode.calls _ _ _ _ _ _ _ _ H2.out).mono ?_; rintro e w2 ⟨rfl, hb2⟩; obtain ⟨hc2, hf2⟩ := bcell hb2; have hz2 : w1.heap.size + 1 ≤ w2.heap.size := (by have := hb2.size; simp at this; omega); have hz3 : w1.heap.size < w2.heap.size := (by omega)) | (go_at_call 20; refine (word_Shape.calls _ _ _ _ H3.out).mono ?_; rintro e w3 ⟨rfl, hb3⟩; obtain ⟨hc3, hf3⟩ := bcell hb3; have hz4 : w2.heap.size + 1 ≤ w3.heap.size := (by have := hb3.size; simp at this; omega); have hz5 : w2.heap.size < w3.heap.size := (by omega); have hz6 : w1.heap.size < w3.heap.size := (by omega)) | (go_at_call 26; refine (rotaref06_Has.calls _ _ _ _ _ _ _ H4.out).mono ?_; rintro e w4 ⟨rfl, ⟨nd, rfl⟩⟩))
  go_ret
  refine ⟨rfl, drewN' ?_ _⟩
  exact (((hb1.alloc hz1 _).trans (hb2.mono (by simp; omega))).alloc (by omega) _).trans (hb3.mono (by simp; omega))
set_option maxHeartbeats 4000000 in
set_option maxRecDepth 100000 in
theorem law_C1 (w0 b : Int) (h0 : 0 ≤ b) (h9 : b ≤ 255) (r1 r2 r3 r4 r5 k2 k3 k4 k5 s z : Int) (A B C : Bool) (lo hi : Int) (hd : word_Decode.f w0 = some (r1, r2, r3, r4, r5, 0)) (hd2 : word_Decode.f (Go.bits .xor .u32 w0 (2 ^ (b % 24).toNat % 4294967296)) = some (r1, k2, k3, k4, k5, 0))
    (hs : word_Shape.f r1 = some (s, z)) (hh : rotaref06_Has.f s = some (A, B, C, lo, hi)) (g20 : decide (20 ≤ b % 24) = false) (g16 : decide (16 ≤ b % 24) = false) (g4 : decide (b % 24 < 4) = true) (gC : C = true) (hres : (!(k2 == r2) || (!(k3 == r3) || (!(k4 == r4) || (!(k5 == r5))))) = true) (w : World) :
    Calls Try.prog 10 #[.int .u32 w0, .int .u8 b] w fun e w' => e = .returned (.bool true) ∧ Below w.heap.size w w' := by
  have hu := Try.underlying28
  subst gC
  have HR := Lib.hid hres
  have H1 := Lib.hid hd
  have H2 := Lib.hid hd2
  have H3 := Lib.hid hs
  have H4 := Lib.hid hh
  clear hd hd2 hs hh hres
  go_enter Try.func10, Try.ntmps10
  go_wp2_with (first | (go_at_call 24; with_reducible refine (word_Decode.calls w0 _ _ _ _ _ _ _ H1.out).mono ?_; rintro e w1 ⟨rfl, hb1⟩; obtain ⟨hc1, hf1⟩ := bcell hb1; have hz1 : w.heap.size ≤ w1.heap.size := hb1.size; clear H1) | (go_at_call 24; with_reducible refine (word_Decode.calls _ _ _ _ _ _ _ _ H2.out).mono ?_; rintro e w2 ⟨rfl, hb2⟩; obtain ⟨hc2, hf2⟩ := bcell hb2; have hz2 : w1.heap.size + 1 ≤ w2.heap.size := (by have := hb2.size; simp at this; omega); have hz3 : w1.heap.size < w2.heap.size := (by omega)) | (go_at_call 20; refine (word_Shape.calls _ _ _ _ H3.out).mono ?_; rintro e w3 ⟨rfl, hb3⟩; obtain ⟨hc3, hf3⟩ := bcell hb3; have hz4 : w2.heap.size + 1 ≤ w3.heap.size := (by have := hb3.size; simp at this; omega); have hz5 : w2.heap.size < w3.heap.size := (by omega); have hz6 : w1.heap.size < w3.heap.size := (by omega)) | (go_at_call 26; refine (rotaref06_Has.calls _ _ _ _ _ _ _ H4.out).mono ?_; rintro e w4 ⟨rfl, ⟨nd, rfl⟩⟩))
  go_ret
  refine ⟨(by simpa using HR.out), drewN' ?_ _⟩
  exact (((hb1.alloc hz1 _).trans (hb2.mono (by simp; omega))).alloc (by omega) _).trans (hb3.mono (by simp; omega))
set_option maxHeartbeats 4000000 in
set_option maxRecDepth 100000 in
theorem law_I1 (w0 b : Int) (h0 : 0 ≤ b) (h9 : b ≤ 255) (r1 r2 r3 r4 r5 k2 k3 k4 k5 s z : Int) (A B C : Bool) (lo hi : Int) (hd : word_Decode.f w0 = some (r1, r2, r3, r4, r5, 0)) (hd2 : word_Decode.f (Go.bits .xor .u32 w0 (2 ^ (b % 24).toNat % 4294967296)) = some (r1, k2, k3, k4, k5, 0))
    (hs : word_Shape.f r1 = some (s, z)) (hh : rotaref06_Has.f s = some (A, B, C, lo, hi)) (g20 : decide (20 ≤ b % 24) = false) (g16 : decide (16 ≤ b % 24) = false) (g4 : decide (b % 24 < 4) = false) (gh : decide (0 < hi) = true) (hres : (!(k2 == r2) || (!(k3 == r3) || (!(k4 == r4) || (!(k5 == r5))))) = true) (w : World) :
    Calls Try.prog 10 #[.int .u32 w0, .int .u8 b] w fun e w' => e = .returned (.bool true) ∧ Below w.heap.size w w' := by
  have hu := Try.underlying28
  have g16b : decide (b % 24 < 16) = true := by simp at *; omega
  have HR := Lib.hid hres
  have H1 := Lib.hid hd
  have H2 := Lib.hid hd2
  have H3 := Lib.hid hs
  have H4 := Lib.hid hh
  clear hd hd2 hs hh hres
  go_enter Try.func10, Try.ntmps10
  go_wp2_with (first | (go_at_call 24; with_reducible refine (word_Decode.calls w0 _ _ _ _ _ _ _ H1.out).mono ?_; rintro e w1 ⟨rfl, hb1⟩; obtain ⟨hc1, hf1⟩ := bcell hb1; have hz1 : w.heap.size ≤ w1.heap.size := hb1.size; clear H1) | (go_at_call 24; with_reducible refine (word_Decode.calls _ _ _ _ _ _ _ _ H2.out).mono ?_; rintro e w2 ⟨rfl, hb2⟩; obtain ⟨hc2, hf2⟩ := bcell hb2; have hz2 : w1.heap.size + 1 ≤ w2.heap.size := (by have := hb2.size; simp at this; omega); have hz3 : w1.heap.size < w2.heap.size := (by omega)) | (go_at_call 20; refine (word_Shape.calls _ _ _ _ H3.out).mono ?_; rintro e w3 ⟨rfl, hb3⟩; obtain ⟨hc3, hf3⟩ := bcell hb3; have hz4 : w2.heap.size + 1 ≤ w3.heap.size := (by have := hb3.size; simp at this; omega); have hz5 : w2.heap.size < w3.heap.size := (by omega); have hz6 : w1.heap.size < w3.heap.size := (by omega)) | (go_at_call 26; refine (rotaref06_Has.calls _ _ _ _ _ _ _ H4.out).mono ?_; rintro e w4 ⟨rfl, ⟨nd, rfl⟩⟩))
  go_ret
  refine ⟨(by simpa using HR.out), drewN' ?_ _⟩
  exact (((hb1.alloc hz1 _).trans (hb2.mono (by simp; omega))).alloc (by omega) _).trans (hb3.mono (by simp; omega))
set_option maxHeartbeats 4000000 in
set_option maxRecDepth 100000 in
theorem law_I0 (w0 b : Int) (h0 : 0 ≤ b) (h9 : b ≤ 255) (r1 r2 r3 r4 r5 k1 k2 k3 k4 k5 s z : Int) (A B C : Bool) (lo hi : Int) (hd : word_Decode.f w0 = some (r1, r2, r3, r4, r5, 0)) (hd2 : word_Decode.f (Go.bits .xor .u32 w0 (2 ^ (b % 24).toNat % 4294967296)) = some (k1, k2, k3, k4, k5, 61))
    (hs : word_Shape.f r1 = some (s, z)) (hh : rotaref06_Has.f s = some (A, B, C, lo, hi)) (g20 : decide (20 ≤ b % 24) = false) (g16 : decide (16 ≤ b % 24) = false) (g4 : decide (b % 24 < 4) = false) (gh : decide (0 < hi) = false) (w : World) :
    Calls Try.prog 10 #[.int .u32 w0, .int .u8 b] w fun e w' => e = .returned (.bool true) ∧ Below w.heap.size w w' := by
  have hu := Try.underlying28
  have g16b : decide (b % 24 < 16) = true := by simp at *; omega
  have H1 := Lib.hid hd
  have H2 := Lib.hid hd2
  have H3 := Lib.hid hs
  have H4 := Lib.hid hh
  clear hd hd2 hs hh
  go_enter Try.func10, Try.ntmps10
  go_wp2_with (first | (go_at_call 24; with_reducible refine (word_Decode.calls w0 _ _ _ _ _ _ _ H1.out).mono ?_; rintro e w1 ⟨rfl, hb1⟩; obtain ⟨hc1, hf1⟩ := bcell hb1; have hz1 : w.heap.size ≤ w1.heap.size := hb1.size; clear H1) | (go_at_call 24; with_reducible refine (word_Decode.calls _ _ _ _ _ _ _ _ H2.out).mono ?_; rintro e w2 ⟨rfl, hb2⟩; obtain ⟨hc2, hf2⟩ := bcell hb2; have hz2 : w1.heap.size + 1 ≤ w2.heap.size := (by have := hb2.size; simp at this; omega); have hz3 : w1.heap.size < w2.heap.size := (by omega)) | (go_at_call 20; refine (word_Shape.calls _ _ _ _ H3.out).mono ?_; rintro e w3 ⟨rfl, hb3⟩; obtain ⟨hc3, hf3⟩ := bcell hb3; have hz4 : w2.heap.size + 1 ≤ w3.heap.size := (by have := hb3.size; simp at this; omega); have hz5 : w2.heap.size < w3.heap.size := (by omega); have hz6 : w1.heap.size < w3.heap.size := (by omega)) | (go_at_call 26; refine (rotaref06_Has.calls _ _ _ _ _ _ _ H4.out).mono ?_; rintro e w4 ⟨rfl, ⟨nd, rfl⟩⟩))
  go_ret
  refine ⟨rfl, drewN' ?_ _⟩
  exact (((hb1.alloc hz1 _).trans (hb2.mono (by simp; omega))).alloc (by omega) _).trans (hb3.mono (by simp; omega))
set_option maxHeartbeats 4000000 in
set_option maxRecDepth 100000 in
theorem law_J1 (w0 b : Int) (h0 : 0 ≤ b) (h9 : b ≤ 255) (r1 r2 r3 r4 r5 k2 k3 k4 k5 s z : Int) (A B C : Bool) (lo hi : Int) (hd : word_Decode.f w0 = some (r1, r2, r3, r4, r5, 0)) (hd2 : word_Decode.f (Go.bits .xor .u32 w0 (2 ^ (b % 24).toNat % 4294967296)) = some (r1, k2, k3, k4, k5, 0))
    (hs : word_Shape.f r1 = some (s, z)) (hh : rotaref06_Has.f s = some (A, B, C, lo, hi)) (g20 : decide (20 ≤ b % 24) = false) (g16 : decide (16 ≤ b % 24) = false) (g4 : decide (b % 24 < 4) = true) (gC : C = false) (gh : decide (0 < hi) = true) (hres : (!(k2 == r2) || (!(k3 == r3) || (!(k4 == r4) || (!(k5 == r5))))) = true) (w : World) :
    Calls Try.prog 10 #[.int .u32 w0, .int .u8 b] w fun e w' => e = .returned (.bool true) ∧ Below w.heap.size w w' := by
  have hu := Try.underlying28
  subst gC
  have g16b : decide (b % 24 < 16) = true := by simp at *; omega
  have HR := Lib.hid hres
  have H1 := Lib.hid hd
  have H2 := Lib.hid hd2
  have H3 := Lib.hid hs
  have H4 := Lib.hid hh
  clear hd hd2 hs hh hres
  go_enter Try.func10, Try.ntmps10
  go_wp2_with (first | (go_at_call 24; with_reducible refine (word_Decode.calls w0 _ _ _ _ _ _ _ H1.out).mono ?_; rintro e w1 ⟨rfl, hb1⟩; obtain ⟨hc1, hf1⟩ := bcell hb1; have hz1 : w.heap.size ≤ w1.heap.size := hb1.size; clear H1) | (go_at_call 24; with_reducible refine (word_Decode.calls _ _ _ _ _ _ _ _ H2.out).mono ?_; rintro e w2 ⟨rfl, hb2⟩; obtain ⟨hc2, hf2⟩ := bcell hb2; have hz2 : w1.heap.size + 1 ≤ w2.heap.size := (by have := hb2.size; simp at this; omega); have hz3 : w1.heap.size < w2.heap.size := (by omega)) | (go_at_call 20; refine (word_Shape.calls _ _ _ _ H3.out).mono ?_; rintro e w3 ⟨rfl, hb3⟩; obtain ⟨hc3, hf3⟩ := bcell hb3; have hz4 : w2.heap.size + 1 ≤ w3.heap.size := (by have := hb3.size; simp at this; omega); have hz5 : w2.heap.size < w3.heap.size := (by omega); have hz6 : w1.heap.size < w3.heap.size := (by omega)) | (go_at_call 26; refine (rotaref06_Has.calls _ _ _ _ _ _ _ H4.out).mono ?_; rintro e w4 ⟨rfl, ⟨nd, rfl⟩⟩))
  go_ret
  refine ⟨(by simpa using HR.out), drewN' ?_ _⟩
  exact (((hb1.alloc hz1 _).trans (hb2.mono (by simp; omega))).alloc (by omega) _).trans (hb3.mono (by simp; omega))
set_option maxHeartbeats 4000000 in
set_option maxRecDepth 100000 in
theorem law_J0 (w0 b : Int) (h0 : 0 ≤ b) (h9 : b ≤ 255) (r1 r2 r3 r4 r5 k1 k2 k3 k4 k5 s z : Int) (A B C : Bool) (lo hi : Int) (hd : word_Decode.f w0 = some (r1, r2, r3, r4, r5, 0)) (hd2 : word_Decode.f (Go.bits .xor .u32 w0 (2 ^ (b % 24).toNat % 4294967296)) = some (k1, k2, k3, k4, k5, 61))
    (hs : word_Shape.f r1 = some (s, z)) (hh : rotaref06_Has.f s = some (A, B, C, lo, hi)) (g20 : decide (20 ≤ b % 24) = false) (g16 : decide (16 ≤ b % 24) = false) (g4 : decide (b % 24 < 4) = true) (gC : C = false) (gh : decide (0 < hi) = false) (w : World) :
    Calls Try.prog 10 #[.int .u32 w0, .int .u8 b] w fun e w' => e = .returned (.bool true) ∧ Below w.heap.size w w' := by
  have hu := Try.underlying28
  subst gC
  have g16b : decide (b % 24 < 16) = true := by simp at *; omega
  have H1 := Lib.hid hd
  have H2 := Lib.hid hd2
  have H3 := Lib.hid hs
  have H4 := Lib.hid hh
  clear hd hd2 hs hh
  go_enter Try.func10, Try.ntmps10
  go_wp2_with (first | (go_at_call 24; with_reducible refine (word_Decode.calls w0 _ _ _ _ _ _ _ H1.out).mono ?_; rintro e w1 ⟨rfl, hb1⟩; obtain ⟨hc1, hf1⟩ := bcell hb1; have hz1 : w.heap.size ≤ w1.heap.size := hb1.size; clear H1) | (go_at_call 24; with_reducible refine (word_Decode.calls _ _ _ _ _ _ _ _ H2.out).mono ?_; rintro e w2 ⟨rfl, hb2⟩; obtain ⟨hc2, hf2⟩ := bcell hb2; have hz2 : w1.heap.size + 1 ≤ w2.heap.size := (by have := hb2.size; simp at this; omega); have hz3 : w1.heap.size < w2.heap.size := (by omega)) | (go_at_call 20; refine (word_Shape.calls _ _ _ _ H3.out).mono ?_; rintro e w3 ⟨rfl, hb3⟩; obtain ⟨hc3, hf3⟩ := bcell hb3; have hz4 : w2.heap.size + 1 ≤ w3.heap.size := (by have := hb3.size; simp at this; omega); have hz5 : w2.heap.size < w3.heap.size := (by omega); have hz6 : w1.heap.size < w3.heap.size := (by omega)) | (go_at_call 26; refine (rotaref06_Has.calls _ _ _ _ _ _ _ H4.out).mono ?_; rintro e w4 ⟨rfl, ⟨nd, rfl⟩⟩))
  go_ret
  refine ⟨rfl, drewN' ?_ _⟩
  exact (((hb1.alloc hz1 _).trans (hb2.mono (by simp; omega))).alloc (by omega) _).trans (hb3.mono (by simp; omega))
end Go.Proofs.Yteggfenbifpkkaa.Hfields
