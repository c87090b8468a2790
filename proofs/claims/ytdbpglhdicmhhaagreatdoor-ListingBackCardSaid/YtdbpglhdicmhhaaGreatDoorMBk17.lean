import Derived.Test.YtdbpglhdicmhhaaGreatDoorMBk4
import Derived.Test.YtdbpglhdicmhhaaGreatDoorMBk11
import Derived.Test.YtdbpglhdicmhhaaGreatDoorMBk3
import Derived.Lib.AppendIntMem
set_option linter.unusedVariables false
set_option linter.unusedSimpArgs false
section
namespace Go.Proofs.YtdbpglhdicmhhaaGreatDoor.GA
open Go.RowKit Go.Proofs.YtdbpglhdicmhhaaGreatDoorW.PrintWords Go.Proofs.YtdbpglhdicmhhaaGreatDoorW.PrintLast Go.Proofs.YtdbpglhdicmhhaaGreatDoorW.PrintMore
def listing_fields.f (a0 : Int) : Option (Int × Bool):=if a0 = 1 then (some (1,false)) else (if a0 = 2 then (some (2,false)) else (if a0 = 3 then (some (3,false)) else (if a0 = 4 then (some (0,true)) else (if a0 = 5 then (some (1,true)) else (if a0 = 6 then (some (1,true)) else (some (0,false)))))))
set_option maxHeartbeats 8000000 in
set_option maxRecDepth 100000 in
theorem listing_fields.calls (a0 : Int) (r1 : Int) (r2 : Bool) (w : World) (h : listing_fields.f a0 = some (r1,r2)) :
  Calls Tryz.prog 37 #[.int .i64 a0] w fun e w' => e = .returned (.tuple #[.int .i64 r1,.bool r2]) ∧ Drawn0 w w':=by
 have H : (if a0 = 1 then (some (1,false)) else (if a0 = 2 then (some (2,false)) else (if a0 = 3 then (some (3,false)) else (if a0 = 4 then (some (0,true)) else (if a0 = 5 then (some (1,true)) else (if a0 = 6 then (some (1,true)) else (some (0,false)))))))) = some (r1,r2):=h
 clear h
 by_cases c2 : a0 = 1
 ·rw [if_pos c2] at H
  have c2b0 : (a0 == 1) = true:=beq_iff_eq.mpr c2
  have c2b1 : (a0 != 1) = false:=bne_eq_false_iff_eq.mpr c2
  clear c2
  simp only [Option.some.injEq,Prod.mk.injEq] at H
  obtain ⟨rfl,rfl⟩:=H
  go_enter Tryz.func37,Tryz.ntmps37
  go_wp2
  go_ret2
  exact ⟨by first | rfl | (simp; done) | (simp [*]; done),by repeat (first | exact Drawn0.refl _ | apply Drawn0.step)⟩
 ·rw [if_neg c2] at H
  have c2b0 : (a0 == 1) = false:=beq_eq_false_iff_ne.mpr c2
  have c2b1 : (a0 != 1) = true:=bne_iff_ne.mpr c2
  by_cases c3 : a0 = 2
  ·rw [if_pos c3] at H
   have c3b0 : (a0 == 2) = true:=beq_iff_eq.mpr c3
   have c3b1 : (a0 != 2) = false:=bne_eq_false_iff_eq.mpr c3
   clear c3
   simp only [Option.some.injEq,Prod.mk.injEq] at H
   obtain ⟨rfl,rfl⟩:=H
   go_enter Tryz.func37,Tryz.ntmps37
   go_wp2
   go_ret2
   exact ⟨by first | rfl | (simp; done) | (simp [*]; done),by repeat (first | exact Drawn0.refl _ | apply Drawn0.step)⟩
  ·rw [if_neg c3] at H
   have c3b0 : (a0 == 2) = false:=beq_eq_false_iff_ne.mpr c3
   have c3b1 : (a0 != 2) = true:=bne_iff_ne.mpr c3
   by_cases c4 : a0 = 3
   ·rw [if_pos c4] at H
    have c4b0 : (a0 == 3) = true:=beq_iff_eq.mpr c4
    have c4b1 : (a0 != 3) = false:=bne_eq_false_iff_eq.mpr c4
    clear c4
    simp only [Option.some.injEq,Prod.mk.injEq] at H
    obtain ⟨rfl,rfl⟩:=H
    go_enter Tryz.func37,Tryz.ntmps37
    go_wp2
    go_ret2
    exact ⟨by first | rfl | (simp; done) | (simp [*]; done),by repeat (first | exact Drawn0.refl _ | apply Drawn0.step)⟩
   ·rw [if_neg c4] at H
    have c4b0 : (a0 == 3) = false:=beq_eq_false_iff_ne.mpr c4
    have c4b1 : (a0 != 3) = true:=bne_iff_ne.mpr c4
    by_cases c5 : a0 = 4
    ·rw [if_pos c5] at H
     have c5b0 : (a0 == 4) = true:=beq_iff_eq.mpr c5
     have c5b1 : (a0 != 4) = false:=bne_eq_false_iff_eq.mpr c5
     clear c5
     simp only [Option.some.injEq,Prod.mk.injEq] at H
     obtain ⟨rfl,rfl⟩:=H
     go_enter Tryz.func37,Tryz.ntmps37
     go_wp2
     go_ret2
     exact ⟨by first | rfl | (simp; done) | (simp [*]; done),by repeat (first | exact Drawn0.refl _ | apply Drawn0.step)⟩
    ·rw [if_neg c5] at H
     have c5b0 : (a0 == 4) = false:=beq_eq_false_iff_ne.mpr c5
     have c5b1 : (a0 != 4) = true:=bne_iff_ne.mpr c5
     by_cases c6 : a0 = 5
     ·rw [if_pos c6] at H
      have c6b0 : (a0 == 5) = true:=beq_iff_eq.mpr c6
      have c6b1 : (a0 != 5) = false:=bne_eq_false_iff_eq.mpr c6
      clear c6
      simp only [Option.some.injEq,Prod.mk.injEq] at H
      obtain ⟨rfl,rfl⟩:=H
      go_enter Tryz.func37,Tryz.ntmps37
      go_wp2
      go_ret2
      exact ⟨by first | rfl | (simp; done) | (simp [*]; done),by repeat (first | exact Drawn0.refl _ | apply Drawn0.step)⟩
     ·rw [if_neg c6] at H
      have c6b0 : (a0 == 5) = false:=beq_eq_false_iff_ne.mpr c6
      have c6b1 : (a0 != 5) = true:=bne_iff_ne.mpr c6
      by_cases c7 : a0 = 6
      ·rw [if_pos c7] at H
       have c7b0 : (a0 == 6) = true:=beq_iff_eq.mpr c7
       have c7b1 : (a0 != 6) = false:=bne_eq_false_iff_eq.mpr c7
       clear c7
       simp only [Option.some.injEq,Prod.mk.injEq] at H
       obtain ⟨rfl,rfl⟩:=H
       go_enter Tryz.func37,Tryz.ntmps37
       go_wp2
       go_ret2
       exact ⟨by first | rfl | (simp; done) | (simp [*]; done),by repeat (first | exact Drawn0.refl _ | apply Drawn0.step)⟩
      ·rw [if_neg c7] at H
       have c7b0 : (a0 == 6) = false:=beq_eq_false_iff_ne.mpr c7
       have c7b1 : (a0 != 6) = true:=bne_iff_ne.mpr c7
       simp only [Option.some.injEq,Prod.mk.injEq] at H
       obtain ⟨rfl,rfl⟩:=H
       go_enter Tryz.func37,Tryz.ntmps37
       go_wp2
       go_ret2
       exact ⟨by first | rfl | (simp; done) | (simp [*]; done),by repeat (first | exact Drawn0.refl _ | apply Drawn0.step)⟩
end Go.Proofs.YtdbpglhdicmhhaaGreatDoor.GA
end

section
namespace Go.Proofs.YtdbpglhdicmhhaaGreatDoor.Hof
open Go.RowKit Go.Shelf
theorem itoa_calls {w : World} (h : TB w) (n : Int) (h0 : -9223372036854775808 ≤ n) (h1 : n ≤ 9223372036854775807) : Calls Tryz.prog 38 #[.int .i64 n] w fun e W' => e = .returned (.string ⟨(Lib.itoa n).toArray⟩) ∧ Below w.heap.size w W' :=
 (Tryz.strconv_Itoa n h0 h1 w (h w (Below.refl _ _))).mono fun e W' ⟨he,k,os,hw⟩ => ⟨he,by rw [hw]; exact Lib.below_grow _ w (Nat.le_refl _) k os⟩
end Go.Proofs.YtdbpglhdicmhhaaGreatDoor.Hof
end

section
namespace Go.Proofs.YtdbpglhdicmhhaaGreatDoor.GA
open Go.RowKit Go.Proofs.YtdbpglhdicmhhaaGreatDoorW.PrintWords Go.Proofs.YtdbpglhdicmhhaaGreatDoorW.PrintLast Go.Proofs.YtdbpglhdicmhhaaGreatDoorW.PrintMore
def strconv_Itoa_38.f (a0 : Int) : Option (ByteArray):=if -9223372036854775808 ≤ a0 ∧ a0 ≤ 9223372036854775807 then some ⟨(Lib.itoa a0).toArray⟩ else none
set_option maxHeartbeats 8000000 in
set_option maxRecDepth 100000 in
theorem strconv_Itoa_38.calls (a0 : Int) (r : ByteArray) (w : World) (hLLibStd : Laid.LibStd w) (h : strconv_Itoa_38.f a0 = some r) :
  Calls Tryz.prog 38 #[.int .i64 a0] w fun e w' => e = .returned (.string r) ∧ Below w.heap.size w w':=by
 unfold strconv_Itoa_38.f at h
 split at h
 ·rename_i hr
  obtain rfl:=Option.some.inj h
  exact Hof.itoa_calls hLLibStd.2 a0 hr.1 hr.2
 ·cases h
end Go.Proofs.YtdbpglhdicmhhaaGreatDoor.GA
end

section
namespace Go.Proofs.YtdbpglhdicmhhaaGreatDoor.GA
open Go.RowKit Go.Proofs.YtdbpglhdicmhhaaGreatDoorW.PrintWords Go.Proofs.YtdbpglhdicmhhaaGreatDoorW.PrintLast Go.Proofs.YtdbpglhdicmhhaaGreatDoorW.PrintMore
mutual
def listing_prefix.j0 : Nat → Int → Bool → Option (ByteArray)
 | 0,_,_ => none
 | k + 1,x3,x4 => if x4 = true then (some (⟨#[76]⟩ : ByteArray)) else (if x3 = 20 then (listing_prefix.j1 k x3 (x3 == 20)) else (listing_prefix.j1 k x3 (x3 == 22)))
def listing_prefix.j1 : Nat → Int → Bool → Option (ByteArray)
 | 0,_,_ => none
 | k + 1,x3,x8 => if x8 = true then (some (⟨#[102]⟩ : ByteArray)) else (if x3 = 34 then (some (⟨#[116]⟩ : ByteArray)) else (some (⟨#[]⟩ : ByteArray)))
end
def listing_prefix.f (k : Nat) (a0 : Int) : Option (ByteArray):=if a0 = 17 then (listing_prefix.j0 k a0 (a0 == 17)) else (if a0 = 18 then (listing_prefix.j0 k a0 (a0 == 18)) else (listing_prefix.j0 k a0 (a0 == 19)))
theorem listing_prefix.mono_l : ∀ k,(∀ y0 y1,LeO (listing_prefix.j0 k y0 y1) (listing_prefix.j0 (k + 1) y0 y1)) ∧ (∀ y0 y1,LeO (listing_prefix.j1 k y0 y1) (listing_prefix.j1 (k + 1) y0 y1))
 | 0 => ⟨fun _ _ r h => by simp [listing_prefix.j0] at h,fun _ _ r h => by simp [listing_prefix.j1] at h⟩
 | k + 1 => by
  obtain ⟨ih0,ih1⟩:=listing_prefix.mono_l k
  refine ⟨?_,?_⟩
  ·intro y0 y1
   unfold listing_prefix.j0
   repeat' first
   | (with_reducible exact ih0 _ _)
   | (with_reducible exact ih1 _ _)
   | (with_reducible exact LeO.refl _)
   | (with_reducible exact LeO.none _)
   | (with_reducible refine LeO.ite ?_ ?_)
   | (with_reducible refine LeO.bind ?_ (fun _ => ?_))
   | exact ih0 _ _
   | exact ih1 _ _
   | exact LeO.none _
   | refine LeO.ite ?_ ?_
   | refine LeO.bind ?_ (fun _ => ?_)
  ·intro y0 y1
   unfold listing_prefix.j1
   repeat' first
   | (with_reducible exact ih0 _ _)
   | (with_reducible exact ih1 _ _)
   | (with_reducible exact LeO.refl _)
   | (with_reducible exact LeO.none _)
   | (with_reducible refine LeO.ite ?_ ?_)
   | (with_reducible refine LeO.bind ?_ (fun _ => ?_))
   | exact ih0 _ _
   | exact ih1 _ _
   | exact LeO.none _
   | refine LeO.ite ?_ ?_
   | refine LeO.bind ?_ (fun _ => ?_)
theorem listing_prefix.mono : ∀ a0 k,LeO (listing_prefix.f k a0) (listing_prefix.f (k + 1) a0):=by
 intro a0 k
 obtain ⟨ih0,ih1⟩:=listing_prefix.mono_l k
 unfold listing_prefix.f
 repeat' first
   | (with_reducible exact ih0 _ _)
   | (with_reducible exact ih1 _ _)
   | (with_reducible exact LeO.refl _)
   | (with_reducible exact LeO.none _)
   | (with_reducible refine LeO.ite ?_ ?_)
   | (with_reducible refine LeO.bind ?_ (fun _ => ?_))
   | exact ih0 _ _
   | exact ih1 _ _
   | exact LeO.none _
   | refine LeO.ite ?_ ?_
   | refine LeO.bind ?_ (fun _ => ?_)
set_option maxHeartbeats 8000000 in
set_option maxRecDepth 100000 in
theorem listing_prefix.calls (k : Nat) (a0 : Int) (r : ByteArray) (w : World) (h : listing_prefix.f k a0 = some r) :
  Calls Tryz.prog 39 #[.int .i64 a0] w fun e w' => e = .returned (.string r) ∧ Drawn0 w w':=by
 have H : (if a0 = 17 then (listing_prefix.j0 k a0 (a0 == 17)) else (if a0 = 18 then (listing_prefix.j0 k a0 (a0 == 18)) else (listing_prefix.j0 k a0 (a0 == 19)))) = some r:=h
 clear h
 have HC2:=Aside0.mk H
 clear H
 go_enter Tryz.func39,Tryz.ntmps39
 go_upto_if 4 with (fail)
 go_cut [4] (fun v4 wc => ∃ (kq : Nat) (x4_1 : Bool),v4 = .bool x4_1 ∧ Aside0 (listing_prefix.j0 kq a0 x4_1 = some r) ∧ Aside0 (kq ≤ k) ∧ Drawn0 w wc)
 case first =>
  have H:=HC2.out
  clear HC2
  by_cases c3 : a0 = 17
  ·rw [if_pos c3] at H
   have c3b0 : (a0 == 17) = true:=beq_iff_eq.mpr c3
   have c3b1 : (a0 != 17) = false:=bne_eq_false_iff_eq.mpr c3
   clear c3
   (first | rw [c3b0] | (simp only [i64_w,i32_w]; rw [c3b0]) | skip)
   have H':=Aside0.mk H
   clear H
   go_wp2
   go_meet
   case rel => exact ⟨_,((a0 == 17)),(by first | rfl | (simp; done) | (simp [*]; done)),H',⟨by first | omega | exact Nat.le_refl _⟩,by repeat (first | exact Drawn0.refl _ | apply Drawn0.step)⟩
  ·rw [if_neg c3] at H
   have c3b0 : (a0 == 17) = false:=beq_eq_false_iff_ne.mpr c3
   have c3b1 : (a0 != 17) = true:=bne_iff_ne.mpr c3
   (first | rw [c3b0] | (simp only [i64_w,i32_w]; rw [c3b0]) | skip)
   by_cases c4 : a0 = 18
   ·rw [if_pos c4] at H
    have c4b0 : (a0 == 18) = true:=beq_iff_eq.mpr c4
    have c4b1 : (a0 != 18) = false:=bne_eq_false_iff_eq.mpr c4
    clear c4
    have H':=Aside0.mk H
    clear H
    go_wp2
    go_meet
    case rel => exact ⟨_,((a0 == 18)),(by first | rfl | (simp; done) | (simp [*]; done)),H',⟨by first | omega | exact Nat.le_refl _⟩,by repeat (first | exact Drawn0.refl _ | apply Drawn0.step)⟩
   ·rw [if_neg c4] at H
    have c4b0 : (a0 == 18) = false:=beq_eq_false_iff_ne.mpr c4
    have c4b1 : (a0 != 18) = true:=bne_iff_ne.mpr c4
    have H':=Aside0.mk H
    clear H
    go_wp2
    go_meet
    case rel => exact ⟨_,((a0 == 19)),(by first | rfl | (simp; done) | (simp [*]; done)),H',⟨by first | omega | exact Nat.le_refl _⟩,by repeat (first | exact Drawn0.refl _ | apply Drawn0.step)⟩
 case rest =>
  clear HC2
  try clear p2
  try clear c3
  try clear c3b0
  try clear c3b1
  try clear c4
  try clear c4b0
  try clear c4b1
  obtain ⟨kq,x4_1,rfl,HA,HJ1,⟨mc1,rfl⟩⟩:=hcut
  cases kq with
  | zero => exact absurd HA.out (by simp [listing_prefix.j0])
  | succ kj1 =>
   have H:=HA.out
   clear HA
   simp only [listing_prefix.j0] at H
   by_cases c5 : x4_1 = true
   ·subst c5
    have H1 : (some (⟨#[76]⟩ : ByteArray)) = some r:=by rw [if_pos rfl] at H; exact H
    clear H
    have H:=H1
    clear H1
    obtain rfl:=Option.some.inj H
    go_wp2
    go_ret
    exact ⟨by first | rfl | (simp; done) | (simp [*]; done),by repeat (first | exact Drawn0.refl _ | apply Drawn0.step)⟩
   ·replace c5:=Bool.eq_false_iff.mpr c5
    subst c5
    have H1 : (if a0 = 20 then (listing_prefix.j1 kj1 a0 (a0 == 20)) else (listing_prefix.j1 kj1 a0 (a0 == 22))) = some r:=by rw [if_neg (show ¬ (false = true) by decide)] at H; exact H
    clear H
    have H:=H1
    clear H1
    have HC6:=Aside0.mk H
    clear H
    go_upto_if 8 with (fail)
    go_cut [8] (fun v8 wc => ∃ (kq : Nat) (x8_5 : Bool),v8 = .bool x8_5 ∧ Aside0 (listing_prefix.j1 kq a0 x8_5 = some r) ∧ Aside0 (kq ≤ kj1) ∧ Drawn0 w wc)
    case first =>
     have H:=HC6.out
     clear HC6
     by_cases c7 : a0 = 20
     ·rw [if_pos c7] at H
      have c7b0 : (a0 == 20) = true:=beq_iff_eq.mpr c7
      have c7b1 : (a0 != 20) = false:=bne_eq_false_iff_eq.mpr c7
      clear c7
      (first | rw [c7b0] | (simp only [i64_w,i32_w]; rw [c7b0]) | skip)
      have H':=Aside0.mk H
      clear H
      go_wp2
      go_meet
      case rel => exact ⟨_,((a0 == 20)),(by first | rfl | (simp; done) | (simp [*]; done)),H',⟨by have:=HJ1.out; first | omega | exact Nat.le_refl _⟩,by repeat (first | exact Drawn0.refl _ | apply Drawn0.step)⟩
     ·rw [if_neg c7] at H
      have c7b0 : (a0 == 20) = false:=beq_eq_false_iff_ne.mpr c7
      have c7b1 : (a0 != 20) = true:=bne_iff_ne.mpr c7
      (first | rw [c7b0] | (simp only [i64_w,i32_w]; rw [c7b0]) | skip)
      have H':=Aside0.mk H
      clear H
      go_wp2
      go_meet
      case rel => exact ⟨_,((a0 == 22)),(by first | rfl | (simp; done) | (simp [*]; done)),H',⟨by have:=HJ1.out; first | omega | exact Nat.le_refl _⟩,by repeat (first | exact Drawn0.refl _ | apply Drawn0.step)⟩
    case rest =>
     clear HC6
     try clear c1
     try clear p2
     try clear c3
     try clear c3b0
     try clear c3b1
     try clear c4
     try clear c4b0
     try clear c4b1
     try clear c5
     try clear c7
     try clear c7b0
     try clear c7b1
     try clear p2
     obtain ⟨kq,x8_5,rfl,HA,HJ5,⟨mc5,rfl⟩⟩:=hcut
     cases kq with
     | zero => exact absurd HA.out (by simp [listing_prefix.j1])
     | succ kj5 =>
      have H:=HA.out
      clear HA
      simp only [listing_prefix.j1] at H
      by_cases c8 : x8_5 = true
      ·subst c8
       have H1 : (some (⟨#[102]⟩ : ByteArray)) = some r:=by rw [if_pos rfl] at H; exact H
       clear H
       have H:=H1
       clear H1
       obtain rfl:=Option.some.inj H
       go_wp2
       go_ret
       exact ⟨by first | rfl | (simp; done) | (simp [*]; done),by repeat (first | exact Drawn0.refl _ | apply Drawn0.step)⟩
      ·replace c8:=Bool.eq_false_iff.mpr c8
       subst c8
       have H1 : (if a0 = 34 then (some (⟨#[116]⟩ : ByteArray)) else (some (⟨#[]⟩ : ByteArray))) = some r:=by rw [if_neg (show ¬ (false = true) by decide)] at H; exact H
       clear H
       have H:=H1
       clear H1
       by_cases c9 : a0 = 34
       ·rw [if_pos c9] at H
        have c9b0 : (a0 == 34) = true:=beq_iff_eq.mpr c9
        have c9b1 : (a0 != 34) = false:=bne_eq_false_iff_eq.mpr c9
        clear c9
        obtain rfl:=Option.some.inj H
        go_wp2
        go_ret
        exact ⟨by first | rfl | (simp; done) | (simp [*]; done),by repeat (first | exact Drawn0.refl _ | apply Drawn0.step)⟩
       ·rw [if_neg c9] at H
        have c9b0 : (a0 == 34) = false:=beq_eq_false_iff_ne.mpr c9
        have c9b1 : (a0 != 34) = true:=bne_iff_ne.mpr c9
        obtain rfl:=Option.some.inj H
        go_wp2
        go_ret
        exact ⟨by first | rfl | (simp; done) | (simp [*]; done),by repeat (first | exact Drawn0.refl _ | apply Drawn0.step)⟩
end Go.Proofs.YtdbpglhdicmhhaaGreatDoor.GA
end
