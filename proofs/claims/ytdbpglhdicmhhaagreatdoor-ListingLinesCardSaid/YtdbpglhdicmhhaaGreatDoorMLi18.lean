import Derived.Test.YtdbpglhdicmhhaaGreatDoorMLi6
import Derived.Test.YtdbpglhdicmhhaaGreatDoorMLi17
import Derived.Test.YtdbpglhdicmhhaaGreatDoorMLi9
import Derived.Test.YtdbpglhdicmhhaaGreatDoorMLi12
set_option linter.unusedVariables false
set_option linter.unusedSimpArgs false
section
namespace Go.Proofs.YtdbpglhdicmhhaaGreatDoor.GA
open Go.RowKit Go.Proofs.YtdbpglhdicmhhaaGreatDoorW.PrintWords Go.Proofs.YtdbpglhdicmhhaaGreatDoorW.PrintLast Go.Proofs.YtdbpglhdicmhhaaGreatDoorW.PrintMore
mutual
def rotaref07_Line.j0 : Nat → Int → Bool → List Int → List (S41) → List (S44) → Option (ByteArray × Int)
 | 0,_,_,_,_,_ => none
 | k + 1,x1,x25,x509000,x509001,x509002 => if x25 = true then (some ((⟨#[]⟩ : ByteArray),1)) else (if 0 ≤ x1 then (if x1 < (x509000.length : Int) then ((rotaref06_Decode.f (rd x509000 x1)).bind fun bt510 => (if bt510.2.2.2.2.2 = 0 then ((rotaref06_Name.f bt510.1).bind fun bt517 => ((rotaref06_Shape.f bt510.1).bind fun bt519 => ((rotaref06_Has.f bt519.1).bind fun bt521 => (if bt521.1 = true then (if bt517.1.size + 2 ≤ 9223372036854775807 then ((rotaref07_decimal.f k bt510.2.1).bind fun t526 => (if (bt517.1 ++ (⟨#[32,114]⟩ : ByteArray)).size + t526.size ≤ 9223372036854775807 then (rotaref07_Line.j1 k ((bt517.1 ++ (⟨#[32,114]⟩ : ByteArray)) ++ t526) bt521.2.1 bt521.2.2.1 bt521.2.2.2.1 bt521.2.2.2.2 bt510.1 bt510.2.1 bt510.2.2.1 bt510.2.2.2.1 bt510.2.2.2.2.1) else (none))) else (none)) else (rotaref07_Line.j1 k bt517.1 bt521.2.1 bt521.2.2.1 bt521.2.2.2.1 bt521.2.2.2.2 bt510.1 bt510.2.1 bt510.2.2.1 bt510.2.2.2.1 bt510.2.2.2.2.1))))) else (some ((⟨#[]⟩ : ByteArray),bt510.2.2.2.2.2)))) else (none)) else (none))
def rotaref07_Line.j1 : Nat → ByteArray → Bool → Bool → Int → Int → Int → Int → Int → Int → Int → Option (ByteArray × Int)
 | 0,_,_,_,_,_,_,_,_,_,_ => none
 | k + 1,x8,x13,x14,x15,x16,x517000,x517001,x517002,x517003,x517004 => if x13 = true then (if x8.size + 2 ≤ 9223372036854775807 then ((rotaref07_decimal.f k x517002).bind fun t527 => (if (x8 ++ (⟨#[32,114]⟩ : ByteArray)).size + t527.size ≤ 9223372036854775807 then (rotaref07_Line.j2 k ((x8 ++ (⟨#[32,114]⟩ : ByteArray)) ++ t527) x14 x15 x16 x517000 x517001 x517002 x517003 x517004) else (none))) else (none)) else (rotaref07_Line.j2 k x8 x14 x15 x16 x517000 x517001 x517002 x517003 x517004)
def rotaref07_Line.j2 : Nat → ByteArray → Bool → Int → Int → Int → Int → Int → Int → Int → Option (ByteArray × Int)
 | 0,_,_,_,_,_,_,_,_,_ => none
 | k + 1,x8,x14,x15,x16,x517000,x517001,x517002,x517003,x517004 => if x14 = true then (if x8.size + 2 ≤ 9223372036854775807 then ((rotaref07_decimal.f k x517003).bind fun t528 => (if (x8 ++ (⟨#[32,114]⟩ : ByteArray)).size + t528.size ≤ 9223372036854775807 then (rotaref07_Line.j3 k ((x8 ++ (⟨#[32,114]⟩ : ByteArray)) ++ t528) x15 x16 x517000 x517001 x517002 x517003 x517004) else (none))) else (none)) else (rotaref07_Line.j3 k x8 x15 x16 x517000 x517001 x517002 x517003 x517004)
def rotaref07_Line.j3 : Nat → ByteArray → Int → Int → Int → Int → Int → Int → Int → Option (ByteArray × Int)
 | 0,_,_,_,_,_,_,_,_ => none
 | k + 1,x8,x15,x16,x517000,x517001,x517002,x517003,x517004 => if x15 = 0 then (rotaref07_Line.j4 k x8 (x16 != 0) x517000 x517001 x517002 x517003 x517004) else (rotaref07_Line.j4 k x8 true x517000 x517001 x517002 x517003 x517004)
def rotaref07_Line.j4 : Nat → ByteArray → Bool → Int → Int → Int → Int → Int → Option (ByteArray × Int)
 | 0,_,_,_,_,_,_,_ => none
 | k + 1,x8,x84,x517000,x517001,x517002,x517003,x517004 => if x84 = true then (if x8.size + 1 ≤ 9223372036854775807 then ((rotaref07_ahead.f k x517000).bind fun t529 => (if (x8 ++ (⟨#[32]⟩ : ByteArray)).size + t529.size ≤ 9223372036854775807 then ((rotaref07_decimal.f k x517004).bind fun t530 => (if ((x8 ++ (⟨#[32]⟩ : ByteArray)) ++ t529).size + t530.size ≤ 9223372036854775807 then (some (((x8 ++ (⟨#[32]⟩ : ByteArray)) ++ t529) ++ t530,0)) else (none))) else (none))) else (none)) else (some (x8,0))
end
def rotaref07_Line.f (k : Nat) (l0_0 : List Int) (l0_1 : List (S41)) (l0_2 : List (S44)) (a1 : Int) : Option (ByteArray × Int):=if a1 < 0 then (rotaref07_Line.j0 k a1 true l0_0 l0_1 l0_2) else (rotaref07_Line.j0 k a1 (decide (a1 ≥ (l0_0.length : Int))) l0_0 l0_1 l0_2)
theorem rotaref07_Line.mono_l : ∀ k,(∀ y0 y1 y2 y3 y4,LeO (rotaref07_Line.j0 k y0 y1 y2 y3 y4) (rotaref07_Line.j0 (k + 1) y0 y1 y2 y3 y4)) ∧ (∀ y0 y1 y2 y3 y4 y5 y6 y7 y8 y9,LeO (rotaref07_Line.j1 k y0 y1 y2 y3 y4 y5 y6 y7 y8 y9) (rotaref07_Line.j1 (k + 1) y0 y1 y2 y3 y4 y5 y6 y7 y8 y9)) ∧ (∀ y0 y1 y2 y3 y4 y5 y6 y7 y8,LeO (rotaref07_Line.j2 k y0 y1 y2 y3 y4 y5 y6 y7 y8) (rotaref07_Line.j2 (k + 1) y0 y1 y2 y3 y4 y5 y6 y7 y8)) ∧ (∀ y0 y1 y2 y3 y4 y5 y6 y7,LeO (rotaref07_Line.j3 k y0 y1 y2 y3 y4 y5 y6 y7) (rotaref07_Line.j3 (k + 1) y0 y1 y2 y3 y4 y5 y6 y7)) ∧ (∀ y0 y1 y2 y3 y4 y5 y6,LeO (rotaref07_Line.j4 k y0 y1 y2 y3 y4 y5 y6) (rotaref07_Line.j4 (k + 1) y0 y1 y2 y3 y4 y5 y6))
 | 0 => ⟨fun _ _ _ _ _ r h => by simp [rotaref07_Line.j0] at h,fun _ _ _ _ _ _ _ _ _ _ r h => by simp [rotaref07_Line.j1] at h,fun _ _ _ _ _ _ _ _ _ r h => by simp [rotaref07_Line.j2] at h,fun _ _ _ _ _ _ _ _ r h => by simp [rotaref07_Line.j3] at h,fun _ _ _ _ _ _ _ r h => by simp [rotaref07_Line.j4] at h⟩
 | k + 1 => by
  obtain ⟨ih0,ih1,ih2,ih3,ih4⟩:=rotaref07_Line.mono_l k
  refine ⟨?_,?_,?_,?_,?_⟩
  ·intro y0 y1 y2 y3 y4
   unfold rotaref07_Line.j0
   repeat' first
   | (with_reducible exact ih0 _ _ _ _ _)
   | (with_reducible exact ih1 _ _ _ _ _ _ _ _ _ _)
   | (with_reducible exact ih2 _ _ _ _ _ _ _ _ _)
   | (with_reducible exact ih3 _ _ _ _ _ _ _ _)
   | (with_reducible exact ih4 _ _ _ _ _ _ _)
   | (with_reducible exact rotaref07_ahead.mono _ _)
   | (with_reducible exact rotaref07_decimal.mono _ _)
   | (with_reducible exact LeO.refl _)
   | (with_reducible exact LeO.none _)
   | (with_reducible refine LeO.ite ?_ ?_)
   | (with_reducible refine LeO.bind ?_ (fun _ => ?_))
   | exact ih0 _ _ _ _ _
   | exact ih1 _ _ _ _ _ _ _ _ _ _
   | exact ih2 _ _ _ _ _ _ _ _ _
   | exact ih3 _ _ _ _ _ _ _ _
   | exact ih4 _ _ _ _ _ _ _
   | exact rotaref07_ahead.mono _ _
   | exact rotaref07_decimal.mono _ _
   | exact LeO.none _
   | refine LeO.ite ?_ ?_
   | refine LeO.bind ?_ (fun _ => ?_)
  ·intro y0 y1 y2 y3 y4 y5 y6 y7 y8 y9
   unfold rotaref07_Line.j1
   repeat' first
   | (with_reducible exact ih0 _ _ _ _ _)
   | (with_reducible exact ih1 _ _ _ _ _ _ _ _ _ _)
   | (with_reducible exact ih2 _ _ _ _ _ _ _ _ _)
   | (with_reducible exact ih3 _ _ _ _ _ _ _ _)
   | (with_reducible exact ih4 _ _ _ _ _ _ _)
   | (with_reducible exact rotaref07_ahead.mono _ _)
   | (with_reducible exact rotaref07_decimal.mono _ _)
   | (with_reducible exact LeO.refl _)
   | (with_reducible exact LeO.none _)
   | (with_reducible refine LeO.ite ?_ ?_)
   | (with_reducible refine LeO.bind ?_ (fun _ => ?_))
   | exact ih0 _ _ _ _ _
   | exact ih1 _ _ _ _ _ _ _ _ _ _
   | exact ih2 _ _ _ _ _ _ _ _ _
   | exact ih3 _ _ _ _ _ _ _ _
   | exact ih4 _ _ _ _ _ _ _
   | exact rotaref07_ahead.mono _ _
   | exact rotaref07_decimal.mono _ _
   | exact LeO.none _
   | refine LeO.ite ?_ ?_
   | refine LeO.bind ?_ (fun _ => ?_)
  ·intro y0 y1 y2 y3 y4 y5 y6 y7 y8
   unfold rotaref07_Line.j2
   repeat' first
   | (with_reducible exact ih0 _ _ _ _ _)
   | (with_reducible exact ih1 _ _ _ _ _ _ _ _ _ _)
   | (with_reducible exact ih2 _ _ _ _ _ _ _ _ _)
   | (with_reducible exact ih3 _ _ _ _ _ _ _ _)
   | (with_reducible exact ih4 _ _ _ _ _ _ _)
   | (with_reducible exact rotaref07_ahead.mono _ _)
   | (with_reducible exact rotaref07_decimal.mono _ _)
   | (with_reducible exact LeO.refl _)
   | (with_reducible exact LeO.none _)
   | (with_reducible refine LeO.ite ?_ ?_)
   | (with_reducible refine LeO.bind ?_ (fun _ => ?_))
   | exact ih0 _ _ _ _ _
   | exact ih1 _ _ _ _ _ _ _ _ _ _
   | exact ih2 _ _ _ _ _ _ _ _ _
   | exact ih3 _ _ _ _ _ _ _ _
   | exact ih4 _ _ _ _ _ _ _
   | exact rotaref07_ahead.mono _ _
   | exact rotaref07_decimal.mono _ _
   | exact LeO.none _
   | refine LeO.ite ?_ ?_
   | refine LeO.bind ?_ (fun _ => ?_)
  ·intro y0 y1 y2 y3 y4 y5 y6 y7
   unfold rotaref07_Line.j3
   repeat' first
   | (with_reducible exact ih0 _ _ _ _ _)
   | (with_reducible exact ih1 _ _ _ _ _ _ _ _ _ _)
   | (with_reducible exact ih2 _ _ _ _ _ _ _ _ _)
   | (with_reducible exact ih3 _ _ _ _ _ _ _ _)
   | (with_reducible exact ih4 _ _ _ _ _ _ _)
   | (with_reducible exact rotaref07_ahead.mono _ _)
   | (with_reducible exact rotaref07_decimal.mono _ _)
   | (with_reducible exact LeO.refl _)
   | (with_reducible exact LeO.none _)
   | (with_reducible refine LeO.ite ?_ ?_)
   | (with_reducible refine LeO.bind ?_ (fun _ => ?_))
   | exact ih0 _ _ _ _ _
   | exact ih1 _ _ _ _ _ _ _ _ _ _
   | exact ih2 _ _ _ _ _ _ _ _ _
   | exact ih3 _ _ _ _ _ _ _ _
   | exact ih4 _ _ _ _ _ _ _
   | exact rotaref07_ahead.mono _ _
   | exact rotaref07_decimal.mono _ _
   | exact LeO.none _
   | refine LeO.ite ?_ ?_
   | refine LeO.bind ?_ (fun _ => ?_)
  ·intro y0 y1 y2 y3 y4 y5 y6
   unfold rotaref07_Line.j4
   repeat' first
   | (with_reducible exact ih0 _ _ _ _ _)
   | (with_reducible exact ih1 _ _ _ _ _ _ _ _ _ _)
   | (with_reducible exact ih2 _ _ _ _ _ _ _ _ _)
   | (with_reducible exact ih3 _ _ _ _ _ _ _ _)
   | (with_reducible exact ih4 _ _ _ _ _ _ _)
   | (with_reducible exact rotaref07_ahead.mono _ _)
   | (with_reducible exact rotaref07_decimal.mono _ _)
   | (with_reducible exact LeO.refl _)
   | (with_reducible exact LeO.none _)
   | (with_reducible refine LeO.ite ?_ ?_)
   | (with_reducible refine LeO.bind ?_ (fun _ => ?_))
   | exact ih0 _ _ _ _ _
   | exact ih1 _ _ _ _ _ _ _ _ _ _
   | exact ih2 _ _ _ _ _ _ _ _ _
   | exact ih3 _ _ _ _ _ _ _ _
   | exact ih4 _ _ _ _ _ _ _
   | exact rotaref07_ahead.mono _ _
   | exact rotaref07_decimal.mono _ _
   | exact LeO.none _
   | refine LeO.ite ?_ ?_
   | refine LeO.bind ?_ (fun _ => ?_)
theorem rotaref07_Line.mono : ∀ a0 a1 a2 a3 k,LeO (rotaref07_Line.f k a0 a1 a2 a3) (rotaref07_Line.f (k + 1) a0 a1 a2 a3):=by
 intro a0 a1 a2 a3 k
 obtain ⟨ih0,ih1,ih2,ih3,ih4⟩:=rotaref07_Line.mono_l k
 unfold rotaref07_Line.f
 repeat' first
   | (with_reducible exact ih0 _ _ _ _ _)
   | (with_reducible exact ih1 _ _ _ _ _ _ _ _ _ _)
   | (with_reducible exact ih2 _ _ _ _ _ _ _ _ _)
   | (with_reducible exact ih3 _ _ _ _ _ _ _ _)
   | (with_reducible exact ih4 _ _ _ _ _ _ _)
   | (with_reducible exact rotaref07_ahead.mono _ _)
   | (with_reducible exact rotaref07_decimal.mono _ _)
   | (with_reducible exact LeO.refl _)
   | (with_reducible exact LeO.none _)
   | (with_reducible refine LeO.ite ?_ ?_)
   | (with_reducible refine LeO.bind ?_ (fun _ => ?_))
   | exact ih0 _ _ _ _ _
   | exact ih1 _ _ _ _ _ _ _ _ _ _
   | exact ih2 _ _ _ _ _ _ _ _ _
   | exact ih3 _ _ _ _ _ _ _ _
   | exact ih4 _ _ _ _ _ _ _
   | exact rotaref07_ahead.mono _ _
   | exact rotaref07_decimal.mono _ _
   | exact LeO.none _
   | refine LeO.ite ?_ ?_
   | refine LeO.bind ?_ (fun _ => ?_)
def rotaref07_Line.T16 : Bool × List (List Nat × List Nat):=(true,[([],[]),([0],[0]),([],[]),([2],[2]),([3],[3]),([1,4],[1,4]),([],[]),([6],[6]),([7,4],[7]),([5,8],[5,8]),([9,8,0,1,2,3,4,5,6,7,8,9],[0,9])])
def rotaref07_Line.B16 : List Nat:=[0,1,0,4,12,31,0,64,220,511,1023]
theorem rotaref07_Line.tab16 : rtab .any (opsOf Tryz.f15 16) = rotaref07_Line.T16:=by kernel_rfl
theorem rotaref07_Line.bits16 : waitsOk rotaref07_Line.T16.2 rotaref07_Line.B16 = true:=by kernel_rfl
set_option maxHeartbeats 8000000 in
set_option maxRecDepth 100000 in
theorem rotaref07_Line.calls (k : Nat) (A0_0 : Option Addr) (c0_0 : Nat) (l0_0 : List Int) (A0_1 : Option Addr) (c0_1 : Nat) (l0_1 : List (S41)) (A0_2 : Option Addr) (c0_2 : Nat) (l0_2 : List (S44)) (a1 : Int) (r1 : ByteArray) (r2 : Int) (w : World) (hr0_0 : Kd.C (Kd.int .u32) w A0_0 l0_0.length l0_0) (hc0_0 : l0_0.length ≤ c0_0) (hr0_1 : Kd.C k41 w A0_1 l0_1.length l0_1) (hc0_1 : l0_1.length ≤ c0_1) (hr0_2 : Kd.C k44 w A0_2 l0_2.length l0_2) (hc0_2 : l0_2.length ≤ c0_2) (h : rotaref07_Line.f k l0_0 l0_1 l0_2 a1 = some (r1,r2)) :
  Calls Tryz.prog 15 #[.agg #[.slice A0_0 l0_0.length c0_0,.slice A0_1 l0_1.length c0_1,.slice A0_2 l0_2.length c0_2],.int .i64 a1] w fun e w' => e = .returned (.tuple #[.string r1,.int .i64 r2]) ∧ Below w.heap.size w w':=by
 have hu26:=Tryz.underlying26
 have hu70:=Tryz.underlying70
 have HR0_0:=Aside0.mk hr0_0
 have HC0_0:=Aside0.mk hc0_0
 clear hr0_0 hc0_0
 have HR0_1:=Aside0.mk hr0_1
 have HC0_1:=Aside0.mk hc0_1
 clear hr0_1 hc0_1
 have HR0_2:=Aside0.mk hr0_2
 have HC0_2:=Aside0.mk hc0_2
 clear hr0_2 hc0_2
 have HB:=Aside0.mk (Below.refl w.heap.size w)
 have H : (if a1 < 0 then (rotaref07_Line.j0 k a1 true l0_0 l0_1 l0_2) else (rotaref07_Line.j0 k a1 (decide (a1 ≥ (l0_0.length : Int))) l0_0 l0_1 l0_2)) = some (r1,r2):=h
 clear h
 have HC3:=Aside0.mk H
 clear H
 go_enter Tryz.func15,Tryz.ntmps15
 go_upto_region 1 with (first | ((with_reducible refine gate_dst (N:=2) rfl ?_); (try (refine gate_guard (by rfl) ?_; dsimp only)); refine box_event ?hg (N:=2) ?hd (cs:=#[.slice A0_0 l0_0.length c0_0,.slice A0_1 l0_1.length c0_1,.slice A0_2 l0_2.length c0_2]) (t:=26) ?hr ?_; (case hd => rfl); (case hg => rfl); (case hr => first | (go_simp; done) | (go_simp; rfl)); intro gb508 hg w4 hbox hb; have n0_:=Aside0.mk (below_step (by repeat (first | (with_reducible first | exact HB.out | apply below_alloc | apply pw_below_drewN | apply below_drew1) | exact HB.out)) hb); have n1_:=Aside0.mk (hbox); have n2_:=Aside0.mk ((by rw [hg]; exact (below_size (by repeat (first | (with_reducible first | exact HB.out | apply below_alloc | apply pw_below_drewN | apply below_drew1) | exact HB.out))) : w.heap.size ≤ gb508)); have n3_:=Aside0.mk ((by rw [hg]; exact (below_size (by repeat (first | (with_reducible first | exact HB.out | apply below_alloc | apply pw_below_drewN | apply below_drew1) | exact HB.out))) : w.heap.size ≤ gb508)); clear HB; have HB:=n0_; have BK508:=n1_; have GW508:=n2_; have GE508:=n3_; clear n0_ n1_ n2_ n3_; clear hb hbox hg))
 (try simp only [Act.put,sAz,sCz,sCs])
 go_cut [25] (fun v25 wc => ∃ (kq : Nat) (x25_2 : Bool),v25 = .bool x25_2 ∧ Aside0 (rotaref07_Line.j0 kq a1 x25_2 l0_0 l0_1 l0_2 = some (r1,r2)) ∧ Aside0 (kq ≤ k) ∧ Aside0 (wc.heap[gb508]? = some (.cells #[(.slice A0_0 l0_0.length c0_0),(.slice A0_1 l0_1.length c0_1),(.slice A0_2 l0_2.length c0_2)] 26 (0,0))) ∧ Aside0 (Below w.heap.size w wc))
 case first =>
  have H:=HC3.out
  clear HC3
  by_cases c5 : a1 < 0
  ·rw [if_pos c5] at H
   have c5b0 : decide (a1 < 0) = true:=decide_eq_true c5
   clear c5
   (first | rw [c5b0] | (simp only [i64_w,i32_w]; rw [c5b0]) | skip)
   have H':=Aside0.mk H
   clear H
   go_wp2
   go_meet
   case rel => exact ⟨_,(true),(by first | rfl | (simp; done) | (simp [*]; done)),H',⟨by first | omega | exact Nat.le_refl _⟩,⟨by (with_reducible repeat (first | refine blk_drewN ?_ _ | refine blk_drew ?_ | refine blk_alloc ?_ _)); exact BK508.out⟩,⟨by repeat (first | (with_reducible first | exact HB.out | apply below_alloc | apply pw_below_drewN | apply below_drew1 | refine below_set ?_ GE508.out) | exact HB.out)⟩⟩
  ·rw [if_neg c5] at H
   have c5b0 : decide (a1 < 0) = false:=decide_eq_false c5
   clear c5
   (first | rw [c5b0] | (simp only [i64_w,i32_w]; rw [c5b0]) | skip)
   have H':=Aside0.mk H
   clear H
   have hcz6_0 : w4.cell? ⟨gb508,0,none⟩ = some (.slice A0_0 l0_0.length c0_0):=(blk_cell BK508.out 0).trans rfl
   have hcz6_1 : w4.cell? ⟨gb508,1,none⟩ = some (.slice A0_1 l0_1.length c0_1):=(blk_cell BK508.out 1).trans rfl
   have hcz6_2 : w4.cell? ⟨gb508,2,none⟩ = some (.slice A0_2 l0_2.length c0_2):=(blk_cell BK508.out 2).trans rfl
   have hfz6_0:=blk_frozen BK508.out 0
   have hfz6_1:=blk_frozen BK508.out 1
   have hfz6_2:=blk_frozen BK508.out 2
   go_wp2
   go_meet
   case rel => exact ⟨_,(decide (a1 ≥ (l0_0.length : Int))),(by first | rfl | (simp; done) | (simp [*]; done)),H',⟨by first | omega | exact Nat.le_refl _⟩,⟨by (with_reducible repeat (first | refine blk_drewN ?_ _ | refine blk_drew ?_ | refine blk_alloc ?_ _)); exact BK508.out⟩,⟨by repeat (first | (with_reducible first | exact HB.out | apply below_alloc | apply pw_below_drewN | apply below_drew1 | refine below_set ?_ GE508.out) | exact HB.out)⟩⟩
 case rest =>
  clear HC3
  try clear c1
  try clear p2
  try clear c5
  try clear c5b0
  try clear hcz6_0
  try clear hcz6_1
  try clear hcz6_2
  try clear hfz6_0
  try clear hfz6_1
  try clear hfz6_2
  obtain ⟨kq,x25_2,rfl,HA,HJ2,BK508,HB⟩:=hcut
  cases kq with
  | zero => exact absurd HA.out (by simp [rotaref07_Line.j0])
  | succ kj2 =>
   have H:=HA.out
   clear HA
   simp only [rotaref07_Line.j0] at H
   by_cases c7 : x25_2 = true
   ·subst c7
    have H1 : (some ((⟨#[]⟩ : ByteArray),1)) = some (r1,r2):=by rw [if_pos rfl] at H; exact H
    clear H
    have H:=H1
    clear H1
    simp only [Option.some.injEq,Prod.mk.injEq] at H
    obtain ⟨rfl,rfl⟩:=H
    go_wp2
    go_ret2
    exact ⟨by first | rfl | (simp [errW_none,errW_some] <;> rfl) | (simp [*,errW_none,errW_some] <;> rfl),by repeat (first | (with_reducible first | exact HB.out | apply below_alloc | apply pw_below_drewN | apply below_drew1 | refine below_set ?_ GE508.out) | exact HB.out)⟩
   ·replace c7:=Bool.eq_false_iff.mpr c7
    subst c7
    have H1 : (if 0 ≤ a1 then (if a1 < (l0_0.length : Int) then ((rotaref06_Decode.f (rd l0_0 a1)).bind fun bt510 => (if bt510.2.2.2.2.2 = 0 then ((rotaref06_Name.f bt510.1).bind fun bt517 => ((rotaref06_Shape.f bt510.1).bind fun bt519 => ((rotaref06_Has.f bt519.1).bind fun bt521 => (if bt521.1 = true then (if bt517.1.size + 2 ≤ 9223372036854775807 then ((rotaref07_decimal.f kj2 bt510.2.1).bind fun t526 => (if (bt517.1 ++ (⟨#[32,114]⟩ : ByteArray)).size + t526.size ≤ 9223372036854775807 then (rotaref07_Line.j1 kj2 ((bt517.1 ++ (⟨#[32,114]⟩ : ByteArray)) ++ t526) bt521.2.1 bt521.2.2.1 bt521.2.2.2.1 bt521.2.2.2.2 bt510.1 bt510.2.1 bt510.2.2.1 bt510.2.2.2.1 bt510.2.2.2.2.1) else (none))) else (none)) else (rotaref07_Line.j1 kj2 bt517.1 bt521.2.1 bt521.2.2.1 bt521.2.2.2.1 bt521.2.2.2.2 bt510.1 bt510.2.1 bt510.2.2.1 bt510.2.2.2.1 bt510.2.2.2.2.1))))) else (some ((⟨#[]⟩ : ByteArray),bt510.2.2.2.2.2)))) else (none)) else (none)) = some (r1,r2):=by rw [if_neg (show ¬ (false = true) by decide)] at H; exact H
    clear H
    have H:=H1
    clear H1
    by_cases c8 : 0 ≤ a1
    ·rw [if_pos c8] at H
     have c8b0 : decide (0 ≤ a1) = true:=decide_eq_true c8
     clear c8
     by_cases c9 : a1 < (l0_0.length : Int)
     ·rw [if_pos c9] at H
      have c9b0 : decide (a1 < (l0_0.length : Int)) = true:=decide_eq_true c9
      clear c9
      replace H:=Option.bind_eq_some_iff.mp H
      obtain ⟨⟨t510,t511,t512,t513,t514,t515⟩,A100,H⟩:=H
      replace H : (if t515 = 0 then ((rotaref06_Name.f t510).bind fun bt517 => ((rotaref06_Shape.f t510).bind fun bt519 => ((rotaref06_Has.f bt519.1).bind fun bt521 => (if bt521.1 = true then (if bt517.1.size + 2 ≤ 9223372036854775807 then ((rotaref07_decimal.f kj2 t511).bind fun t526 => (if (bt517.1 ++ (⟨#[32,114]⟩ : ByteArray)).size + t526.size ≤ 9223372036854775807 then (rotaref07_Line.j1 kj2 ((bt517.1 ++ (⟨#[32,114]⟩ : ByteArray)) ++ t526) bt521.2.1 bt521.2.2.1 bt521.2.2.2.1 bt521.2.2.2.2 t510 t511 t512 t513 t514) else (none))) else (none)) else (rotaref07_Line.j1 kj2 bt517.1 bt521.2.1 bt521.2.2.1 bt521.2.2.2.1 bt521.2.2.2.2 t510 t511 t512 t513 t514))))) else (some ((⟨#[]⟩ : ByteArray),t515))) = some (r1,r2):=H
      have A10:=Aside0.mk A100
      clear A100
      by_cases c11 : t515 = 0
      ·rw [if_pos c11] at H
       have c11b0 : (t515 == 0) = true:=beq_iff_eq.mpr c11
       have c11b1 : (t515 != 0) = false:=bne_eq_false_iff_eq.mpr c11
       clear c11
       replace H:=Option.bind_eq_some_iff.mp H
       obtain ⟨⟨t517,t518⟩,A120,H⟩:=H
       replace H : ((rotaref06_Shape.f t510).bind fun bt519 => ((rotaref06_Has.f bt519.1).bind fun bt521 => (if bt521.1 = true then (if t517.size + 2 ≤ 9223372036854775807 then ((rotaref07_decimal.f kj2 t511).bind fun t526 => (if (t517 ++ (⟨#[32,114]⟩ : ByteArray)).size + t526.size ≤ 9223372036854775807 then (rotaref07_Line.j1 kj2 ((t517 ++ (⟨#[32,114]⟩ : ByteArray)) ++ t526) bt521.2.1 bt521.2.2.1 bt521.2.2.2.1 bt521.2.2.2.2 t510 t511 t512 t513 t514) else (none))) else (none)) else (rotaref07_Line.j1 kj2 t517 bt521.2.1 bt521.2.2.1 bt521.2.2.2.1 bt521.2.2.2.2 t510 t511 t512 t513 t514)))) = some (r1,r2):=H
       have A12:=Aside0.mk A120
       clear A120
       replace H:=Option.bind_eq_some_iff.mp H
       obtain ⟨⟨t519,t520⟩,A130,H⟩:=H
       replace H : ((rotaref06_Has.f t519).bind fun bt521 => (if bt521.1 = true then (if t517.size + 2 ≤ 9223372036854775807 then ((rotaref07_decimal.f kj2 t511).bind fun t526 => (if (t517 ++ (⟨#[32,114]⟩ : ByteArray)).size + t526.size ≤ 9223372036854775807 then (rotaref07_Line.j1 kj2 ((t517 ++ (⟨#[32,114]⟩ : ByteArray)) ++ t526) bt521.2.1 bt521.2.2.1 bt521.2.2.2.1 bt521.2.2.2.2 t510 t511 t512 t513 t514) else (none))) else (none)) else (rotaref07_Line.j1 kj2 t517 bt521.2.1 bt521.2.2.1 bt521.2.2.2.1 bt521.2.2.2.2 t510 t511 t512 t513 t514))) = some (r1,r2):=H
       have A13:=Aside0.mk A130
       clear A130
       replace H:=Option.bind_eq_some_iff.mp H
       obtain ⟨⟨t521,t522,t523,t524,t525⟩,A140,H⟩:=H
       replace H : (if t521 = true then (if t517.size + 2 ≤ 9223372036854775807 then ((rotaref07_decimal.f kj2 t511).bind fun t526 => (if (t517 ++ (⟨#[32,114]⟩ : ByteArray)).size + t526.size ≤ 9223372036854775807 then (rotaref07_Line.j1 kj2 ((t517 ++ (⟨#[32,114]⟩ : ByteArray)) ++ t526) t522 t523 t524 t525 t510 t511 t512 t513 t514) else (none))) else (none)) else (rotaref07_Line.j1 kj2 t517 t522 t523 t524 t525 t510 t511 t512 t513 t514)) = some (r1,r2):=H
       have A14:=Aside0.mk A140
       clear A140
       have HC15:=Aside0.mk H
       clear H
       have hcz16_0 : wc.cell? ⟨gb508,0,none⟩ = some (.slice A0_0 l0_0.length c0_0):=(blk_cell BK508.out 0).trans rfl
       have hcz16_1 : wc.cell? ⟨gb508,1,none⟩ = some (.slice A0_1 l0_1.length c0_1):=(blk_cell BK508.out 1).trans rfl
       have hcz16_2 : wc.cell? ⟨gb508,2,none⟩ = some (.slice A0_2 l0_2.length c0_2):=(blk_cell BK508.out 2).trans rfl
       have hfz16_0:=blk_frozen BK508.out 0
       have hfz16_1:=blk_frozen BK508.out 1
       have hfz16_2:=blk_frozen BK508.out 2
       have p509 : 0 ≤ (a1 : Int):=of_decide_eq_true (by first | (with_reducible assumption) | assumption)
       have q509 : a1 < (l0_0.length : Int):=of_decide_eq_true (by first | (with_reducible assumption) | assumption)
       obtain ⟨ad509,e509,hx509_0⟩:=Kd.at_int HR0_0.out a1 p509 q509
       cases e509
       try replace hx509_0:=(HB.out.cell (World.block_lt_of_cell? w _ hx509_0)).trans hx509_0
       replace p509:=eq_true p509
       replace q509:=eq_true q509
       go_upto_if 58 with (first | ((with_reducible refine gate_callee (f:=40) rfl ?_); refine goesL_ (some 32) rfl rfl Tryz.func40 (by kernel_rfl) rfl #[.int .u32 (rd l0_0 a1)] rfl (by (try simp only [List.map_toArray,List.map_cons,List.map_nil]); first | done | rfl | (simp only [List.length_drop,List.length_take]; rfl)) ?_; (with_reducible refine (rotaref06_Decode.calls (rd l0_0 a1) t510 t511 t512 t513 t514 t515 _ A10.out).mono ?_); rintro e w17 ⟨rfl,hb⟩; refine ⟨_,rfl,?_⟩; have n0_:=Aside0.mk (blk_below (g:=gb508) (o:=.cells #[.slice (some ad509) l0_0.length c0_0,.slice A0_1 l0_1.length c0_1,.slice A0_2 l0_2.length c0_2] 26 (0,0)) (by (with_reducible repeat (first | refine blk_drewN ?_ _ | refine blk_drew ?_ | refine blk_alloc ?_ _)); exact BK508.out) hb); have n1_:=Aside0.mk (below_step (by repeat (first | (with_reducible first | exact HB.out | apply below_alloc | apply pw_below_drewN | apply below_drew1 | refine below_set ?_ GE508.out) | exact HB.out)) hb); clear BK508; clear HB; have BK508:=n0_; have HB:=n1_; clear n0_ n1_; (try clear hb); (try clear hb2); (try clear hk); (try clear hi)) | ((with_reducible refine gate_dst (N:=6) rfl ?_); (try (refine gate_guard (by rfl) ?_; dsimp only)); refine box_event ?hg (N:=6) ?hd (cs:=#[.int .i64 0,.int .i64 0,.int .i64 0,.int .i64 0,.int .i64 0]) (t:=70) ?hr ?_; (case hd => rfl); (case hg => rfl); (case hr => first | (go_simp; done) | (go_simp; rfl)); intro gb516 hg w18 hbox hb; have n0_:=Aside0.mk (blk_below (g:=gb508) (o:=.cells #[.slice (some ad509) l0_0.length c0_0,.slice A0_1 l0_1.length c0_1,.slice A0_2 l0_2.length c0_2] 26 (0,0)) (by (with_reducible repeat (first | refine blk_drewN ?_ _ | refine blk_drew ?_ | refine blk_alloc ?_ _)); exact BK508.out) hb); have n1_:=Aside0.mk (below_step (by repeat (first | (with_reducible first | exact HB.out | apply below_alloc | apply pw_below_drewN | apply below_drew1 | refine below_set ?_ GE508.out) | exact HB.out)) hb); have n2_:=Aside0.mk (hbox); have n3_:=Aside0.mk ((by rw [hg]; exact (below_size (by repeat (first | (with_reducible first | exact HB.out | apply below_alloc | apply pw_below_drewN | apply below_drew1 | refine below_set ?_ GE508.out) | exact HB.out))) : w.heap.size ≤ gb516)); have n4_:=Aside0.mk ((by rw [hg]; exact (below_size (by repeat (first | (with_reducible first | exact HB.out | apply below_alloc | apply pw_below_drewN | apply below_drew1 | refine below_set ?_ GE508.out) | exact HB.out))) : w.heap.size ≤ gb516)); have n5_:=Aside0.mk ((by rw [hg]; exact Nat.ne_of_lt (blk_lt (g:=gb508) (o:=.cells #[.slice (some ad509) l0_0.length c0_0,.slice A0_1 l0_1.length c0_1,.slice A0_2 l0_2.length c0_2] 26 (0,0)) (by (with_reducible repeat (first | refine blk_drewN ?_ _ | refine blk_drew ?_ | refine blk_alloc ?_ _)); exact BK508.out)) : gb508 ≠ gb516)); have n6_:=Aside0.mk ((by rw [hg]; exact Nat.ne_of_gt (blk_lt (g:=gb508) (o:=.cells #[.slice (some ad509) l0_0.length c0_0,.slice A0_1 l0_1.length c0_1,.slice A0_2 l0_2.length c0_2] 26 (0,0)) (by (with_reducible repeat (first | refine blk_drewN ?_ _ | refine blk_drew ?_ | refine blk_alloc ?_ _)); exact BK508.out)) : gb516 ≠ gb508)); clear BK508; clear HB; have BK508:=n0_; have HB:=n1_; have BK516:=n2_; have GW516:=n3_; have GE516:=n4_; have NB508_516:=n5_; have NB516_508:=n6_; clear n0_ n1_ n2_ n3_ n4_ n5_ n6_; clear hb hbox hg; have hnb19:=NB516_508.out; have hnc19:=NB508_516.out; have hcz20_0 : w18.cell? ⟨gb516,0,none⟩ = some (.int .i64 0):=(blk_cell BK516.out 0).trans rfl; have hcz20_1 : w18.cell? ⟨gb516,1,none⟩ = some (.int .i64 0):=(blk_cell BK516.out 1).trans rfl; have hcz20_2 : w18.cell? ⟨gb516,2,none⟩ = some (.int .i64 0):=(blk_cell BK516.out 2).trans rfl; have hcz20_3 : w18.cell? ⟨gb516,3,none⟩ = some (.int .i64 0):=(blk_cell BK516.out 3).trans rfl; have hcz20_4 : w18.cell? ⟨gb516,4,none⟩ = some (.int .i64 0):=(blk_cell BK516.out 4).trans rfl; have hfz20_0:=blk_frozen BK516.out 0; have hfz20_1:=blk_frozen BK516.out 1; have hfz20_2:=blk_frozen BK516.out 2; have hfz20_3:=blk_frozen BK516.out 3; have hfz20_4:=blk_frozen BK516.out 4) | ((with_reducible refine gate_callee (f:=41) rfl ?_); refine goesL_ (some 41) rfl rfl Tryz.func41 (by kernel_rfl) rfl #[.int .i64 t510] rfl (by (try simp only [List.map_toArray,List.map_cons,List.map_nil]); first | done | rfl | (simp only [List.length_drop,List.length_take]; rfl)) ?_; (with_reducible refine (rotaref06_Name.calls t510 t517 t518 _ A12.out).mono ?_); rintro e w21 ⟨rfl,hb⟩; refine ⟨_,rfl,?_⟩; have n0_:=Aside0.mk (blk_below (g:=gb508) (o:=.cells #[.slice (some ad509) l0_0.length c0_0,.slice A0_1 l0_1.length c0_1,.slice A0_2 l0_2.length c0_2] 26 (0,0)) (by (with_reducible repeat (first | refine blk_drewN ?_ _ | refine blk_drew ?_ | refine blk_alloc ?_ _)); refine blk_far ?_ NB508_516.out _; (with_reducible repeat (first | refine blk_drewN ?_ _ | refine blk_drew ?_ | refine blk_alloc ?_ _)); refine blk_far ?_ NB508_516.out _; (with_reducible repeat (first | refine blk_drewN ?_ _ | refine blk_drew ?_ | refine blk_alloc ?_ _)); refine blk_far ?_ NB508_516.out _; (with_reducible repeat (first | refine blk_drewN ?_ _ | refine blk_drew ?_ | refine blk_alloc ?_ _)); refine blk_far ?_ NB508_516.out _; (with_reducible repeat (first | refine blk_drewN ?_ _ | refine blk_drew ?_ | refine blk_alloc ?_ _)); refine blk_far ?_ NB508_516.out _; (with_reducible repeat (first | refine blk_drewN ?_ _ | refine blk_drew ?_ | refine blk_alloc ?_ _)); exact BK508.out) hb); have n1_:=Aside0.mk (blk_below (g:=gb516) (o:=.cells #[.int .i64 t510,.int .i64 t511,.int .i64 t512,.int .i64 t513,.int .i64 t514] 70 (0,0)) (by (with_reducible repeat (first | refine blk_drewN ?_ _ | refine blk_drew ?_ | refine blk_alloc ?_ _)); refine blk_put (cs:=#[.int .i64 t510,.int .i64 t511,.int .i64 t512,.int .i64 t513,.int .i64 0]) ?_ 4 _ rfl; (with_reducible repeat (first | refine blk_drewN ?_ _ | refine blk_drew ?_ | refine blk_alloc ?_ _)); refine blk_put (cs:=#[.int .i64 t510,.int .i64 t511,.int .i64 t512,.int .i64 0,.int .i64 0]) ?_ 3 _ rfl; (with_reducible repeat (first | refine blk_drewN ?_ _ | refine blk_drew ?_ | refine blk_alloc ?_ _)); refine blk_put (cs:=#[.int .i64 t510,.int .i64 t511,.int .i64 0,.int .i64 0,.int .i64 0]) ?_ 2 _ rfl; (with_reducible repeat (first | refine blk_drewN ?_ _ | refine blk_drew ?_ | refine blk_alloc ?_ _)); refine blk_put (cs:=#[.int .i64 t510,.int .i64 0,.int .i64 0,.int .i64 0,.int .i64 0]) ?_ 1 _ rfl; (with_reducible repeat (first | refine blk_drewN ?_ _ | refine blk_drew ?_ | refine blk_alloc ?_ _)); refine blk_put (cs:=#[.int .i64 0,.int .i64 0,.int .i64 0,.int .i64 0,.int .i64 0]) ?_ 0 _ rfl; (with_reducible repeat (first | refine blk_drewN ?_ _ | refine blk_drew ?_ | refine blk_alloc ?_ _)); exact BK516.out) hb); have n2_:=Aside0.mk (below_step (by repeat (first | (with_reducible first | exact HB.out | apply below_alloc | apply pw_below_drewN | apply below_drew1 | refine below_set ?_ GE508.out | refine below_set ?_ GE516.out) | exact HB.out)) hb); clear BK508; clear BK516; clear HB; have BK508:=n0_; have BK516:=n1_; have HB:=n2_; clear n0_ n1_ n2_; (try clear hb); (try clear hb2); (try clear hk); (try clear hi); have hcz22_0 : w21.cell? ⟨gb516,0,none⟩ = some (.int .i64 t510):=(blk_cell BK516.out 0).trans rfl; have hcz22_1 : w21.cell? ⟨gb516,1,none⟩ = some (.int .i64 t511):=(blk_cell BK516.out 1).trans rfl; have hcz22_2 : w21.cell? ⟨gb516,2,none⟩ = some (.int .i64 t512):=(blk_cell BK516.out 2).trans rfl; have hcz22_3 : w21.cell? ⟨gb516,3,none⟩ = some (.int .i64 t513):=(blk_cell BK516.out 3).trans rfl; have hcz22_4 : w21.cell? ⟨gb516,4,none⟩ = some (.int .i64 t514):=(blk_cell BK516.out 4).trans rfl; have hfz22_0:=blk_frozen BK516.out 0; have hfz22_1:=blk_frozen BK516.out 1; have hfz22_2:=blk_frozen BK516.out 2; have hfz22_3:=blk_frozen BK516.out 3; have hfz22_4:=blk_frozen BK516.out 4) | ((with_reducible refine gate_callee (f:=42) rfl ?_); refine goesL_ (some 47) rfl rfl Tryz.func42 (by kernel_rfl) rfl #[.int .i64 t510] rfl (by (try simp only [List.map_toArray,List.map_cons,List.map_nil]); first | done | rfl | (simp only [List.length_drop,List.length_take]; rfl)) ?_; (with_reducible refine (rotaref06_Shape.calls t510 t519 t520 _ A13.out).mono ?_); rintro e w23 ⟨rfl,hb⟩; refine ⟨_,rfl,?_⟩; have n0_:=Aside0.mk (blk_below (g:=gb508) (o:=.cells #[.slice (some ad509) l0_0.length c0_0,.slice A0_1 l0_1.length c0_1,.slice A0_2 l0_2.length c0_2] 26 (0,0)) (by (with_reducible repeat (first | refine blk_drewN ?_ _ | refine blk_drew ?_ | refine blk_alloc ?_ _)); exact BK508.out) hb); have n1_:=Aside0.mk (blk_below (g:=gb516) (o:=.cells #[.int .i64 t510,.int .i64 t511,.int .i64 t512,.int .i64 t513,.int .i64 t514] 70 (0,0)) (by (with_reducible repeat (first | refine blk_drewN ?_ _ | refine blk_drew ?_ | refine blk_alloc ?_ _)); exact BK516.out) hb); have n2_:=Aside0.mk (below_step (by repeat (first | (with_reducible first | exact HB.out | apply below_alloc | apply pw_below_drewN | apply below_drew1 | refine below_set ?_ GE508.out | refine below_set ?_ GE516.out) | exact HB.out)) hb); clear BK508; clear BK516; clear HB; have BK508:=n0_; have BK516:=n1_; have HB:=n2_; clear n0_ n1_ n2_; (try clear hb); (try clear hb2); (try clear hk); (try clear hi)) | ((with_reducible refine gate_callee (f:=43) rfl ?_); refine goesL_ (some 52) rfl rfl Tryz.func43 (by kernel_rfl) rfl #[.int .i64 t519] rfl (by (try simp only [List.map_toArray,List.map_cons,List.map_nil]); first | done | rfl | (simp only [List.length_drop,List.length_take]; rfl)) ?_; (with_reducible refine (rotaref06_Has.calls t519 t521 t522 t523 t524 t525 _ A14.out).mono ?_); rintro e w' ⟨rfl,⟨nd,rfl⟩⟩; refine ⟨_,rfl,?_⟩))
       (try simp only [Act.put,sAz,sCz,sCs])
       go_cut [8] (fun v8 wc => ∃ (kq : Nat) (x8_14 : ByteArray),v8 = .string x8_14 ∧ Aside0 (rotaref07_Line.j1 kq x8_14 t522 t523 t524 t525 t510 t511 t512 t513 t514 = some (r1,r2)) ∧ Aside0 (kq ≤ kj2) ∧ Aside0 (wc.heap[gb508]? = some (.cells #[(.slice (some ad509) l0_0.length c0_0),(.slice A0_1 l0_1.length c0_1),(.slice A0_2 l0_2.length c0_2)] 26 (0,0))) ∧ Aside0 (wc.heap[gb516]? = some (.cells #[.int .i64 t510,.int .i64 t511,.int .i64 t512,.int .i64 t513,.int .i64 t514] 70 (0,0))) ∧ Aside0 (Below w.heap.size w wc))
       case first =>
        have H:=HC15.out
        clear HC15
        by_cases c24 : t521 = true
        ·subst c24
         have H1 : (if t517.size + 2 ≤ 9223372036854775807 then ((rotaref07_decimal.f kj2 t511).bind fun t526 => (if (t517 ++ (⟨#[32,114]⟩ : ByteArray)).size + t526.size ≤ 9223372036854775807 then (rotaref07_Line.j1 kj2 ((t517 ++ (⟨#[32,114]⟩ : ByteArray)) ++ t526) t522 t523 t524 t525 t510 t511 t512 t513 t514) else (none))) else (none)) = some (r1,r2):=by rw [if_pos rfl] at H; exact H
         clear H
         have H:=H1
         clear H1
         by_cases c25 : t517.size + 2 ≤ 9223372036854775807
         ·rw [if_pos c25] at H
          have c25b0:=eq_true c25
          have c25b1 : decide (t517.size + 2 ≤ 9223372036854775807) = true:=decide_eq_true c25
          try have c25b2 : (9223372036854775807 < t517.size + 2) = False:=eq_false (Nat.not_lt.2 c25)
          replace H:=Option.bind_eq_some_iff.mp H
          obtain ⟨t526,A260,H⟩:=H
          replace H : (if (t517 ++ (⟨#[32,114]⟩ : ByteArray)).size + t526.size ≤ 9223372036854775807 then (rotaref07_Line.j1 kj2 ((t517 ++ (⟨#[32,114]⟩ : ByteArray)) ++ t526) t522 t523 t524 t525 t510 t511 t512 t513 t514) else (none)) = some (r1,r2):=H
          have A26:=Aside0.mk A260
          clear A260
          by_cases c27 : (t517 ++ (⟨#[32,114]⟩ : ByteArray)).size + t526.size ≤ 9223372036854775807
          ·rw [if_pos c27] at H
           have c27b0:=eq_true c27
           have c27b1 : decide ((t517 ++ (⟨#[32,114]⟩ : ByteArray)).size + t526.size ≤ 9223372036854775807) = true:=decide_eq_true c27
           try have c27b2 : (9223372036854775807 < (t517 ++ (⟨#[32,114]⟩ : ByteArray)).size + t526.size) = False:=eq_false (Nat.not_lt.2 c27)
           have c27b3 : (9223372036854775807 < t517.size + 2 + t526.size) = False:=eq_false (Nat.not_lt.2 (by have h_:=c27; simp only [ByteArray.size_append] at h_; exact h_))
           have H':=Aside0.mk H
           clear H
           have hnb28:=NB516_508.out
           have hnc28:=NB508_516.out
           have hcz29_0 : w23.cell? ⟨gb516,0,none⟩ = some (.int .i64 t510):=(blk_cell BK516.out 0).trans rfl
           have hcz29_1 : w23.cell? ⟨gb516,1,none⟩ = some (.int .i64 t511):=(blk_cell BK516.out 1).trans rfl
           have hcz29_2 : w23.cell? ⟨gb516,2,none⟩ = some (.int .i64 t512):=(blk_cell BK516.out 2).trans rfl
           have hcz29_3 : w23.cell? ⟨gb516,3,none⟩ = some (.int .i64 t513):=(blk_cell BK516.out 3).trans rfl
           have hcz29_4 : w23.cell? ⟨gb516,4,none⟩ = some (.int .i64 t514):=(blk_cell BK516.out 4).trans rfl
           have hfz29_0:=blk_frozen BK516.out 0
           have hfz29_1:=blk_frozen BK516.out 1
           have hfz29_2:=blk_frozen BK516.out 2
           have hfz29_3:=blk_frozen BK516.out 3
           have hfz29_4:=blk_frozen BK516.out 4
           go_wp2_with (first | ((with_reducible refine gate_callee (f:=44) rfl ?_); refine goesL_ (some 63) rfl rfl Tryz.func44 (by kernel_rfl) rfl #[.int .i64 t511] rfl (by (try simp only [List.map_toArray,List.map_cons,List.map_nil]); first | done | rfl | (simp only [List.length_drop,List.length_take]; rfl)) ?_; (with_reducible refine (rotaref07_decimal.calls kj2 t511 t526 _ A26.out).mono ?_); rintro e w30 ⟨rfl,hb⟩; refine ⟨_,rfl,?_⟩; have n0_:=Aside0.mk (blk_below (g:=gb508) (o:=.cells #[.slice (some ad509) l0_0.length c0_0,.slice A0_1 l0_1.length c0_1,.slice A0_2 l0_2.length c0_2] 26 (0,0)) (by (with_reducible repeat (first | refine blk_drewN ?_ _ | refine blk_drew ?_ | refine blk_alloc ?_ _)); exact BK508.out) hb); have n1_:=Aside0.mk (blk_below (g:=gb516) (o:=.cells #[.int .i64 t510,.int .i64 t511,.int .i64 t512,.int .i64 t513,.int .i64 t514] 70 (0,0)) (by (with_reducible repeat (first | refine blk_drewN ?_ _ | refine blk_drew ?_ | refine blk_alloc ?_ _)); exact BK516.out) hb); have n2_:=Aside0.mk (below_step (by repeat (first | (with_reducible first | exact HB.out | apply below_alloc | apply pw_below_drewN | apply below_drew1 | refine below_set ?_ GE508.out | refine below_set ?_ GE516.out) | exact HB.out)) hb); clear BK508; clear BK516; clear HB; have BK508:=n0_; have BK516:=n1_; have HB:=n2_; clear n0_ n1_ n2_; (try clear hb); (try clear hb2); (try clear hk); (try clear hi)))
           go_meet
           case rel => exact ⟨_,((t517 ++ (⟨#[32,114]⟩ : ByteArray)) ++ t526),(by first | rfl | (simp; done) | (simp [*]; done)),H',⟨by have:=HJ2.out; first | omega | exact Nat.le_refl _⟩,⟨by (with_reducible repeat (first | refine blk_drewN ?_ _ | refine blk_drew ?_ | refine blk_alloc ?_ _)); exact BK508.out⟩,⟨by (with_reducible repeat (first | refine blk_drewN ?_ _ | refine blk_drew ?_ | refine blk_alloc ?_ _)); exact BK516.out⟩,⟨by repeat (first | (with_reducible first | exact HB.out | apply below_alloc | apply pw_below_drewN | apply below_drew1 | refine below_set ?_ GE508.out | refine below_set ?_ GE516.out) | exact HB.out)⟩⟩
          ·rw [if_neg c27] at H
           exact absurd H (by simp)
         ·rw [if_neg c25] at H
          exact absurd H (by simp)
        ·replace c24:=Bool.eq_false_iff.mpr c24
         subst c24
         have H1 : (rotaref07_Line.j1 kj2 t517 t522 t523 t524 t525 t510 t511 t512 t513 t514) = some (r1,r2):=by rw [if_neg (show ¬ (false = true) by decide)] at H; exact H
         clear H
         have H:=H1
         clear H1
         have H':=Aside0.mk H
         clear H
         go_wp2
         go_meet
         case rel => exact ⟨_,(t517),(by first | rfl | (simp; done) | (simp [*]; done)),H',⟨by have:=HJ2.out; first | omega | exact Nat.le_refl _⟩,⟨by (with_reducible repeat (first | refine blk_drewN ?_ _ | refine blk_drew ?_ | refine blk_alloc ?_ _)); exact BK508.out⟩,⟨by (with_reducible repeat (first | refine blk_drewN ?_ _ | refine blk_drew ?_ | refine blk_alloc ?_ _)); exact BK516.out⟩,⟨by repeat (first | (with_reducible first | exact HB.out | apply below_alloc | apply pw_below_drewN | apply below_drew1 | refine below_set ?_ GE508.out | refine below_set ?_ GE516.out) | exact HB.out)⟩⟩
       case rest =>
        clear HC15
        try clear c1
        try clear c2
        try clear p2
        try clear c4
        try clear c5
        try clear c5b0
        try clear p5
        try clear q5
        try clear hx5
        try clear c7
        try clear c8
        try clear c8b0
        try clear c9
        try clear c9b0
        try clear c11
        try clear c11b0
        try clear c11b1
        try clear c15
        try clear c19
        try clear c24
        try clear c25
        try clear c25b0
        try clear c25b1
        try clear c25b2
        try clear c27
        try clear c27b0
        try clear c27b1
        try clear c27b2
        try clear c28
        try clear hcz16_0
        try clear hcz16_1
        try clear hcz16_2
        try clear hcz20_0
        try clear hcz20_1
        try clear hcz20_2
        try clear hcz20_3
        try clear hcz20_4
        try clear hcz22_0
        try clear hcz22_1
        try clear hcz22_2
        try clear hcz22_3
        try clear hcz22_4
        try clear hcz29_0
        try clear hcz29_1
        try clear hcz29_2
        try clear hcz29_3
        try clear hcz29_4
        try clear hcz6_0
        try clear hcz6_1
        try clear hcz6_2
        try clear hfz16_0
        try clear hfz16_1
        try clear hfz16_2
        try clear hfz20_0
        try clear hfz20_1
        try clear hfz20_2
        try clear hfz20_3
        try clear hfz20_4
        try clear hfz22_0
        try clear hfz22_1
        try clear hfz22_2
        try clear hfz22_3
        try clear hfz22_4
        try clear hfz29_0
        try clear hfz29_1
        try clear hfz29_2
        try clear hfz29_3
        try clear hfz29_4
        try clear hfz6_0
        try clear hfz6_1
        try clear hfz6_2
        try clear hx509_0
        try clear p2
        try clear p509
        try clear q509
        obtain ⟨kq,x8_14,rfl,HA,HJ14,BK508,BK516,HB⟩:=hcut
        cases kq with
        | zero => exact absurd HA.out (by simp [rotaref07_Line.j1])
        | succ kj14 =>
         have H:=HA.out
         clear HA
         simp only [rotaref07_Line.j1] at H
         have HC31:=Aside0.mk H
         clear H
         go_upto_if 65 with (fail)
         go_cut [8] (fun v8 wc => ∃ (kq : Nat) (x8_30 : ByteArray),v8 = .string x8_30 ∧ Aside0 (rotaref07_Line.j2 kq x8_30 t523 t524 t525 t510 t511 t512 t513 t514 = some (r1,r2)) ∧ Aside0 (kq ≤ kj14) ∧ Aside0 (wc.heap[gb508]? = some (.cells #[(.slice (some ad509) l0_0.length c0_0),(.slice A0_1 l0_1.length c0_1),(.slice A0_2 l0_2.length c0_2)] 26 (0,0))) ∧ Aside0 (wc.heap[gb516]? = some (.cells #[.int .i64 t510,.int .i64 t511,.int .i64 t512,.int .i64 t513,.int .i64 t514] 70 (0,0))) ∧ Aside0 (Below w.heap.size w wc))
         case first =>
          have H:=HC31.out
          clear HC31
          by_cases c32 : t522 = true
          ·subst c32
           have H1 : (if x8_14.size + 2 ≤ 9223372036854775807 then ((rotaref07_decimal.f kj14 t512).bind fun t527 => (if (x8_14 ++ (⟨#[32,114]⟩ : ByteArray)).size + t527.size ≤ 9223372036854775807 then (rotaref07_Line.j2 kj14 ((x8_14 ++ (⟨#[32,114]⟩ : ByteArray)) ++ t527) t523 t524 t525 t510 t511 t512 t513 t514) else (none))) else (none)) = some (r1,r2):=by rw [if_pos rfl] at H; exact H
           clear H
           have H:=H1
           clear H1
           by_cases c33 : x8_14.size + 2 ≤ 9223372036854775807
           ·rw [if_pos c33] at H
            have c33b0:=eq_true c33
            have c33b1 : decide (x8_14.size + 2 ≤ 9223372036854775807) = true:=decide_eq_true c33
            try have c33b2 : (9223372036854775807 < x8_14.size + 2) = False:=eq_false (Nat.not_lt.2 c33)
            replace H:=Option.bind_eq_some_iff.mp H
            obtain ⟨t527,A340,H⟩:=H
            replace H : (if (x8_14 ++ (⟨#[32,114]⟩ : ByteArray)).size + t527.size ≤ 9223372036854775807 then (rotaref07_Line.j2 kj14 ((x8_14 ++ (⟨#[32,114]⟩ : ByteArray)) ++ t527) t523 t524 t525 t510 t511 t512 t513 t514) else (none)) = some (r1,r2):=H
            have A34:=Aside0.mk A340
            clear A340
            by_cases c35 : (x8_14 ++ (⟨#[32,114]⟩ : ByteArray)).size + t527.size ≤ 9223372036854775807
            ·rw [if_pos c35] at H
             have c35b0:=eq_true c35
             have c35b1 : decide ((x8_14 ++ (⟨#[32,114]⟩ : ByteArray)).size + t527.size ≤ 9223372036854775807) = true:=decide_eq_true c35
             try have c35b2 : (9223372036854775807 < (x8_14 ++ (⟨#[32,114]⟩ : ByteArray)).size + t527.size) = False:=eq_false (Nat.not_lt.2 c35)
             have c35b3 : (9223372036854775807 < x8_14.size + 2 + t527.size) = False:=eq_false (Nat.not_lt.2 (by have h_:=c35; simp only [ByteArray.size_append] at h_; exact h_))
             have H':=Aside0.mk H
             clear H
             have hnb36:=NB516_508.out
             have hnc36:=NB508_516.out
             have hcz37_0 : wc.cell? ⟨gb516,0,none⟩ = some (.int .i64 t510):=(blk_cell BK516.out 0).trans rfl
             have hcz37_1 : wc.cell? ⟨gb516,1,none⟩ = some (.int .i64 t511):=(blk_cell BK516.out 1).trans rfl
             have hcz37_2 : wc.cell? ⟨gb516,2,none⟩ = some (.int .i64 t512):=(blk_cell BK516.out 2).trans rfl
             have hcz37_3 : wc.cell? ⟨gb516,3,none⟩ = some (.int .i64 t513):=(blk_cell BK516.out 3).trans rfl
             have hcz37_4 : wc.cell? ⟨gb516,4,none⟩ = some (.int .i64 t514):=(blk_cell BK516.out 4).trans rfl
             have hfz37_0:=blk_frozen BK516.out 0
             have hfz37_1:=blk_frozen BK516.out 1
             have hfz37_2:=blk_frozen BK516.out 2
             have hfz37_3:=blk_frozen BK516.out 3
             have hfz37_4:=blk_frozen BK516.out 4
             go_wp2_with (first | ((with_reducible refine gate_callee (f:=44) rfl ?_); refine goesL_ (some 70) rfl rfl Tryz.func44 (by kernel_rfl) rfl #[.int .i64 t512] rfl (by (try simp only [List.map_toArray,List.map_cons,List.map_nil]); first | done | rfl | (simp only [List.length_drop,List.length_take]; rfl)) ?_; (with_reducible refine (rotaref07_decimal.calls kj14 t512 t527 _ A34.out).mono ?_); rintro e w38 ⟨rfl,hb⟩; refine ⟨_,rfl,?_⟩; have n0_:=Aside0.mk (blk_below (g:=gb508) (o:=.cells #[.slice (some ad509) l0_0.length c0_0,.slice A0_1 l0_1.length c0_1,.slice A0_2 l0_2.length c0_2] 26 (0,0)) (by (with_reducible repeat (first | refine blk_drewN ?_ _ | refine blk_drew ?_ | refine blk_alloc ?_ _)); exact BK508.out) hb); have n1_:=Aside0.mk (blk_below (g:=gb516) (o:=.cells #[.int .i64 t510,.int .i64 t511,.int .i64 t512,.int .i64 t513,.int .i64 t514] 70 (0,0)) (by (with_reducible repeat (first | refine blk_drewN ?_ _ | refine blk_drew ?_ | refine blk_alloc ?_ _)); exact BK516.out) hb); have n2_:=Aside0.mk (below_step (by repeat (first | (with_reducible first | exact HB.out | apply below_alloc | apply pw_below_drewN | apply below_drew1 | refine below_set ?_ GE508.out | refine below_set ?_ GE516.out) | exact HB.out)) hb); clear BK508; clear BK516; clear HB; have BK508:=n0_; have BK516:=n1_; have HB:=n2_; clear n0_ n1_ n2_; (try clear hb); (try clear hb2); (try clear hk); (try clear hi)))
             go_meet
             case rel => exact ⟨_,((x8_14 ++ (⟨#[32,114]⟩ : ByteArray)) ++ t527),(by first | rfl | (simp; done) | (simp [*]; done)),H',⟨by have:=HJ2.out; have:=HJ14.out; first | omega | exact Nat.le_refl _⟩,⟨by (with_reducible repeat (first | refine blk_drewN ?_ _ | refine blk_drew ?_ | refine blk_alloc ?_ _)); exact BK508.out⟩,⟨by (with_reducible repeat (first | refine blk_drewN ?_ _ | refine blk_drew ?_ | refine blk_alloc ?_ _)); exact BK516.out⟩,⟨by repeat (first | (with_reducible first | exact HB.out | apply below_alloc | apply pw_below_drewN | apply below_drew1 | refine below_set ?_ GE508.out | refine below_set ?_ GE516.out) | exact HB.out)⟩⟩
            ·rw [if_neg c35] at H
             exact absurd H (by simp)
           ·rw [if_neg c33] at H
            exact absurd H (by simp)
          ·replace c32:=Bool.eq_false_iff.mpr c32
           subst c32
           have H1 : (rotaref07_Line.j2 kj14 x8_14 t523 t524 t525 t510 t511 t512 t513 t514) = some (r1,r2):=by rw [if_neg (show ¬ (false = true) by decide)] at H; exact H
           clear H
           have H:=H1
           clear H1
           have H':=Aside0.mk H
           clear H
           go_wp2
           go_meet
           case rel => exact ⟨_,(x8_14),(by first | rfl | (simp; done) | (simp [*]; done)),H',⟨by have:=HJ2.out; have:=HJ14.out; first | omega | exact Nat.le_refl _⟩,⟨by (with_reducible repeat (first | refine blk_drewN ?_ _ | refine blk_drew ?_ | refine blk_alloc ?_ _)); exact BK508.out⟩,⟨by (with_reducible repeat (first | refine blk_drewN ?_ _ | refine blk_drew ?_ | refine blk_alloc ?_ _)); exact BK516.out⟩,⟨by repeat (first | (with_reducible first | exact HB.out | apply below_alloc | apply pw_below_drewN | apply below_drew1 | refine below_set ?_ GE508.out | refine below_set ?_ GE516.out) | exact HB.out)⟩⟩
         case rest =>
          clear HC31
          try clear c1
          try clear c2
          try clear p2
          try clear c3
          try clear c4
          try clear c5
          try clear c5b0
          try clear p5
          try clear q5
          try clear hx5
          try clear c7
          try clear c8
          try clear c8b0
          try clear c9
          try clear c9b0
          try clear c11
          try clear c11b0
          try clear c11b1
          try clear c15
          try clear c19
          try clear c24
          try clear c25
          try clear c25b0
          try clear c25b1
          try clear c25b2
          try clear c27
          try clear c27b0
          try clear c27b1
          try clear c27b2
          try clear c28
          try clear c32
          try clear c33
          try clear c33b0
          try clear c33b1
          try clear c33b2
          try clear c35
          try clear c35b0
          try clear c35b1
          try clear c35b2
          try clear c36
          try clear hcz16_0
          try clear hcz16_1
          try clear hcz16_2
          try clear hcz20_0
          try clear hcz20_1
          try clear hcz20_2
          try clear hcz20_3
          try clear hcz20_4
          try clear hcz22_0
          try clear hcz22_1
          try clear hcz22_2
          try clear hcz22_3
          try clear hcz22_4
          try clear hcz29_0
          try clear hcz29_1
          try clear hcz29_2
          try clear hcz29_3
          try clear hcz29_4
          try clear hcz37_0
          try clear hcz37_1
          try clear hcz37_2
          try clear hcz37_3
          try clear hcz37_4
          try clear hcz6_0
          try clear hcz6_1
          try clear hcz6_2
          try clear hfz16_0
          try clear hfz16_1
          try clear hfz16_2
          try clear hfz20_0
          try clear hfz20_1
          try clear hfz20_2
          try clear hfz20_3
          try clear hfz20_4
          try clear hfz22_0
          try clear hfz22_1
          try clear hfz22_2
          try clear hfz22_3
          try clear hfz22_4
          try clear hfz29_0
          try clear hfz29_1
          try clear hfz29_2
          try clear hfz29_3
          try clear hfz29_4
          try clear hfz37_0
          try clear hfz37_1
          try clear hfz37_2
          try clear hfz37_3
          try clear hfz37_4
          try clear hfz6_0
          try clear hfz6_1
          try clear hfz6_2
          try clear hx509_0
          try clear p2
          try clear p5
          try clear p509
          try clear q5
          try clear q509
          obtain ⟨kq,x8_30,rfl,HA,HJ30,BK508,BK516,HB⟩:=hcut
          cases kq with
          | zero => exact absurd HA.out (by simp [rotaref07_Line.j2])
          | succ kj30 =>
           have H:=HA.out
           clear HA
           simp only [rotaref07_Line.j2] at H
           have HC39:=Aside0.mk H
           clear H
           go_upto_if 72 with (fail)
           go_cut [8] (fun v8 wc => ∃ (kq : Nat) (x8_38 : ByteArray),v8 = .string x8_38 ∧ Aside0 (rotaref07_Line.j3 kq x8_38 t524 t525 t510 t511 t512 t513 t514 = some (r1,r2)) ∧ Aside0 (kq ≤ kj30) ∧ Aside0 (wc.heap[gb508]? = some (.cells #[(.slice (some ad509) l0_0.length c0_0),(.slice A0_1 l0_1.length c0_1),(.slice A0_2 l0_2.length c0_2)] 26 (0,0))) ∧ Aside0 (wc.heap[gb516]? = some (.cells #[.int .i64 t510,.int .i64 t511,.int .i64 t512,.int .i64 t513,.int .i64 t514] 70 (0,0))) ∧ Aside0 (Below w.heap.size w wc))
           case first =>
            have H:=HC39.out
            clear HC39
            by_cases c40 : t523 = true
            ·subst c40
             have H1 : (if x8_30.size + 2 ≤ 9223372036854775807 then ((rotaref07_decimal.f kj30 t513).bind fun t528 => (if (x8_30 ++ (⟨#[32,114]⟩ : ByteArray)).size + t528.size ≤ 9223372036854775807 then (rotaref07_Line.j3 kj30 ((x8_30 ++ (⟨#[32,114]⟩ : ByteArray)) ++ t528) t524 t525 t510 t511 t512 t513 t514) else (none))) else (none)) = some (r1,r2):=by rw [if_pos rfl] at H; exact H
             clear H
             have H:=H1
             clear H1
             by_cases c41 : x8_30.size + 2 ≤ 9223372036854775807
             ·rw [if_pos c41] at H
              have c41b0:=eq_true c41
              have c41b1 : decide (x8_30.size + 2 ≤ 9223372036854775807) = true:=decide_eq_true c41
              try have c41b2 : (9223372036854775807 < x8_30.size + 2) = False:=eq_false (Nat.not_lt.2 c41)
              replace H:=Option.bind_eq_some_iff.mp H
              obtain ⟨t528,A420,H⟩:=H
              replace H : (if (x8_30 ++ (⟨#[32,114]⟩ : ByteArray)).size + t528.size ≤ 9223372036854775807 then (rotaref07_Line.j3 kj30 ((x8_30 ++ (⟨#[32,114]⟩ : ByteArray)) ++ t528) t524 t525 t510 t511 t512 t513 t514) else (none)) = some (r1,r2):=H
              have A42:=Aside0.mk A420
              clear A420
              by_cases c43 : (x8_30 ++ (⟨#[32,114]⟩ : ByteArray)).size + t528.size ≤ 9223372036854775807
              ·rw [if_pos c43] at H
               have c43b0:=eq_true c43
               have c43b1 : decide ((x8_30 ++ (⟨#[32,114]⟩ : ByteArray)).size + t528.size ≤ 9223372036854775807) = true:=decide_eq_true c43
               try have c43b2 : (9223372036854775807 < (x8_30 ++ (⟨#[32,114]⟩ : ByteArray)).size + t528.size) = False:=eq_false (Nat.not_lt.2 c43)
               have c43b3 : (9223372036854775807 < x8_30.size + 2 + t528.size) = False:=eq_false (Nat.not_lt.2 (by have h_:=c43; simp only [ByteArray.size_append] at h_; exact h_))
               have H':=Aside0.mk H
               clear H
               have hnb44:=NB516_508.out
               have hnc44:=NB508_516.out
               have hcz45_0 : wc.cell? ⟨gb516,0,none⟩ = some (.int .i64 t510):=(blk_cell BK516.out 0).trans rfl
               have hcz45_1 : wc.cell? ⟨gb516,1,none⟩ = some (.int .i64 t511):=(blk_cell BK516.out 1).trans rfl
               have hcz45_2 : wc.cell? ⟨gb516,2,none⟩ = some (.int .i64 t512):=(blk_cell BK516.out 2).trans rfl
               have hcz45_3 : wc.cell? ⟨gb516,3,none⟩ = some (.int .i64 t513):=(blk_cell BK516.out 3).trans rfl
               have hcz45_4 : wc.cell? ⟨gb516,4,none⟩ = some (.int .i64 t514):=(blk_cell BK516.out 4).trans rfl
               have hfz45_0:=blk_frozen BK516.out 0
               have hfz45_1:=blk_frozen BK516.out 1
               have hfz45_2:=blk_frozen BK516.out 2
               have hfz45_3:=blk_frozen BK516.out 3
               have hfz45_4:=blk_frozen BK516.out 4
               go_wp2_with (first | ((with_reducible refine gate_callee (f:=44) rfl ?_); refine goesL_ (some 77) rfl rfl Tryz.func44 (by kernel_rfl) rfl #[.int .i64 t513] rfl (by (try simp only [List.map_toArray,List.map_cons,List.map_nil]); first | done | rfl | (simp only [List.length_drop,List.length_take]; rfl)) ?_; (with_reducible refine (rotaref07_decimal.calls kj30 t513 t528 _ A42.out).mono ?_); rintro e w46 ⟨rfl,hb⟩; refine ⟨_,rfl,?_⟩; have n0_:=Aside0.mk (blk_below (g:=gb508) (o:=.cells #[.slice (some ad509) l0_0.length c0_0,.slice A0_1 l0_1.length c0_1,.slice A0_2 l0_2.length c0_2] 26 (0,0)) (by (with_reducible repeat (first | refine blk_drewN ?_ _ | refine blk_drew ?_ | refine blk_alloc ?_ _)); exact BK508.out) hb); have n1_:=Aside0.mk (blk_below (g:=gb516) (o:=.cells #[.int .i64 t510,.int .i64 t511,.int .i64 t512,.int .i64 t513,.int .i64 t514] 70 (0,0)) (by (with_reducible repeat (first | refine blk_drewN ?_ _ | refine blk_drew ?_ | refine blk_alloc ?_ _)); exact BK516.out) hb); have n2_:=Aside0.mk (below_step (by repeat (first | (with_reducible first | exact HB.out | apply below_alloc | apply pw_below_drewN | apply below_drew1 | refine below_set ?_ GE508.out | refine below_set ?_ GE516.out) | exact HB.out)) hb); clear BK508; clear BK516; clear HB; have BK508:=n0_; have BK516:=n1_; have HB:=n2_; clear n0_ n1_ n2_; (try clear hb); (try clear hb2); (try clear hk); (try clear hi)))
               go_meet
               case rel => exact ⟨_,((x8_30 ++ (⟨#[32,114]⟩ : ByteArray)) ++ t528),(by first | rfl | (simp; done) | (simp [*]; done)),H',⟨by have:=HJ2.out; have:=HJ14.out; have:=HJ30.out; first | omega | exact Nat.le_refl _⟩,⟨by (with_reducible repeat (first | refine blk_drewN ?_ _ | refine blk_drew ?_ | refine blk_alloc ?_ _)); exact BK508.out⟩,⟨by (with_reducible repeat (first | refine blk_drewN ?_ _ | refine blk_drew ?_ | refine blk_alloc ?_ _)); exact BK516.out⟩,⟨by repeat (first | (with_reducible first | exact HB.out | apply below_alloc | apply pw_below_drewN | apply below_drew1 | refine below_set ?_ GE508.out | refine below_set ?_ GE516.out) | exact HB.out)⟩⟩
              ·rw [if_neg c43] at H
               exact absurd H (by simp)
             ·rw [if_neg c41] at H
              exact absurd H (by simp)
            ·replace c40:=Bool.eq_false_iff.mpr c40
             subst c40
             have H1 : (rotaref07_Line.j3 kj30 x8_30 t524 t525 t510 t511 t512 t513 t514) = some (r1,r2):=by rw [if_neg (show ¬ (false = true) by decide)] at H; exact H
             clear H
             have H:=H1
             clear H1
             have H':=Aside0.mk H
             clear H
             go_wp2
             go_meet
             case rel => exact ⟨_,(x8_30),(by first | rfl | (simp; done) | (simp [*]; done)),H',⟨by have:=HJ2.out; have:=HJ14.out; have:=HJ30.out; first | omega | exact Nat.le_refl _⟩,⟨by (with_reducible repeat (first | refine blk_drewN ?_ _ | refine blk_drew ?_ | refine blk_alloc ?_ _)); exact BK508.out⟩,⟨by (with_reducible repeat (first | refine blk_drewN ?_ _ | refine blk_drew ?_ | refine blk_alloc ?_ _)); exact BK516.out⟩,⟨by repeat (first | (with_reducible first | exact HB.out | apply below_alloc | apply pw_below_drewN | apply below_drew1 | refine below_set ?_ GE508.out | refine below_set ?_ GE516.out) | exact HB.out)⟩⟩
           case rest =>
            clear HC39
            try clear c1
            try clear c2
            try clear p2
            try clear c3
            try clear c4
            try clear c5
            try clear c5b0
            try clear p5
            try clear q5
            try clear hx5
            try clear c7
            try clear c8
            try clear c8b0
            try clear c9
            try clear c9b0
            try clear c11
            try clear c11b0
            try clear c11b1
            try clear c15
            try clear c19
            try clear c24
            try clear c25
            try clear c25b0
            try clear c25b1
            try clear c25b2
            try clear c27
            try clear c27b0
            try clear c27b1
            try clear c27b2
            try clear c28
            try clear c32
            try clear c33
            try clear c33b0
            try clear c33b1
            try clear c33b2
            try clear c35
            try clear c35b0
            try clear c35b1
            try clear c35b2
            try clear c36
            try clear c40
            try clear c41
            try clear c41b0
            try clear c41b1
            try clear c41b2
            try clear c42
            try clear c43
            try clear c43b0
            try clear c43b1
            try clear c43b2
            try clear c44
            try clear hcz16_0
            try clear hcz16_1
            try clear hcz16_2
            try clear hcz20_0
            try clear hcz20_1
            try clear hcz20_2
            try clear hcz20_3
            try clear hcz20_4
            try clear hcz22_0
            try clear hcz22_1
            try clear hcz22_2
            try clear hcz22_3
            try clear hcz22_4
            try clear hcz29_0
            try clear hcz29_1
            try clear hcz29_2
            try clear hcz29_3
            try clear hcz29_4
            try clear hcz37_0
            try clear hcz37_1
            try clear hcz37_2
            try clear hcz37_3
            try clear hcz37_4
            try clear hcz45_0
            try clear hcz45_1
            try clear hcz45_2
            try clear hcz45_3
            try clear hcz45_4
            try clear hcz6_0
            try clear hcz6_1
            try clear hcz6_2
            try clear hfz16_0
            try clear hfz16_1
            try clear hfz16_2
            try clear hfz20_0
            try clear hfz20_1
            try clear hfz20_2
            try clear hfz20_3
            try clear hfz20_4
            try clear hfz22_0
            try clear hfz22_1
            try clear hfz22_2
            try clear hfz22_3
            try clear hfz22_4
            try clear hfz29_0
            try clear hfz29_1
            try clear hfz29_2
            try clear hfz29_3
            try clear hfz29_4
            try clear hfz37_0
            try clear hfz37_1
            try clear hfz37_2
            try clear hfz37_3
            try clear hfz37_4
            try clear hfz45_0
            try clear hfz45_1
            try clear hfz45_2
            try clear hfz45_3
            try clear hfz45_4
            try clear hfz6_0
            try clear hfz6_1
            try clear hfz6_2
            try clear hx509_0
            try clear p2
            try clear p5
            try clear p509
            try clear q5
            try clear q509
            obtain ⟨kq,x8_38,rfl,HA,HJ38,BK508,BK516,HB⟩:=hcut
            cases kq with
            | zero => exact absurd HA.out (by simp [rotaref07_Line.j3])
            | succ kj38 =>
             have H:=HA.out
             clear HA
             simp only [rotaref07_Line.j3] at H
             have HC47:=Aside0.mk H
             clear H
             go_upto_region 15 with (fail)
             go_cut [84] (fun v84 wc => ∃ (kq : Nat) (x84_46 : Bool),v84 = .bool x84_46 ∧ Aside0 (rotaref07_Line.j4 kq x8_38 x84_46 t510 t511 t512 t513 t514 = some (r1,r2)) ∧ Aside0 (kq ≤ kj38) ∧ Aside0 (wc.heap[gb508]? = some (.cells #[(.slice (some ad509) l0_0.length c0_0),(.slice A0_1 l0_1.length c0_1),(.slice A0_2 l0_2.length c0_2)] 26 (0,0))) ∧ Aside0 (wc.heap[gb516]? = some (.cells #[.int .i64 t510,.int .i64 t511,.int .i64 t512,.int .i64 t513,.int .i64 t514] 70 (0,0))) ∧ Aside0 (Below w.heap.size w wc))
             case first =>
              have H:=HC47.out
              clear HC47
              by_cases c48 : t524 = 0
              ·rw [if_pos c48] at H
               have c48b0 : (t524 == 0) = true:=beq_iff_eq.mpr c48
               have c48b1 : (t524 != 0) = false:=bne_eq_false_iff_eq.mpr c48
               clear c48
               (first | rw [c48b0] | (simp only [i64_w,i32_w]; rw [c48b0]) | skip)
               have H':=Aside0.mk H
               clear H
               go_wp2
               go_meet
               case rel => exact ⟨_,((t525 != 0)),(by first | rfl | (simp; done) | (simp [*]; done)),H',⟨by have:=HJ2.out; have:=HJ14.out; have:=HJ30.out; have:=HJ38.out; first | omega | exact Nat.le_refl _⟩,⟨by (with_reducible repeat (first | refine blk_drewN ?_ _ | refine blk_drew ?_ | refine blk_alloc ?_ _)); exact BK508.out⟩,⟨by (with_reducible repeat (first | refine blk_drewN ?_ _ | refine blk_drew ?_ | refine blk_alloc ?_ _)); exact BK516.out⟩,⟨by repeat (first | (with_reducible first | exact HB.out | apply below_alloc | apply pw_below_drewN | apply below_drew1 | refine below_set ?_ GE508.out | refine below_set ?_ GE516.out) | exact HB.out)⟩⟩
              ·rw [if_neg c48] at H
               have c48b0 : (t524 == 0) = false:=beq_eq_false_iff_ne.mpr c48
               have c48b1 : (t524 != 0) = true:=bne_iff_ne.mpr c48
               (first | rw [c48b0] | (simp only [i64_w,i32_w]; rw [c48b0]) | skip)
               have H':=Aside0.mk H
               clear H
               go_wp2
               go_meet
               case rel => exact ⟨_,(true),(by first | rfl | (simp; done) | (simp [*]; done)),H',⟨by have:=HJ2.out; have:=HJ14.out; have:=HJ30.out; have:=HJ38.out; first | omega | exact Nat.le_refl _⟩,⟨by (with_reducible repeat (first | refine blk_drewN ?_ _ | refine blk_drew ?_ | refine blk_alloc ?_ _)); exact BK508.out⟩,⟨by (with_reducible repeat (first | refine blk_drewN ?_ _ | refine blk_drew ?_ | refine blk_alloc ?_ _)); exact BK516.out⟩,⟨by repeat (first | (with_reducible first | exact HB.out | apply below_alloc | apply pw_below_drewN | apply below_drew1 | refine below_set ?_ GE508.out | refine below_set ?_ GE516.out) | exact HB.out)⟩⟩
             case rest =>
              clear HC47
              try clear c1
              try clear c2
              try clear p2
              try clear c3
              try clear c4
              try clear c5
              try clear c5b0
              try clear p5
              try clear q5
              try clear hx5
              try clear c7
              try clear c8
              try clear c8b0
              try clear c9
              try clear c9b0
              try clear c11
              try clear c11b0
              try clear c11b1
              try clear c15
              try clear c19
              try clear c24
              try clear c25
              try clear c25b0
              try clear c25b1
              try clear c25b2
              try clear c27
              try clear c27b0
              try clear c27b1
              try clear c27b2
              try clear c28
              try clear c32
              try clear c33
              try clear c33b0
              try clear c33b1
              try clear c33b2
              try clear c35
              try clear c35b0
              try clear c35b1
              try clear c35b2
              try clear c36
              try clear c40
              try clear c41
              try clear c41b0
              try clear c41b1
              try clear c41b2
              try clear c42
              try clear c43
              try clear c43b0
              try clear c43b1
              try clear c43b2
              try clear c44
              try clear c48
              try clear c48b0
              try clear c48b1
              try clear hcz16_0
              try clear hcz16_1
              try clear hcz16_2
              try clear hcz20_0
              try clear hcz20_1
              try clear hcz20_2
              try clear hcz20_3
              try clear hcz20_4
              try clear hcz22_0
              try clear hcz22_1
              try clear hcz22_2
              try clear hcz22_3
              try clear hcz22_4
              try clear hcz29_0
              try clear hcz29_1
              try clear hcz29_2
              try clear hcz29_3
              try clear hcz29_4
              try clear hcz37_0
              try clear hcz37_1
              try clear hcz37_2
              try clear hcz37_3
              try clear hcz37_4
              try clear hcz45_0
              try clear hcz45_1
              try clear hcz45_2
              try clear hcz45_3
              try clear hcz45_4
              try clear hcz6_0
              try clear hcz6_1
              try clear hcz6_2
              try clear hfz16_0
              try clear hfz16_1
              try clear hfz16_2
              try clear hfz20_0
              try clear hfz20_1
              try clear hfz20_2
              try clear hfz20_3
              try clear hfz20_4
              try clear hfz22_0
              try clear hfz22_1
              try clear hfz22_2
              try clear hfz22_3
              try clear hfz22_4
              try clear hfz29_0
              try clear hfz29_1
              try clear hfz29_2
              try clear hfz29_3
              try clear hfz29_4
              try clear hfz37_0
              try clear hfz37_1
              try clear hfz37_2
              try clear hfz37_3
              try clear hfz37_4
              try clear hfz45_0
              try clear hfz45_1
              try clear hfz45_2
              try clear hfz45_3
              try clear hfz45_4
              try clear hfz6_0
              try clear hfz6_1
              try clear hfz6_2
              try clear hx509_0
              try clear p2
              try clear p5
              try clear p509
              try clear q5
              try clear q509
              obtain ⟨kq,x84_46,rfl,HA,HJ46,BK508,BK516,HB⟩:=hcut
              cases kq with
              | zero => exact absurd HA.out (by simp [rotaref07_Line.j4])
              | succ kj46 =>
               have H:=HA.out
               clear HA
               simp only [rotaref07_Line.j4] at H
               by_cases c49 : x84_46 = true
               ·subst c49
                have H1 : (if x8_38.size + 1 ≤ 9223372036854775807 then ((rotaref07_ahead.f kj46 t510).bind fun t529 => (if (x8_38 ++ (⟨#[32]⟩ : ByteArray)).size + t529.size ≤ 9223372036854775807 then ((rotaref07_decimal.f kj46 t514).bind fun t530 => (if ((x8_38 ++ (⟨#[32]⟩ : ByteArray)) ++ t529).size + t530.size ≤ 9223372036854775807 then (some (((x8_38 ++ (⟨#[32]⟩ : ByteArray)) ++ t529) ++ t530,0)) else (none))) else (none))) else (none)) = some (r1,r2):=by rw [if_pos rfl] at H; exact H
                clear H
                have H:=H1
                clear H1
                by_cases c50 : x8_38.size + 1 ≤ 9223372036854775807
                ·rw [if_pos c50] at H
                 have c50b0:=eq_true c50
                 have c50b1 : decide (x8_38.size + 1 ≤ 9223372036854775807) = true:=decide_eq_true c50
                 try have c50b2 : (9223372036854775807 < x8_38.size + 1) = False:=eq_false (Nat.not_lt.2 c50)
                 replace H:=Option.bind_eq_some_iff.mp H
                 obtain ⟨t529,A510,H⟩:=H
                 replace H : (if (x8_38 ++ (⟨#[32]⟩ : ByteArray)).size + t529.size ≤ 9223372036854775807 then ((rotaref07_decimal.f kj46 t514).bind fun t530 => (if ((x8_38 ++ (⟨#[32]⟩ : ByteArray)) ++ t529).size + t530.size ≤ 9223372036854775807 then (some (((x8_38 ++ (⟨#[32]⟩ : ByteArray)) ++ t529) ++ t530,0)) else (none))) else (none)) = some (r1,r2):=H
                 have A51:=Aside0.mk A510
                 clear A510
                 by_cases c52 : (x8_38 ++ (⟨#[32]⟩ : ByteArray)).size + t529.size ≤ 9223372036854775807
                 ·rw [if_pos c52] at H
                  have c52b0:=eq_true c52
                  have c52b1 : decide ((x8_38 ++ (⟨#[32]⟩ : ByteArray)).size + t529.size ≤ 9223372036854775807) = true:=decide_eq_true c52
                  try have c52b2 : (9223372036854775807 < (x8_38 ++ (⟨#[32]⟩ : ByteArray)).size + t529.size) = False:=eq_false (Nat.not_lt.2 c52)
                  have c52b3 : (9223372036854775807 < x8_38.size + 1 + t529.size) = False:=eq_false (Nat.not_lt.2 (by have h_:=c52; simp only [ByteArray.size_append] at h_; exact h_))
                  replace H:=Option.bind_eq_some_iff.mp H
                  obtain ⟨t530,A530,H⟩:=H
                  replace H : (if ((x8_38 ++ (⟨#[32]⟩ : ByteArray)) ++ t529).size + t530.size ≤ 9223372036854775807 then (some (((x8_38 ++ (⟨#[32]⟩ : ByteArray)) ++ t529) ++ t530,0)) else (none)) = some (r1,r2):=H
                  have A53:=Aside0.mk A530
                  clear A530
                  by_cases c54 : ((x8_38 ++ (⟨#[32]⟩ : ByteArray)) ++ t529).size + t530.size ≤ 9223372036854775807
                  ·rw [if_pos c54] at H
                   have c54b0:=eq_true c54
                   have c54b1 : decide (((x8_38 ++ (⟨#[32]⟩ : ByteArray)) ++ t529).size + t530.size ≤ 9223372036854775807) = true:=decide_eq_true c54
                   try have c54b2 : (9223372036854775807 < ((x8_38 ++ (⟨#[32]⟩ : ByteArray)) ++ t529).size + t530.size) = False:=eq_false (Nat.not_lt.2 c54)
                   have c54b3 : (9223372036854775807 < x8_38.size + 1 + t529.size + t530.size) = False:=eq_false (Nat.not_lt.2 (by have h_:=c54; simp only [ByteArray.size_append] at h_; exact h_))
                   simp only [Option.some.injEq,Prod.mk.injEq] at H
                   obtain ⟨rfl,rfl⟩:=H
                   try go_wp2
                   have n0_:=Aside0.mk (blk_drew BK508.out)
                   have n1_:=Aside0.mk (blk_drew BK516.out)
                   have n2_:=Aside0.mk (below_drew1 HB.out)
                   clear BK508
                   clear BK516
                   clear HB
                   have BK508:=n0_
                   have BK516:=n1_
                   have HB:=n2_
                   clear n0_ n1_ n2_
                   refine start_ (n:=11) (S:=fun w' => w'.cell? ⟨gb516,0,none⟩ = some (.int .i64 t510) ∧ w'.cell? ⟨gb516,1,none⟩ = some (.int .i64 t511) ∧ w'.cell? ⟨gb516,2,none⟩ = some (.int .i64 t512) ∧ w'.cell? ⟨gb516,3,none⟩ = some (.int .i64 t513) ∧ w'.cell? ⟨gb516,4,none⟩ = some (.int .i64 t514)) (ds:=[]) #[false,false,false,false,false,false,false,false,false,false,false] (by kernel_rfl) rfl rfl ⟨(blk_cell BK516.out 0).trans rfl,(blk_cell BK516.out 1).trans rfl,(blk_cell BK516.out 2).trans rfl,(blk_cell BK516.out 3).trans rfl,(blk_cell BK516.out 4).trans rfl⟩ (fun hHeld => ?_); refine with_tabW rotaref07_Line.tab16 rotaref07_Line.bits16 (fun HT_ HW_ => ?_)
                   generalize wc.drew = w55 at BK508 BK516 HB hHeld ⊢
                   refine pure_ (i:=0) (N:=some 85) (v:=?_) (a':=?_) #[true,false,false,false,false,false,false,false,false,false,false] rfl rfl (any_of HT_.out (by kernel_rfl)) (fun _ _ _ h => h) (Or.inl ⟨by rfl,?_⟩) ?_ ?_
                   rotate_left
                   ·intro w'
                    go_simp
                    with_reducible rfl
                   rotate_left
                   ·simp only [Act.put,sAz,sCz,sCs,i64_w,i32_w]
                    rfl
                   refine pure_ (i:=1) (N:=some 86) (v:=?_) (a':=?_) #[true,true,false,false,false,false,false,false,false,false,false] rfl rfl (any_of HT_.out (by kernel_rfl)) (fun _ _ _ h => h) (Or.inl ⟨by rfl,?_⟩) ?_ ?_
                   rotate_left
                   ·intro w'
                    go_simp
                    with_reducible rfl
                   rotate_left
                   ·simp only [Act.put,sAz,sCz,sCs,i64_w,i32_w]
                    rfl
                   refine pure_ (i:=2) (N:=some 87) (v:=?_) (a':=?_) #[true,true,true,false,false,false,false,false,false,false,false] rfl rfl (any_of HT_.out (by kernel_rfl)) (fun _ _ _ h => h) (Or.inl ⟨by rfl,?_⟩) ?_ ?_
                   rotate_left
                   ·intro w'
                    go_simp
                    with_reducible rfl
                   rotate_left
                   ·simp only [Act.put,sAz,sCz,sCs,i64_w,i32_w]
                    rfl
                   refine pure_ (i:=6) (N:=some 91) (v:=?_) (a':=?_) #[true,true,true,false,false,false,true,false,false,false,false] rfl rfl (any_of HT_.out (by kernel_rfl)) (fun _ _ _ h => h) (Or.inl ⟨by rfl,?_⟩) ?_ ?_
                   rotate_left
                   ·intro w'
                    go_simp
                    with_reducible rfl
                   rotate_left
                   ·simp only [Act.put,sAz,sCz,sCs,i64_w,i32_w]
                    rfl
                   refine take_ (i:=3) (N:=some 88) (v:=?_) (a':=?_) #[true,true,true,true,false,false,true,false,false,false,false] rfl rfl (take_ofW HT_.out HW_.out (by kernel_rfl)) (fun _ _ _ h => h) (Or.inl ⟨by rfl,?_⟩) hHeld ?_ ?_
                   rotate_left
                   ·rintro w' ⟨s0,s1,s2,s3,s4⟩
                    go_simp
                    with_reducible rfl
                   rotate_left
                   ·simp only [Act.put,sAz,sCz,sCs,i64_w,i32_w]
                    rfl
                   refine take_ (i:=7) (N:=some 92) (v:=?_) (a':=?_) #[true,true,true,true,false,false,true,true,false,false,false] rfl rfl (take_ofW HT_.out HW_.out (by kernel_rfl)) (fun _ _ _ h => h) (Or.inl ⟨by rfl,?_⟩) hHeld ?_ ?_
                   rotate_left
                   ·rintro w' ⟨s0,s1,s2,s3,s4⟩
                    go_simp
                    with_reducible rfl
                   rotate_left
                   ·simp only [Act.put,sAz,sCz,sCs,i64_w,i32_w]
                    rfl
                   refine one_ (i:=4) (N:=some 89) #[true,true,true,true,true,false,true,true,false,false,false] rfl rfl (one_of HT_.out (by kernel_rfl)) (by decide) (fun K hK => ?_)
                   refine goes_ Tryz.func45 (by kernel_rfl) rfl #[.int .i64 t510] (by rfl) rfl rfl (by (try simp only [List.map_toArray,List.map_cons,List.map_nil]); first | done | rfl | (simp only [List.length_drop,List.length_take]; rfl)) ?_
                   with_reducible refine (rotaref07_ahead.calls kj46 t510 t529 _ A51.out).mono ?_
                   rintro e w' ⟨rfl,⟨nd,rfl⟩⟩
                   refine ⟨_,rfl,?_⟩
                   refine hK.out _ _ ⟨(blk_cell BK516.out 0).trans rfl,(blk_cell BK516.out 1).trans rfl,(blk_cell BK516.out 2).trans rfl,(blk_cell BK516.out 3).trans rfl,(blk_cell BK516.out 4).trans rfl⟩ (fun hHeld => ?_)
                   clear hK K
                   refine norm_ (a':=?_) ?_ ?_
                   rotate_left
                   ·show Act.put _ (some 89) _ = _
                    simp only [Act.put,sAz,sCz,sCs,i64_w,i32_w]
                    rfl
                   refine pure_ (i:=5) (N:=some 90) (v:=?_) (a':=?_) #[true,true,true,true,true,true,true,true,false,false,false] rfl rfl (any_of HT_.out (by kernel_rfl)) (fun _ _ _ h => h) (Or.inl ⟨by rfl,?_⟩) ?_ ?_
                   rotate_left
                   ·intro w'
                    go_simp
                    with_reducible rfl
                   rotate_left
                   ·simp only [Act.put,sAz,sCz,sCs,i64_w,i32_w]
                    rfl
                   refine one_ (i:=8) (N:=some 93) #[true,true,true,true,true,true,true,true,true,false,false] rfl rfl (one_of HT_.out (by kernel_rfl)) (by decide) (fun K hK => ?_)
                   refine goes_ Tryz.func44 (by kernel_rfl) rfl #[.int .i64 t514] (by rfl) rfl rfl (by (try simp only [List.map_toArray,List.map_cons,List.map_nil]); first | done | rfl | (simp only [List.length_drop,List.length_take]; rfl)) ?_
                   with_reducible refine (rotaref07_decimal.calls kj46 t514 t530 _ A53.out).mono ?_
                   rintro e w56 ⟨rfl,hb⟩
                   refine ⟨_,rfl,?_⟩
                   have n0_:=Aside0.mk (blk_below (g:=gb508) (o:=.cells #[.slice (some ad509) l0_0.length c0_0,.slice A0_1 l0_1.length c0_1,.slice A0_2 l0_2.length c0_2] 26 (0,0)) (by (with_reducible repeat (first | refine blk_drewN ?_ _ | refine blk_drew ?_ | refine blk_alloc ?_ _)); exact BK508.out) hb)
                   have n1_:=Aside0.mk (blk_below (g:=gb516) (o:=.cells #[.int .i64 t510,.int .i64 t511,.int .i64 t512,.int .i64 t513,.int .i64 t514] 70 (0,0)) (by (with_reducible repeat (first | refine blk_drewN ?_ _ | refine blk_drew ?_ | refine blk_alloc ?_ _)); exact BK516.out) hb)
                   have n2_:=Aside0.mk (below_step (by repeat (first | (with_reducible first | exact HB.out | apply below_alloc | apply pw_below_drewN | apply below_drew1 | refine below_set ?_ GE508.out | refine below_set ?_ GE516.out) | exact HB.out)) hb)
                   clear BK508
                   clear BK516
                   clear HB
                   have BK508:=n0_
                   have BK516:=n1_
                   have HB:=n2_
                   clear n0_ n1_ n2_
                   (try clear hb)
                   (try clear hb2)
                   (try clear hk)
                   (try clear hi)
                   refine hK.out _ _ ⟨(blk_cell BK516.out 0).trans rfl,(blk_cell BK516.out 1).trans rfl,(blk_cell BK516.out 2).trans rfl,(blk_cell BK516.out 3).trans rfl,(blk_cell BK516.out 4).trans rfl⟩ (fun hHeld => ?_)
                   clear hK K
                   refine norm_ (a':=?_) ?_ ?_
                   rotate_left
                   ·show Act.put _ (some 93) _ = _
                    simp only [Act.put,sAz,sCz,sCs,i64_w,i32_w]
                    rfl
                   refine pure_ (i:=9) (N:=some 94) (v:=?_) (a':=?_) #[true,true,true,true,true,true,true,true,true,true,false] rfl rfl (any_of HT_.out (by kernel_rfl)) (fun _ _ _ h => h) (Or.inl ⟨by rfl,?_⟩) ?_ ?_
                   rotate_left
                   ·intro w'
                    go_simp
                    with_reducible rfl
                   rotate_left
                   ·simp only [Act.put,sAz,sCz,sCs,i64_w,i32_w]
                    rfl
                   refine pure_ (i:=10) (N:=some 8) (v:=?_) (a':=?_) #[true,true,true,true,true,true,true,true,true,true,true] rfl rfl (any_of HT_.out (by kernel_rfl)) (fun _ _ _ h => h) (Or.inl ⟨by rfl,?_⟩) ?_ ?_
                   rotate_left
                   ·intro w'
                    go_simp
                    with_reducible rfl
                   rotate_left
                   ·simp only [Act.put,sAz,sCz,sCs,i64_w,i32_w]
                    rfl
                   refine done_ (done_of HT_.out (by kernel_rfl)) ?_
                   try go_wp2
                   go_ret2
                   exact ⟨by first | rfl | (simp [errW_none,errW_some] <;> rfl) | (simp [*,errW_none,errW_some] <;> rfl),by repeat (first | (with_reducible first | exact HB.out | apply below_alloc | apply pw_below_drewN | apply below_drew1 | refine below_set ?_ GE508.out | refine below_set ?_ GE516.out) | exact HB.out)⟩
                  ·rw [if_neg c54] at H
                   exact absurd H (by simp)
                 ·rw [if_neg c52] at H
                  exact absurd H (by simp)
                ·rw [if_neg c50] at H
                 exact absurd H (by simp)
               ·replace c49:=Bool.eq_false_iff.mpr c49
                subst c49
                have H1 : (some (x8_38,0)) = some (r1,r2):=by rw [if_neg (show ¬ (false = true) by decide)] at H; exact H
                clear H
                have H:=H1
                clear H1
                simp only [Option.some.injEq,Prod.mk.injEq] at H
                obtain ⟨rfl,rfl⟩:=H
                go_wp2
                go_ret2
                exact ⟨by first | rfl | (simp [errW_none,errW_some] <;> rfl) | (simp [*,errW_none,errW_some] <;> rfl),by repeat (first | (with_reducible first | exact HB.out | apply below_alloc | apply pw_below_drewN | apply below_drew1 | refine below_set ?_ GE508.out | refine below_set ?_ GE516.out) | exact HB.out)⟩
      ·rw [if_neg c11] at H
       have c11b0 : (t515 == 0) = false:=beq_eq_false_iff_ne.mpr c11
       have c11b1 : (t515 != 0) = true:=bne_iff_ne.mpr c11
       simp only [Option.some.injEq,Prod.mk.injEq] at H
       obtain ⟨rfl,rfl⟩:=H
       have hcz57_0 : wc.cell? ⟨gb508,0,none⟩ = some (.slice A0_0 l0_0.length c0_0):=(blk_cell BK508.out 0).trans rfl
       have hcz57_1 : wc.cell? ⟨gb508,1,none⟩ = some (.slice A0_1 l0_1.length c0_1):=(blk_cell BK508.out 1).trans rfl
       have hcz57_2 : wc.cell? ⟨gb508,2,none⟩ = some (.slice A0_2 l0_2.length c0_2):=(blk_cell BK508.out 2).trans rfl
       have hfz57_0:=blk_frozen BK508.out 0
       have hfz57_1:=blk_frozen BK508.out 1
       have hfz57_2:=blk_frozen BK508.out 2
       have p509 : 0 ≤ (a1 : Int):=of_decide_eq_true (by first | (with_reducible assumption) | assumption)
       have q509 : a1 < (l0_0.length : Int):=of_decide_eq_true (by first | (with_reducible assumption) | assumption)
       obtain ⟨ad509,e509,hx509_0⟩:=Kd.at_int HR0_0.out a1 p509 q509
       cases e509
       try replace hx509_0:=(HB.out.cell (World.block_lt_of_cell? w _ hx509_0)).trans hx509_0
       replace p509:=eq_true p509
       replace q509:=eq_true q509
       go_wp2_with (first | ((with_reducible refine gate_callee (f:=40) rfl ?_); refine goesL_ (some 32) rfl rfl Tryz.func40 (by kernel_rfl) rfl #[.int .u32 (rd l0_0 a1)] rfl (by (try simp only [List.map_toArray,List.map_cons,List.map_nil]); first | done | rfl | (simp only [List.length_drop,List.length_take]; rfl)) ?_; (with_reducible refine (rotaref06_Decode.calls (rd l0_0 a1) t510 t511 t512 t513 t514 t515 _ A10.out).mono ?_); rintro e w58 ⟨rfl,hb⟩; refine ⟨_,rfl,?_⟩; have n0_:=Aside0.mk (blk_below (g:=gb508) (o:=.cells #[.slice (some ad509) l0_0.length c0_0,.slice A0_1 l0_1.length c0_1,.slice A0_2 l0_2.length c0_2] 26 (0,0)) (by (with_reducible repeat (first | refine blk_drewN ?_ _ | refine blk_drew ?_ | refine blk_alloc ?_ _)); exact BK508.out) hb); have n1_:=Aside0.mk (below_step (by repeat (first | (with_reducible first | exact HB.out | apply below_alloc | apply pw_below_drewN | apply below_drew1 | refine below_set ?_ GE508.out) | exact HB.out)) hb); clear BK508; clear HB; have BK508:=n0_; have HB:=n1_; clear n0_ n1_; (try clear hb); (try clear hb2); (try clear hk); (try clear hi)) | ((with_reducible refine gate_dst (N:=6) rfl ?_); (try (refine gate_guard (by rfl) ?_; dsimp only)); refine box_event ?hg (N:=6) ?hd (cs:=#[.int .i64 0,.int .i64 0,.int .i64 0,.int .i64 0,.int .i64 0]) (t:=70) ?hr ?_; (case hd => rfl); (case hg => rfl); (case hr => first | (go_simp; done) | (go_simp; rfl)); intro gb516 hg w59 hbox hb; have n0_:=Aside0.mk (blk_below (g:=gb508) (o:=.cells #[.slice (some ad509) l0_0.length c0_0,.slice A0_1 l0_1.length c0_1,.slice A0_2 l0_2.length c0_2] 26 (0,0)) (by (with_reducible repeat (first | refine blk_drewN ?_ _ | refine blk_drew ?_ | refine blk_alloc ?_ _)); exact BK508.out) hb); have n1_:=Aside0.mk (below_step (by repeat (first | (with_reducible first | exact HB.out | apply below_alloc | apply pw_below_drewN | apply below_drew1 | refine below_set ?_ GE508.out) | exact HB.out)) hb); have n2_:=Aside0.mk (hbox); have n3_:=Aside0.mk ((by rw [hg]; exact (below_size (by repeat (first | (with_reducible first | exact HB.out | apply below_alloc | apply pw_below_drewN | apply below_drew1 | refine below_set ?_ GE508.out) | exact HB.out))) : w.heap.size ≤ gb516)); have n4_:=Aside0.mk ((by rw [hg]; exact (below_size (by repeat (first | (with_reducible first | exact HB.out | apply below_alloc | apply pw_below_drewN | apply below_drew1 | refine below_set ?_ GE508.out) | exact HB.out))) : w.heap.size ≤ gb516)); have n5_:=Aside0.mk ((by rw [hg]; exact Nat.ne_of_lt (blk_lt (g:=gb508) (o:=.cells #[.slice (some ad509) l0_0.length c0_0,.slice A0_1 l0_1.length c0_1,.slice A0_2 l0_2.length c0_2] 26 (0,0)) (by (with_reducible repeat (first | refine blk_drewN ?_ _ | refine blk_drew ?_ | refine blk_alloc ?_ _)); exact BK508.out)) : gb508 ≠ gb516)); have n6_:=Aside0.mk ((by rw [hg]; exact Nat.ne_of_gt (blk_lt (g:=gb508) (o:=.cells #[.slice (some ad509) l0_0.length c0_0,.slice A0_1 l0_1.length c0_1,.slice A0_2 l0_2.length c0_2] 26 (0,0)) (by (with_reducible repeat (first | refine blk_drewN ?_ _ | refine blk_drew ?_ | refine blk_alloc ?_ _)); exact BK508.out)) : gb516 ≠ gb508)); clear BK508; clear HB; have BK508:=n0_; have HB:=n1_; have BK516:=n2_; have GW516:=n3_; have GE516:=n4_; have NB508_516:=n5_; have NB516_508:=n6_; clear n0_ n1_ n2_ n3_ n4_ n5_ n6_; clear hb hbox hg; have hnb60:=NB516_508.out; have hnc60:=NB508_516.out; have hcz61_0 : w59.cell? ⟨gb516,0,none⟩ = some (.int .i64 0):=(blk_cell BK516.out 0).trans rfl; have hcz61_1 : w59.cell? ⟨gb516,1,none⟩ = some (.int .i64 0):=(blk_cell BK516.out 1).trans rfl; have hcz61_2 : w59.cell? ⟨gb516,2,none⟩ = some (.int .i64 0):=(blk_cell BK516.out 2).trans rfl; have hcz61_3 : w59.cell? ⟨gb516,3,none⟩ = some (.int .i64 0):=(blk_cell BK516.out 3).trans rfl; have hcz61_4 : w59.cell? ⟨gb516,4,none⟩ = some (.int .i64 0):=(blk_cell BK516.out 4).trans rfl; have hfz61_0:=blk_frozen BK516.out 0; have hfz61_1:=blk_frozen BK516.out 1; have hfz61_2:=blk_frozen BK516.out 2; have hfz61_3:=blk_frozen BK516.out 3; have hfz61_4:=blk_frozen BK516.out 4))
       go_ret2
       exact ⟨by first | rfl | (simp [errW_none,errW_some] <;> rfl) | (simp [*,errW_none,errW_some] <;> rfl),by repeat (first | (with_reducible first | exact HB.out | apply below_alloc | apply pw_below_drewN | apply below_drew1 | refine below_set ?_ GE508.out | refine below_set ?_ GE516.out) | exact HB.out)⟩
     ·rw [if_neg c9] at H
      exact absurd H (by simp)
    ·rw [if_neg c8] at H
     exact absurd H (by simp)
end Go.Proofs.YtdbpglhdicmhhaaGreatDoor.GA
end
