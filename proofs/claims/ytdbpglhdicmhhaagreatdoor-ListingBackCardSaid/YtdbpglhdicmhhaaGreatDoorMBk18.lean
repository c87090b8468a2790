import Derived.Test.YtdbpglhdicmhhaaGreatDoorMBk4
import Derived.Test.YtdbpglhdicmhhaaGreatDoorMBk15
import Derived.Test.YtdbpglhdicmhhaaGreatDoorMBk17
set_option linter.unusedVariables false
set_option linter.unusedSimpArgs false
section
namespace Go.Proofs.YtdbpglhdicmhhaaGreatDoor.GA
open Go.RowKit Go.Proofs.YtdbpglhdicmhhaaGreatDoorW.PrintWords Go.Proofs.YtdbpglhdicmhhaaGreatDoorW.PrintLast Go.Proofs.YtdbpglhdicmhhaaGreatDoorW.PrintMore
mutual
def listing_Line.j0 : Nat → Int → Bool → List Int → List (S41) → List (S44) → Option (ByteArray × Int)
 | 0,_,_,_,_,_ => none
 | k + 1,x1,x24,x446000,x446001,x446002 => if x24 = true then (some ((⟨#[]⟩ : ByteArray),1)) else (if 0 ≤ x1 then (if x1 < (x446000.length : Int) then ((word_Decode.f (rd x446000 x1)).bind fun bt447 => (if bt447.2.2.2.2.2 = 0 then ((word_Name.f bt447.1).bind fun bt454 => ((word_Shape.f bt447.1).bind fun bt456 => ((listing_fields.f bt456.1).bind fun bt458 => ((some (([bt447.2.1,bt447.2.2.1,bt447.2.2.2.1] : List Int) : List Int)).bind fun y460 => (if 0 ≤ bt458.1 then (if bt458.1 ≤ (y460.length : Int) then ((some (y460.take (bt458.1 : Int).toNat : List Int)).bind fun y463 => (listing_Line.l0 k bt454.1 bt458.2 y463 (y463.length : Int) 0 bt447.1 bt447.2.1 bt447.2.2.1 bt447.2.2.2.1 bt447.2.2.2.2.1)) else (none)) else (none)))))) else (some ((⟨#[]⟩ : ByteArray),bt447.2.2.2.2.2)))) else (none)) else (none))
def listing_Line.l0 : Nat → ByteArray → Bool → List Int → Int → Int → Int → Int → Int → Int → Int → Option (ByteArray × Int)
 | 0,_,_,_,_,_,_,_,_,_,_ => none
 | k + 1,x8,x13,x62,x63,x64,x454000,x454001,x454002,x454003,x454004 => if x64 < x63 then (if 0 ≤ x64 then (if x64 < (x62.length : Int) then ((strconv_Itoa_38.f (rd x62 x64)).bind fun t468 => (if 2 + t468.size ≤ 9223372036854775807 then (if x8.size + ((⟨#[32,114]⟩ : ByteArray) ++ t468).size ≤ 9223372036854775807 then (listing_Line.l0 k (x8 ++ ((⟨#[32,114]⟩ : ByteArray) ++ t468)) x13 x62 x63 (wrap64 (x64 + 1)) x454000 x454001 x454002 x454003 x454004) else (none)) else (none))) else (none)) else (none)) else (if x13 = true then ((listing_prefix.f k x454000).bind fun t469 => (if 1 + t469.size ≤ 9223372036854775807 then ((strconv_Itoa_38.f x454004).bind fun t470 => (if ((⟨#[32]⟩ : ByteArray) ++ t469).size + t470.size ≤ 9223372036854775807 then (if x8.size + (((⟨#[32]⟩ : ByteArray) ++ t469) ++ t470).size ≤ 9223372036854775807 then (some (x8 ++ (((⟨#[32]⟩ : ByteArray) ++ t469) ++ t470),0)) else (none)) else (none))) else (none))) else (some (x8,0)))
end
def listing_Line.f (k : Nat) (l0_0 : List Int) (l0_1 : List (S41)) (l0_2 : List (S44)) (a1 : Int) : Option (ByteArray × Int):=if a1 < 0 then (listing_Line.j0 k a1 true l0_0 l0_1 l0_2) else (listing_Line.j0 k a1 (decide (a1 ≥ (l0_0.length : Int))) l0_0 l0_1 l0_2)
theorem listing_Line.mono_l : ∀ k,(∀ y0 y1 y2 y3 y4,LeO (listing_Line.j0 k y0 y1 y2 y3 y4) (listing_Line.j0 (k + 1) y0 y1 y2 y3 y4)) ∧ (∀ y0 y1 y2 y3 y4 y5 y6 y7 y8 y9,LeO (listing_Line.l0 k y0 y1 y2 y3 y4 y5 y6 y7 y8 y9) (listing_Line.l0 (k + 1) y0 y1 y2 y3 y4 y5 y6 y7 y8 y9))
 | 0 => ⟨fun _ _ _ _ _ r h => by simp [listing_Line.j0] at h,fun _ _ _ _ _ _ _ _ _ _ r h => by simp [listing_Line.l0] at h⟩
 | k + 1 => by
  obtain ⟨ih0,ih1⟩:=listing_Line.mono_l k
  refine ⟨?_,?_⟩
  ·intro y0 y1 y2 y3 y4
   unfold listing_Line.j0
   repeat' first
   | (with_reducible exact ih0 _ _ _ _ _)
   | (with_reducible exact ih1 _ _ _ _ _ _ _ _ _ _)
   | (with_reducible exact listing_prefix.mono _ _)
   | (with_reducible exact LeO.refl _)
   | (with_reducible exact LeO.none _)
   | (with_reducible refine LeO.ite ?_ ?_)
   | (with_reducible refine LeO.bind ?_ (fun _ => ?_))
   | exact ih0 _ _ _ _ _
   | exact ih1 _ _ _ _ _ _ _ _ _ _
   | exact listing_prefix.mono _ _
   | exact LeO.none _
   | refine LeO.ite ?_ ?_
   | refine LeO.bind ?_ (fun _ => ?_)
  ·intro y0 y1 y2 y3 y4 y5 y6 y7 y8 y9
   unfold listing_Line.l0
   repeat' first
   | (with_reducible exact ih0 _ _ _ _ _)
   | (with_reducible exact ih1 _ _ _ _ _ _ _ _ _ _)
   | (with_reducible exact listing_prefix.mono _ _)
   | (with_reducible exact LeO.refl _)
   | (with_reducible exact LeO.none _)
   | (with_reducible refine LeO.ite ?_ ?_)
   | (with_reducible refine LeO.bind ?_ (fun _ => ?_))
   | exact ih0 _ _ _ _ _
   | exact ih1 _ _ _ _ _ _ _ _ _ _
   | exact listing_prefix.mono _ _
   | exact LeO.none _
   | refine LeO.ite ?_ ?_
   | refine LeO.bind ?_ (fun _ => ?_)
def listing_Line.T15 : Bool × List (List Nat × List Nat):=(true,[([],[]),([],[]),([1],[1]),([2],[2]),([3],[3]),([],[]),([5],[5]),([6,3],[6]),([4,7],[4,7]),([0,8],[0,8]),([9,7,0,1,2,3,4,5,6,7,8,9],[0,9])])
def listing_Line.B15 : List Nat:=[0,0,2,6,14,0,32,110,254,511,1023]
theorem listing_Line.tab15 : rtab .any (opsOf Tryz.f13 15) = listing_Line.T15:=by kernel_rfl
theorem listing_Line.bits15 : waitsOk listing_Line.T15.2 listing_Line.B15 = true:=by kernel_rfl
set_option maxHeartbeats 8000000 in
set_option maxRecDepth 100000 in
theorem listing_Line.calls (k : Nat) (A0_0 : Option Addr) (c0_0 : Nat) (l0_0 : List Int) (A0_1 : Option Addr) (c0_1 : Nat) (l0_1 : List (S41)) (A0_2 : Option Addr) (c0_2 : Nat) (l0_2 : List (S44)) (a1 : Int) (r1 : ByteArray) (r2 : Int) (w : World) (hLLibStd : Laid.LibStd w) (hr0_0 : Kd.C (Kd.int .u32) w A0_0 l0_0.length l0_0) (hc0_0 : l0_0.length ≤ c0_0) (hr0_1 : Kd.C k41 w A0_1 l0_1.length l0_1) (hc0_1 : l0_1.length ≤ c0_1) (hr0_2 : Kd.C k44 w A0_2 l0_2.length l0_2) (hc0_2 : l0_2.length ≤ c0_2) (h : listing_Line.f k l0_0 l0_1 l0_2 a1 = some (r1,r2)) :
  Calls Tryz.prog 13 #[.agg #[.slice A0_0 l0_0.length c0_0,.slice A0_1 l0_1.length c0_1,.slice A0_2 l0_2.length c0_2],.int .i64 a1] w fun e w' => e = .returned (.tuple #[.string r1,.int .i64 r2]) ∧ Below w.heap.size w w':=by
 have hu26:=Tryz.underlying26
 have hu70:=Tryz.underlying70
 have HR0_0:=Aside0.mk hr0_0
 have HC0_0:=Aside0.mk hc0_0
 clear hr0_0 hc0_0
 have HR0_1:=Aside0.mk hr0_1
 have HC0_1:=Aside0.mk hc0_1
 clear hr0_1 hc0_1
 have HR0_2:=Aside0.mk hr0_2
 have HC0_2:=Aside0.mk hc0_2
 clear hr0_2 hc0_2
 have HB:=Aside0.mk (Below.refl w.heap.size w)
 have H : (if a1 < 0 then (listing_Line.j0 k a1 true l0_0 l0_1 l0_2) else (listing_Line.j0 k a1 (decide (a1 ≥ (l0_0.length : Int))) l0_0 l0_1 l0_2)) = some (r1,r2):=h
 clear h
 have HC3:=Aside0.mk H
 clear H
 go_enter Tryz.func13,Tryz.ntmps13
 go_upto_region 1 with (first | ((with_reducible refine gate_dst (N:=2) rfl ?_); (try (refine gate_guard (by rfl) ?_; dsimp only)); refine box_event ?hg (N:=2) ?hd (cs:=#[.slice A0_0 l0_0.length c0_0,.slice A0_1 l0_1.length c0_1,.slice A0_2 l0_2.length c0_2]) (t:=26) ?hr ?_; (case hd => rfl); (case hg => rfl); (case hr => first | (go_simp; done) | (go_simp; rfl)); intro gb445 hg w4 hbox hb; have n0_:=Aside0.mk (below_step (by repeat (first | (with_reducible first | exact HB.out | apply below_alloc | apply pw_below_drewN | apply below_drew1) | exact HB.out)) hb); have n1_:=Aside0.mk (hbox); have n2_:=Aside0.mk ((by rw [hg]; exact (below_size (by repeat (first | (with_reducible first | exact HB.out | apply below_alloc | apply pw_below_drewN | apply below_drew1) | exact HB.out))) : w.heap.size ≤ gb445)); have n3_:=Aside0.mk ((by rw [hg]; exact (below_size (by repeat (first | (with_reducible first | exact HB.out | apply below_alloc | apply pw_below_drewN | apply below_drew1) | exact HB.out))) : w.heap.size ≤ gb445)); clear HB; have HB:=n0_; have BK445:=n1_; have GW445:=n2_; have GE445:=n3_; clear n0_ n1_ n2_ n3_; clear hb hbox hg))
 (try simp only [Act.put,sAz,sCz,sCs])
 go_cut [24] (fun v24 wc => ∃ (kq : Nat) (x24_2 : Bool),v24 = .bool x24_2 ∧ Aside0 (listing_Line.j0 kq a1 x24_2 l0_0 l0_1 l0_2 = some (r1,r2)) ∧ Aside0 (kq ≤ k) ∧ Aside0 (wc.heap[gb445]? = some (.cells #[(.slice A0_0 l0_0.length c0_0),(.slice A0_1 l0_1.length c0_1),(.slice A0_2 l0_2.length c0_2)] 26 (0,0))) ∧ Aside0 (Below w.heap.size w wc))
 case first =>
  have H:=HC3.out
  clear HC3
  by_cases c5 : a1 < 0
  ·rw [if_pos c5] at H
   have c5b0 : decide (a1 < 0) = true:=decide_eq_true c5
   clear c5
   (first | rw [c5b0] | (simp only [i64_w,i32_w]; rw [c5b0]) | skip)
   have H':=Aside0.mk H
   clear H
   go_wp2
   go_meet
   case rel => exact ⟨_,(true),(by first | rfl | (simp; done) | (simp [*]; done)),H',⟨by first | omega | exact Nat.le_refl _⟩,⟨by (with_reducible repeat (first | refine blk_drewN ?_ _ | refine blk_drew ?_ | refine blk_alloc ?_ _)); exact BK445.out⟩,⟨by repeat (first | (with_reducible first | exact HB.out | apply below_alloc | apply pw_below_drewN | apply below_drew1 | refine below_set ?_ GE445.out) | exact HB.out)⟩⟩
  ·rw [if_neg c5] at H
   have c5b0 : decide (a1 < 0) = false:=decide_eq_false c5
   clear c5
   (first | rw [c5b0] | (simp only [i64_w,i32_w]; rw [c5b0]) | skip)
   have H':=Aside0.mk H
   clear H
   have hcz6_0 : w4.cell? ⟨gb445,0,none⟩ = some (.slice A0_0 l0_0.length c0_0):=(blk_cell BK445.out 0).trans rfl
   have hcz6_1 : w4.cell? ⟨gb445,1,none⟩ = some (.slice A0_1 l0_1.length c0_1):=(blk_cell BK445.out 1).trans rfl
   have hcz6_2 : w4.cell? ⟨gb445,2,none⟩ = some (.slice A0_2 l0_2.length c0_2):=(blk_cell BK445.out 2).trans rfl
   have hfz6_0:=blk_frozen BK445.out 0
   have hfz6_1:=blk_frozen BK445.out 1
   have hfz6_2:=blk_frozen BK445.out 2
   go_wp2
   go_meet
   case rel => exact ⟨_,(decide (a1 ≥ (l0_0.length : Int))),(by first | rfl | (simp; done) | (simp [*]; done)),H',⟨by first | omega | exact Nat.le_refl _⟩,⟨by (with_reducible repeat (first | refine blk_drewN ?_ _ | refine blk_drew ?_ | refine blk_alloc ?_ _)); exact BK445.out⟩,⟨by repeat (first | (with_reducible first | exact HB.out | apply below_alloc | apply pw_below_drewN | apply below_drew1 | refine below_set ?_ GE445.out) | exact HB.out)⟩⟩
 case rest =>
  clear HC3
  try clear c1
  try clear p2
  try clear c5
  try clear c5b0
  try clear hcz6_0
  try clear hcz6_1
  try clear hcz6_2
  try clear hfz6_0
  try clear hfz6_1
  try clear hfz6_2
  obtain ⟨kq,x24_2,rfl,HA,HJ2,BK445,HB⟩:=hcut
  cases kq with
  | zero => exact absurd HA.out (by simp [listing_Line.j0])
  | succ kj2 =>
   have H:=HA.out
   clear HA
   simp only [listing_Line.j0] at H
   by_cases c7 : x24_2 = true
   ·subst c7
    have H1 : (some ((⟨#[]⟩ : ByteArray),1)) = some (r1,r2):=by rw [if_pos rfl] at H; exact H
    clear H
    have H:=H1
    clear H1
    simp only [Option.some.injEq,Prod.mk.injEq] at H
    obtain ⟨rfl,rfl⟩:=H
    go_wp2
    go_ret2
    exact ⟨by first | rfl | (simp [errW_none,errW_some] <;> rfl) | (simp [*,errW_none,errW_some] <;> rfl),by repeat (first | (with_reducible first | exact HB.out | apply below_alloc | apply pw_below_drewN | apply below_drew1 | refine below_set ?_ GE445.out) | exact HB.out)⟩
   ·replace c7:=Bool.eq_false_iff.mpr c7
    subst c7
    have H1 : (if 0 ≤ a1 then (if a1 < (l0_0.length : Int) then ((word_Decode.f (rd l0_0 a1)).bind fun bt447 => (if bt447.2.2.2.2.2 = 0 then ((word_Name.f bt447.1).bind fun bt454 => ((word_Shape.f bt447.1).bind fun bt456 => ((listing_fields.f bt456.1).bind fun bt458 => ((some (([bt447.2.1,bt447.2.2.1,bt447.2.2.2.1] : List Int) : List Int)).bind fun y460 => (if 0 ≤ bt458.1 then (if bt458.1 ≤ (y460.length : Int) then ((some (y460.take (bt458.1 : Int).toNat : List Int)).bind fun y463 => (listing_Line.l0 kj2 bt454.1 bt458.2 y463 (y463.length : Int) 0 bt447.1 bt447.2.1 bt447.2.2.1 bt447.2.2.2.1 bt447.2.2.2.2.1)) else (none)) else (none)))))) else (some ((⟨#[]⟩ : ByteArray),bt447.2.2.2.2.2)))) else (none)) else (none)) = some (r1,r2):=by rw [if_neg (show ¬ (false = true) by decide)] at H; exact H
    clear H
    have H:=H1
    clear H1
    by_cases c8 : 0 ≤ a1
    ·rw [if_pos c8] at H
     have c8b0 : decide (0 ≤ a1) = true:=decide_eq_true c8
     clear c8
     by_cases c9 : a1 < (l0_0.length : Int)
     ·rw [if_pos c9] at H
      have c9b0 : decide (a1 < (l0_0.length : Int)) = true:=decide_eq_true c9
      clear c9
      replace H:=Option.bind_eq_some_iff.mp H
      obtain ⟨⟨t447,t448,t449,t450,t451,t452⟩,A100,H⟩:=H
      replace H : (if t452 = 0 then ((word_Name.f t447).bind fun bt454 => ((word_Shape.f t447).bind fun bt456 => ((listing_fields.f bt456.1).bind fun bt458 => ((some (([t448,t449,t450] : List Int) : List Int)).bind fun y460 => (if 0 ≤ bt458.1 then (if bt458.1 ≤ (y460.length : Int) then ((some (y460.take (bt458.1 : Int).toNat : List Int)).bind fun y463 => (listing_Line.l0 kj2 bt454.1 bt458.2 y463 (y463.length : Int) 0 t447 t448 t449 t450 t451)) else (none)) else (none)))))) else (some ((⟨#[]⟩ : ByteArray),t452))) = some (r1,r2):=H
      have A10:=Aside0.mk A100
      clear A100
      by_cases c11 : t452 = 0
      ·rw [if_pos c11] at H
       have c11b0 : (t452 == 0) = true:=beq_iff_eq.mpr c11
       have c11b1 : (t452 != 0) = false:=bne_eq_false_iff_eq.mpr c11
       clear c11
       replace H:=Option.bind_eq_some_iff.mp H
       obtain ⟨⟨t454,t455⟩,A120,H⟩:=H
       replace H : ((word_Shape.f t447).bind fun bt456 => ((listing_fields.f bt456.1).bind fun bt458 => ((some (([t448,t449,t450] : List Int) : List Int)).bind fun y460 => (if 0 ≤ bt458.1 then (if bt458.1 ≤ (y460.length : Int) then ((some (y460.take (bt458.1 : Int).toNat : List Int)).bind fun y463 => (listing_Line.l0 kj2 t454 bt458.2 y463 (y463.length : Int) 0 t447 t448 t449 t450 t451)) else (none)) else (none))))) = some (r1,r2):=H
       have A12:=Aside0.mk A120
       clear A120
       replace H:=Option.bind_eq_some_iff.mp H
       obtain ⟨⟨t456,t457⟩,A130,H⟩:=H
       replace H : ((listing_fields.f t456).bind fun bt458 => ((some (([t448,t449,t450] : List Int) : List Int)).bind fun y460 => (if 0 ≤ bt458.1 then (if bt458.1 ≤ (y460.length : Int) then ((some (y460.take (bt458.1 : Int).toNat : List Int)).bind fun y463 => (listing_Line.l0 kj2 t454 bt458.2 y463 (y463.length : Int) 0 t447 t448 t449 t450 t451)) else (none)) else (none)))) = some (r1,r2):=H
       have A13:=Aside0.mk A130
       clear A130
       replace H:=Option.bind_eq_some_iff.mp H
       obtain ⟨⟨t458,t459⟩,A140,H⟩:=H
       replace H : ((some (([t448,t449,t450] : List Int) : List Int)).bind fun y460 => (if 0 ≤ t458 then (if t458 ≤ (y460.length : Int) then ((some (y460.take (t458 : Int).toNat : List Int)).bind fun y463 => (listing_Line.l0 kj2 t454 t459 y463 (y463.length : Int) 0 t447 t448 t449 t450 t451)) else (none)) else (none))) = some (r1,r2):=H
       have A14:=Aside0.mk A140
       clear A140
       obtain ⟨y460,hy460⟩ : ∃ y_ : List Int,y_ = (([t448,t449,t450] : List Int)):=⟨_,rfl⟩
       replace H : (if 0 ≤ t458 then (if t458 ≤ (y460.length : Int) then ((some (y460.take (t458 : Int).toNat : List Int)).bind fun y463 => (listing_Line.l0 kj2 t454 t459 y463 (y463.length : Int) 0 t447 t448 t449 t450 t451)) else (none)) else (none)) = some (r1,r2):=by first | (rw [hy460]; with_reducible exact H) | (have H2_:=(Option.bind_some _ _).symm.trans H; rw [hy460]; with_reducible exact H2_) | (have H2_:=(Option.bind_some _ _).symm.trans H; with_reducible exact H2_) | with_reducible exact H | (rw [hy460]; exact H) | exact H
       have Ny460:=Aside0.mk hy460
       clear hy460
       by_cases c15 : 0 ≤ t458
       ·rw [if_pos c15] at H
        have c15b0:=eq_true c15
        have c15b1 : decide (0 ≤ t458) = true:=decide_eq_true c15
        clear c15
        by_cases c16 : t458 ≤ (y460.length : Int)
        ·rw [if_pos c16] at H
         have c16b0:=eq_true c16
         have c16b1 : decide (t458 ≤ (y460.length : Int)) = true:=decide_eq_true c16
         clear c16
         obtain ⟨y463,hy463⟩ : ∃ y_ : List Int,y_ = (y460.take (t458 : Int).toNat):=⟨_,rfl⟩
         replace H : (listing_Line.l0 kj2 t454 t459 y463 (y463.length : Int) 0 t447 t448 t449 t450 t451) = some (r1,r2):=by first | (rw [hy463]; with_reducible exact H) | (have H2_:=(Option.bind_some _ _).symm.trans H; rw [hy463]; with_reducible exact H2_) | (have H2_:=(Option.bind_some _ _).symm.trans H; with_reducible exact H2_) | with_reducible exact H | (rw [hy463]; exact H) | exact H
         have Ny463:=Aside0.mk hy463
         clear hy463
         have H':=Aside0.mk H
         clear H
         have hcz17_0 : wc.cell? ⟨gb445,0,none⟩ = some (.slice A0_0 l0_0.length c0_0):=(blk_cell BK445.out 0).trans rfl
         have hcz17_1 : wc.cell? ⟨gb445,1,none⟩ = some (.slice A0_1 l0_1.length c0_1):=(blk_cell BK445.out 1).trans rfl
         have hcz17_2 : wc.cell? ⟨gb445,2,none⟩ = some (.slice A0_2 l0_2.length c0_2):=(blk_cell BK445.out 2).trans rfl
         have hfz17_0:=blk_frozen BK445.out 0
         have hfz17_1:=blk_frozen BK445.out 1
         have hfz17_2:=blk_frozen BK445.out 2
         have p446 : 0 ≤ (a1 : Int):=of_decide_eq_true (by first | (with_reducible assumption) | assumption)
         have q446 : a1 < (l0_0.length : Int):=of_decide_eq_true (by first | (with_reducible assumption) | assumption)
         obtain ⟨ad446,e446,hx446_0⟩:=Kd.at_int HR0_0.out a1 p446 q446
         cases e446
         try replace hx446_0:=(HB.out.cell (World.block_lt_of_cell? w _ hx446_0)).trans hx446_0
         replace p446:=eq_true p446
         replace q446:=eq_true q446
         go_wp2_with (first | ((with_reducible refine gate_callee (f:=34) rfl ?_); refine goesL_ (some 31) rfl rfl Tryz.func34 (by kernel_rfl) rfl #[.int .u32 (rd l0_0 a1)] rfl (by (try simp only [List.map_toArray,List.map_cons,List.map_nil]); first | done | rfl | (simp only [List.length_drop,List.length_take]; rfl)) ?_; (with_reducible refine (word_Decode.calls (rd l0_0 a1) t447 t448 t449 t450 t451 t452 _ A10.out).mono ?_); rintro e w18 ⟨rfl,hb⟩; refine ⟨_,rfl,?_⟩; have n0_:=Aside0.mk (blk_below (g:=gb445) (o:=.cells #[.slice (some ad446) l0_0.length c0_0,.slice A0_1 l0_1.length c0_1,.slice A0_2 l0_2.length c0_2] 26 (0,0)) (by (with_reducible repeat (first | refine blk_drewN ?_ _ | refine blk_drew ?_ | refine blk_alloc ?_ _)); exact BK445.out) hb); have n1_:=Aside0.mk (below_step (by repeat (first | (with_reducible first | exact HB.out | apply below_alloc | apply pw_below_drewN | apply below_drew1 | refine below_set ?_ GE445.out) | exact HB.out)) hb); clear BK445; clear HB; have BK445:=n0_; have HB:=n1_; clear n0_ n1_; (try clear hb); (try clear hb2); (try clear hk); (try clear hi)) | ((with_reducible refine gate_dst (N:=6) rfl ?_); (try (refine gate_guard (by rfl) ?_; dsimp only)); refine box_event ?hg (N:=6) ?hd (cs:=#[.int .i64 0,.int .i64 0,.int .i64 0,.int .i64 0,.int .i64 0]) (t:=70) ?hr ?_; (case hd => rfl); (case hg => rfl); (case hr => first | (go_simp; done) | (go_simp; rfl)); intro gb453 hg w19 hbox hb; have n0_:=Aside0.mk (blk_below (g:=gb445) (o:=.cells #[.slice (some ad446) l0_0.length c0_0,.slice A0_1 l0_1.length c0_1,.slice A0_2 l0_2.length c0_2] 26 (0,0)) (by (with_reducible repeat (first | refine blk_drewN ?_ _ | refine blk_drew ?_ | refine blk_alloc ?_ _)); exact BK445.out) hb); have n1_:=Aside0.mk (below_step (by repeat (first | (with_reducible first | exact HB.out | apply below_alloc | apply pw_below_drewN | apply below_drew1 | refine below_set ?_ GE445.out) | exact HB.out)) hb); have n2_:=Aside0.mk (hbox); have n3_:=Aside0.mk ((by rw [hg]; exact (below_size (by repeat (first | (with_reducible first | exact HB.out | apply below_alloc | apply pw_below_drewN | apply below_drew1 | refine below_set ?_ GE445.out) | exact HB.out))) : w.heap.size ≤ gb453)); have n4_:=Aside0.mk ((by rw [hg]; exact (below_size (by repeat (first | (with_reducible first | exact HB.out | apply below_alloc | apply pw_below_drewN | apply below_drew1 | refine below_set ?_ GE445.out) | exact HB.out))) : w.heap.size ≤ gb453)); have n5_:=Aside0.mk ((by rw [hg]; exact Nat.ne_of_lt (blk_lt (g:=gb445) (o:=.cells #[.slice (some ad446) l0_0.length c0_0,.slice A0_1 l0_1.length c0_1,.slice A0_2 l0_2.length c0_2] 26 (0,0)) (by (with_reducible repeat (first | refine blk_drewN ?_ _ | refine blk_drew ?_ | refine blk_alloc ?_ _)); exact BK445.out)) : gb445 ≠ gb453)); have n6_:=Aside0.mk ((by rw [hg]; exact Nat.ne_of_gt (blk_lt (g:=gb445) (o:=.cells #[.slice (some ad446) l0_0.length c0_0,.slice A0_1 l0_1.length c0_1,.slice A0_2 l0_2.length c0_2] 26 (0,0)) (by (with_reducible repeat (first | refine blk_drewN ?_ _ | refine blk_drew ?_ | refine blk_alloc ?_ _)); exact BK445.out)) : gb453 ≠ gb445)); clear BK445; clear HB; have BK445:=n0_; have HB:=n1_; have BK453:=n2_; have GW453:=n3_; have GE453:=n4_; have NB445_453:=n5_; have NB453_445:=n6_; clear n0_ n1_ n2_ n3_ n4_ n5_ n6_; clear hb hbox hg; have hnb20:=NB453_445.out; have hnc20:=NB445_453.out; have hcz21_0 : w19.cell? ⟨gb453,0,none⟩ = some (.int .i64 0):=(blk_cell BK453.out 0).trans rfl; have hcz21_1 : w19.cell? ⟨gb453,1,none⟩ = some (.int .i64 0):=(blk_cell BK453.out 1).trans rfl; have hcz21_2 : w19.cell? ⟨gb453,2,none⟩ = some (.int .i64 0):=(blk_cell BK453.out 2).trans rfl; have hcz21_3 : w19.cell? ⟨gb453,3,none⟩ = some (.int .i64 0):=(blk_cell BK453.out 3).trans rfl; have hcz21_4 : w19.cell? ⟨gb453,4,none⟩ = some (.int .i64 0):=(blk_cell BK453.out 4).trans rfl; have hfz21_0:=blk_frozen BK453.out 0; have hfz21_1:=blk_frozen BK453.out 1; have hfz21_2:=blk_frozen BK453.out 2; have hfz21_3:=blk_frozen BK453.out 3; have hfz21_4:=blk_frozen BK453.out 4) | ((with_reducible refine gate_callee (f:=35) rfl ?_); refine goesL_ (some 40) rfl rfl Tryz.func35 (by kernel_rfl) rfl #[.int .i64 t447] rfl (by (try simp only [List.map_toArray,List.map_cons,List.map_nil]); first | done | rfl | (simp only [List.length_drop,List.length_take]; rfl)) ?_; (with_reducible refine (word_Name.calls t447 t454 t455 _ A12.out).mono ?_); rintro e w22 ⟨rfl,hb⟩; refine ⟨_,rfl,?_⟩; have n0_:=Aside0.mk (blk_below (g:=gb445) (o:=.cells #[.slice (some ad446) l0_0.length c0_0,.slice A0_1 l0_1.length c0_1,.slice A0_2 l0_2.length c0_2] 26 (0,0)) (by (with_reducible repeat (first | refine blk_drewN ?_ _ | refine blk_drew ?_ | refine blk_alloc ?_ _)); refine blk_far ?_ NB445_453.out _; (with_reducible repeat (first | refine blk_drewN ?_ _ | refine blk_drew ?_ | refine blk_alloc ?_ _)); refine blk_far ?_ NB445_453.out _; (with_reducible repeat (first | refine blk_drewN ?_ _ | refine blk_drew ?_ | refine blk_alloc ?_ _)); refine blk_far ?_ NB445_453.out _; (with_reducible repeat (first | refine blk_drewN ?_ _ | refine blk_drew ?_ | refine blk_alloc ?_ _)); refine blk_far ?_ NB445_453.out _; (with_reducible repeat (first | refine blk_drewN ?_ _ | refine blk_drew ?_ | refine blk_alloc ?_ _)); refine blk_far ?_ NB445_453.out _; (with_reducible repeat (first | refine blk_drewN ?_ _ | refine blk_drew ?_ | refine blk_alloc ?_ _)); exact BK445.out) hb); have n1_:=Aside0.mk (blk_below (g:=gb453) (o:=.cells #[.int .i64 t447,.int .i64 t448,.int .i64 t449,.int .i64 t450,.int .i64 t451] 70 (0,0)) (by (with_reducible repeat (first | refine blk_drewN ?_ _ | refine blk_drew ?_ | refine blk_alloc ?_ _)); refine blk_put (cs:=#[.int .i64 t447,.int .i64 t448,.int .i64 t449,.int .i64 t450,.int .i64 0]) ?_ 4 _ rfl; (with_reducible repeat (first | refine blk_drewN ?_ _ | refine blk_drew ?_ | refine blk_alloc ?_ _)); refine blk_put (cs:=#[.int .i64 t447,.int .i64 t448,.int .i64 t449,.int .i64 0,.int .i64 0]) ?_ 3 _ rfl; (with_reducible repeat (first | refine blk_drewN ?_ _ | refine blk_drew ?_ | refine blk_alloc ?_ _)); refine blk_put (cs:=#[.int .i64 t447,.int .i64 t448,.int .i64 0,.int .i64 0,.int .i64 0]) ?_ 2 _ rfl; (with_reducible repeat (first | refine blk_drewN ?_ _ | refine blk_drew ?_ | refine blk_alloc ?_ _)); refine blk_put (cs:=#[.int .i64 t447,.int .i64 0,.int .i64 0,.int .i64 0,.int .i64 0]) ?_ 1 _ rfl; (with_reducible repeat (first | refine blk_drewN ?_ _ | refine blk_drew ?_ | refine blk_alloc ?_ _)); refine blk_put (cs:=#[.int .i64 0,.int .i64 0,.int .i64 0,.int .i64 0,.int .i64 0]) ?_ 0 _ rfl; (with_reducible repeat (first | refine blk_drewN ?_ _ | refine blk_drew ?_ | refine blk_alloc ?_ _)); exact BK453.out) hb); have n2_:=Aside0.mk (below_step (by repeat (first | (with_reducible first | exact HB.out | apply below_alloc | apply pw_below_drewN | apply below_drew1 | refine below_set ?_ GE445.out | refine below_set ?_ GE453.out) | exact HB.out)) hb); clear BK445; clear BK453; clear HB; have BK445:=n0_; have BK453:=n1_; have HB:=n2_; clear n0_ n1_ n2_; (try clear hb); (try clear hb2); (try clear hk); (try clear hi); have hcz23_0 : w22.cell? ⟨gb453,0,none⟩ = some (.int .i64 t447):=(blk_cell BK453.out 0).trans rfl; have hcz23_1 : w22.cell? ⟨gb453,1,none⟩ = some (.int .i64 t448):=(blk_cell BK453.out 1).trans rfl; have hcz23_2 : w22.cell? ⟨gb453,2,none⟩ = some (.int .i64 t449):=(blk_cell BK453.out 2).trans rfl; have hcz23_3 : w22.cell? ⟨gb453,3,none⟩ = some (.int .i64 t450):=(blk_cell BK453.out 3).trans rfl; have hcz23_4 : w22.cell? ⟨gb453,4,none⟩ = some (.int .i64 t451):=(blk_cell BK453.out 4).trans rfl; have hfz23_0:=blk_frozen BK453.out 0; have hfz23_1:=blk_frozen BK453.out 1; have hfz23_2:=blk_frozen BK453.out 2; have hfz23_3:=blk_frozen BK453.out 3; have hfz23_4:=blk_frozen BK453.out 4) | ((with_reducible refine gate_callee (f:=36) rfl ?_); refine goesL_ (some 46) rfl rfl Tryz.func36 (by kernel_rfl) rfl #[.int .i64 t447] rfl (by (try simp only [List.map_toArray,List.map_cons,List.map_nil]); first | done | rfl | (simp only [List.length_drop,List.length_take]; rfl)) ?_; (with_reducible refine (word_Shape.calls t447 t456 t457 _ A13.out).mono ?_); rintro e w24 ⟨rfl,hb⟩; refine ⟨_,rfl,?_⟩; have n0_:=Aside0.mk (blk_below (g:=gb445) (o:=.cells #[.slice (some ad446) l0_0.length c0_0,.slice A0_1 l0_1.length c0_1,.slice A0_2 l0_2.length c0_2] 26 (0,0)) (by (with_reducible repeat (first | refine blk_drewN ?_ _ | refine blk_drew ?_ | refine blk_alloc ?_ _)); exact BK445.out) hb); have n1_:=Aside0.mk (blk_below (g:=gb453) (o:=.cells #[.int .i64 t447,.int .i64 t448,.int .i64 t449,.int .i64 t450,.int .i64 t451] 70 (0,0)) (by (with_reducible repeat (first | refine blk_drewN ?_ _ | refine blk_drew ?_ | refine blk_alloc ?_ _)); exact BK453.out) hb); have n2_:=Aside0.mk (below_step (by repeat (first | (with_reducible first | exact HB.out | apply below_alloc | apply pw_below_drewN | apply below_drew1 | refine below_set ?_ GE445.out | refine below_set ?_ GE453.out) | exact HB.out)) hb); clear BK445; clear BK453; clear HB; have BK445:=n0_; have BK453:=n1_; have HB:=n2_; clear n0_ n1_ n2_; (try clear hb); (try clear hb2); (try clear hk); (try clear hi)) | ((with_reducible refine gate_callee (f:=37) rfl ?_); refine goesL_ (some 51) rfl rfl Tryz.func37 (by kernel_rfl) rfl #[.int .i64 t456] rfl (by (try simp only [List.map_toArray,List.map_cons,List.map_nil]); first | done | rfl | (simp only [List.length_drop,List.length_take]; rfl)) ?_; (with_reducible refine (listing_fields.calls t456 t458 t459 _ A14.out).mono ?_); rintro e w' ⟨rfl,⟨nd,rfl⟩⟩; refine ⟨_,rfl,?_⟩; have hcz25_0 : w24.cell? ⟨gb453,0,none⟩ = some (.int .i64 t447):=(blk_cell BK453.out 0).trans rfl; have hcz25_1 : w24.cell? ⟨gb453,1,none⟩ = some (.int .i64 t448):=(blk_cell BK453.out 1).trans rfl; have hcz25_2 : w24.cell? ⟨gb453,2,none⟩ = some (.int .i64 t449):=(blk_cell BK453.out 2).trans rfl; have hcz25_3 : w24.cell? ⟨gb453,3,none⟩ = some (.int .i64 t450):=(blk_cell BK453.out 3).trans rfl; have hcz25_4 : w24.cell? ⟨gb453,4,none⟩ = some (.int .i64 t451):=(blk_cell BK453.out 4).trans rfl; have hfz25_0:=blk_frozen BK453.out 0; have hfz25_1:=blk_frozen BK453.out 1; have hfz25_2:=blk_frozen BK453.out 2; have hfz25_3:=blk_frozen BK453.out 3; have hfz25_4:=blk_frozen BK453.out 4) | ((with_reducible refine gate_dst (N:=60) rfl ?_); (try (refine gate_guard (by rfl) ?_; dsimp only)); refine Kd.R_lit (Kd.int .i64) _ 3 ?hg (N:=60) ?hd (xs:=([t448,t449,t450] : List Int)) (inner:=[.int .i64 t448,.int .i64 t449,.int .i64 t450]) (ok:=fun _ => True) (okp:=fun _ => True) ?hr ?hp (fun _ hk => hk) trivial (Below.refl _ _) (Nat.le_refl _) (by simp) ?_; (case hd => rfl); (case hg => rfl); (case hr => first | (go_simp; done) | (go_simp; rfl)); (case hp => exact (Reps.one (show Kd.M (Kd.int .i64) _ _ _ t448 [.int .i64 t448] from rfl) (Reps.one (show Kd.M (Kd.int .i64) _ _ _ t449 [.int .i64 t449] from rfl) (Reps.one (show Kd.M (Kd.int .i64) _ _ _ t450 [.int .i64 t450] from rfl) (Reps.none _ _))))); intro v461 w26 ho27 hb hg_ hnew_; clear hg_ hnew_; (first | rw [← Ny460.out] at ho27 | (simp only [Int.reduceToNat] at ho27; rw [← Ny460.out] at ho27)); have n0_:=Aside0.mk (Kd.R_lower ho27 (below_size (by repeat (first | (with_reducible first | exact HB.out | apply below_alloc | apply pw_below_drewN | apply below_drew1 | refine below_set ?_ GE445.out | refine below_set ?_ GE453.out) | exact HB.out)))); have n1_:=Aside0.mk (blk_below (g:=gb445) (o:=.cells #[.slice (some ad446) l0_0.length c0_0,.slice A0_1 l0_1.length c0_1,.slice A0_2 l0_2.length c0_2] 26 (0,0)) (by (with_reducible repeat (first | refine blk_drewN ?_ _ | refine blk_drew ?_ | refine blk_alloc ?_ _)); exact BK445.out) hb); have n2_:=Aside0.mk (blk_below (g:=gb453) (o:=.cells #[.int .i64 t447,.int .i64 t448,.int .i64 t449,.int .i64 t450,.int .i64 t451] 70 (0,0)) (by (with_reducible repeat (first | refine blk_drewN ?_ _ | refine blk_drew ?_ | refine blk_alloc ?_ _)); exact BK453.out) hb); have n3_:=Aside0.mk (below_step (by repeat (first | (with_reducible first | exact HB.out | apply below_alloc | apply pw_below_drewN | apply below_drew1 | refine below_set ?_ GE445.out | refine below_set ?_ GE453.out) | exact HB.out)) hb); clear BK445; clear BK453; clear HB; have HO462:=n0_; have BK445:=n1_; have BK453:=n2_; have HB:=n3_; clear n0_ n1_ n2_ n3_; clear hb ho27; obtain ⟨Ao29,co29,eo29⟩:=Kd.R_slice HO462.out; subst eo29; have q28 : (t458 : Int) ≤ ((y460.length : Int) : Int):=of_decide_eq_true (by first | (with_reducible assumption) | assumption); obtain ⟨i028,hi028,_,hsz28,_⟩:=info_parts info3; have hroom28 : y460.length ≤ co29:=(Kd.R_reads' HO462.out).2.1; have hC28 : Kd.C (Kd.int .i64) _ Ao29 y460.length y460:=(Kd.R_reads' HO462.out).2.2; have hcut28:=cut_to (P:=Tryz.prog) 52 3 .i64 Tryz.underlying52 hi028 Ao29 y460.length co29 t458 (of_decide_eq_true (by first | (with_reducible assumption) | assumption)) q28 hroom28; have hr28:=Kd.C_take (m:=(t458 : Int).toNat) hC28 (by omega); have hy28 : y463.length = (t458 : Int).toNat:=(by rw [Ny463.out,List.length_take]; omega); rw [← Ny463.out] at hr28; rw [← hy28] at hcut28; have HR466:=Aside0.mk hr28; have HC466:=Aside0.mk (show y463.length ≤ co29 from by omega); clear hr28 hC28 hroom28 hi028 hsz28; have KY28:=Aside0.mk hy28; clear hy28; have KL28:=Aside0.mk (show (t458 : Int).toNat ≤ y460.length from by omega); replace q28:=eq_true q28))
         go_loopg [8,64] kj2 (fun kq v8 v64 w' => ∃ (x8_2 : ByteArray) (x64_2 : Int),v8 = .string x8_2 ∧ v64 = .int .i64 x64_2 ∧ Aside0 (listing_Line.l0 kq x8_2 t459 y463 (y463.length : Int) x64_2 t447 t448 t449 t450 t451 = some (r1,r2)) ∧ Aside0 (kq ≤ kj2) ∧ Aside0 (w'.heap[gb445]? = some (.cells #[(.slice (some ad446) l0_0.length c0_0),(.slice A0_1 l0_1.length c0_1),(.slice A0_2 l0_2.length c0_2)] 26 (0,0))) ∧ Aside0 (w'.heap[gb453]? = some (.cells #[.int .i64 t447,.int .i64 t448,.int .i64 t449,.int .i64 t450,.int .i64 t451] 70 (0,0))) ∧ Aside0 (Kd.C (Kd.int .i64) w' Ao29 y463.length y463) ∧ Aside0 (Below w.heap.size w w'))
         case atStart => exact ⟨(t454),(0),(by first | rfl | (simp; done) | (simp [*]; done)),(by first | rfl | (simp; done) | (simp [*]; done)),H',⟨Nat.le_refl _⟩,⟨by (with_reducible repeat (first | refine blk_drewN ?_ _ | refine blk_drew ?_ | refine blk_alloc ?_ _)); exact BK445.out⟩,⟨by (with_reducible repeat (first | refine blk_drewN ?_ _ | refine blk_drew ?_ | refine blk_alloc ?_ _)); exact BK453.out⟩,⟨by repeat (first | (with_reducible exact HR466.out) | (with_reducible refine Kd.C_alloc ?_ _) | (with_reducible refine Kd.C_drewN ?_ _) | (with_reducible refine Kd.C_drew ?_) | exact HR466.out)⟩,⟨by repeat (first | (with_reducible first | exact HB.out | apply below_alloc | apply pw_below_drewN | apply below_drew1 | refine below_set ?_ GE445.out | refine below_set ?_ GE453.out) | exact HB.out)⟩⟩
         case round =>
          clear H'
          try clear c1
          try clear c2
          try clear p2
          try clear q2
          try clear c3
          try clear p4
          try clear q4
          try clear hx4
          try clear c5
          try clear c5b0
          try clear c7
          try clear c8
          try clear c8b0
          try clear c9
          try clear c9b0
          try clear c11
          try clear c11b0
          try clear c11b1
          try clear c13
          try clear c15
          try clear c15b0
          try clear c15b1
          try clear c16
          try clear c16b0
          try clear c16b1
          try clear c20
          try clear q28
          try clear hcz17_0
          try clear hcz17_1
          try clear hcz17_2
          try clear hcz21_0
          try clear hcz21_1
          try clear hcz21_2
          try clear hcz21_3
          try clear hcz21_4
          try clear hcz23_0
          try clear hcz23_1
          try clear hcz23_2
          try clear hcz23_3
          try clear hcz23_4
          try clear hcz25_0
          try clear hcz25_1
          try clear hcz25_2
          try clear hcz25_3
          try clear hcz25_4
          try clear hcz6_0
          try clear hcz6_1
          try clear hcz6_2
          try clear hfz17_0
          try clear hfz17_1
          try clear hfz17_2
          try clear hfz21_0
          try clear hfz21_1
          try clear hfz21_2
          try clear hfz21_3
          try clear hfz21_4
          try clear hfz23_0
          try clear hfz23_1
          try clear hfz23_2
          try clear hfz23_3
          try clear hfz23_4
          try clear hfz25_0
          try clear hfz25_1
          try clear hfz25_2
          try clear hfz25_3
          try clear hfz25_4
          try clear hfz6_0
          try clear hfz6_1
          try clear hfz6_2
          try clear hx446_0
          try clear p2
          try clear p446
          try clear q28
          try clear q446
          obtain ⟨x8_2,x64_2,rfl,rfl,HA,HK2,BK445,BK453,HR466,HB⟩:=hrel
          cases gk with
          | zero => exact absurd HA.out (by simp [listing_Line.l0])
          | succ k2 =>
           have H:=HA.out
           clear HA
           simp only [listing_Line.l0] at H
           by_cases c30 : x64_2 < (y463.length : Int)
           ·rw [if_pos c30] at H
            have c30b0 : decide (x64_2 < (y463.length : Int)) = true:=decide_eq_true c30
            clear c30
            by_cases c31 : 0 ≤ x64_2
            ·rw [if_pos c31] at H
             have c31b0 : decide (0 ≤ x64_2) = true:=decide_eq_true c31
             clear c31
             by_cases c32 : x64_2 < (y463.length : Int)
             ·rw [if_pos c32] at H
              have c32b0 : decide (x64_2 < (y463.length : Int)) = true:=decide_eq_true c32
              clear c32
              replace H:=Option.bind_eq_some_iff.mp H
              obtain ⟨t468,A330,H⟩:=H
              replace H : (if 2 + t468.size ≤ 9223372036854775807 then (if x8_2.size + ((⟨#[32,114]⟩ : ByteArray) ++ t468).size ≤ 9223372036854775807 then (listing_Line.l0 k2 (x8_2 ++ ((⟨#[32,114]⟩ : ByteArray) ++ t468)) t459 y463 (y463.length : Int) (wrap64 (x64_2 + 1)) t447 t448 t449 t450 t451) else (none)) else (none)) = some (r1,r2):=H
              have A33:=Aside0.mk A330
              clear A330
              by_cases c34 : 2 + t468.size ≤ 9223372036854775807
              ·rw [if_pos c34] at H
               have c34b0:=eq_true c34
               have c34b1 : decide (2 + t468.size ≤ 9223372036854775807) = true:=decide_eq_true c34
               try have c34b2 : (9223372036854775807 < 2 + t468.size) = False:=eq_false (Nat.not_lt.2 c34)
               by_cases c35 : x8_2.size + ((⟨#[32,114]⟩ : ByteArray) ++ t468).size ≤ 9223372036854775807
               ·rw [if_pos c35] at H
                have c35b0:=eq_true c35
                have c35b1 : decide (x8_2.size + ((⟨#[32,114]⟩ : ByteArray) ++ t468).size ≤ 9223372036854775807) = true:=decide_eq_true c35
                try have c35b2 : (9223372036854775807 < x8_2.size + ((⟨#[32,114]⟩ : ByteArray) ++ t468).size) = False:=eq_false (Nat.not_lt.2 c35)
                have c35b3 : (9223372036854775807 < x8_2.size + (2 + t468.size)) = False:=eq_false (Nat.not_lt.2 (by have h_:=c35; simp only [ByteArray.size_append] at h_; exact h_))
                have H':=Aside0.mk H
                clear H
                have p467 : 0 ≤ (x64_2 : Int):=of_decide_eq_true (by first | (with_reducible assumption) | assumption)
                have q467 : x64_2 < (y463.length : Int):=of_decide_eq_true (by first | (with_reducible assumption) | assumption)
                obtain ⟨ad467,e467,hx467_0⟩:=Kd.at_int HR466.out x64_2 p467 q467
                cases e467
                try replace hx467_0:=(HB.out.cell (World.block_lt_of_cell? w _ hx467_0)).trans hx467_0
                replace p467:=eq_true p467
                replace q467:=eq_true q467
                go_wp2_with (first | ((with_reducible refine gate_callee (f:=38) rfl ?_); refine goesL_ (some 70) rfl rfl Tryz.func38 (by kernel_rfl) rfl #[.int .i64 (rd y463 x64_2)] rfl (by (try simp only [List.map_toArray,List.map_cons,List.map_nil]); first | done | rfl | (simp only [List.length_drop,List.length_take]; rfl)) ?_; (with_reducible refine (strconv_Itoa_38.calls (rd y463 x64_2) t468 _ ?side1 A33.out).mono ?_); (case side1 => first | exact hLLibStd | exact hLLibStd.below (by repeat (first | (with_reducible first | exact HB.out | apply below_alloc | apply pw_below_drewN | apply below_drew1 | refine below_set ?_ GE445.out | refine below_set ?_ GE453.out) | exact HB.out))); rintro e w36 ⟨rfl,hb⟩; refine ⟨_,rfl,?_⟩; have n0_:=Aside0.mk (blk_below (g:=gb445) (o:=.cells #[.slice (some ad446) l0_0.length c0_0,.slice A0_1 l0_1.length c0_1,.slice A0_2 l0_2.length c0_2] 26 (0,0)) (by (with_reducible repeat (first | refine blk_drewN ?_ _ | refine blk_drew ?_ | refine blk_alloc ?_ _)); exact BK445.out) hb); have n1_:=Aside0.mk (blk_below (g:=gb453) (o:=.cells #[.int .i64 t447,.int .i64 t448,.int .i64 t449,.int .i64 t450,.int .i64 t451] 70 (0,0)) (by (with_reducible repeat (first | refine blk_drewN ?_ _ | refine blk_drew ?_ | refine blk_alloc ?_ _)); exact BK453.out) hb); have n2_:=Aside0.mk (Kd.C_below (by repeat (first | (with_reducible exact HR466.out) | (with_reducible refine Kd.C_alloc ?_ _) | (with_reducible refine Kd.C_drewN ?_ _) | (with_reducible refine Kd.C_drew ?_) | exact HR466.out)) hb); have n3_:=Aside0.mk (below_step (by repeat (first | (with_reducible first | exact HB.out | apply below_alloc | apply pw_below_drewN | apply below_drew1 | refine below_set ?_ GE445.out | refine below_set ?_ GE453.out) | exact HB.out)) hb); clear BK445; clear BK453; clear HR466; clear HB; have BK445:=n0_; have BK453:=n1_; have HR466:=n2_; have HB:=n3_; clear n0_ n1_ n2_ n3_; (try clear hb); (try clear hb2); (try clear hk); (try clear hi)))
                go_roundg k2
                case measure => have:=HJ2.out; have:=HK2.out; omega
                case rel => exact ⟨(x8_2 ++ ((⟨#[32,114]⟩ : ByteArray) ++ t468)),(wrap64 (x64_2 + 1)),(by first | rfl | (simp; done) | (simp [*]; done)),(by first | rfl | (simp; done) | (simp [*]; done)),H',⟨by have:=HJ2.out; have:=HK2.out; omega⟩,⟨by (with_reducible repeat (first | refine blk_drewN ?_ _ | refine blk_drew ?_ | refine blk_alloc ?_ _)); exact BK445.out⟩,⟨by (with_reducible repeat (first | refine blk_drewN ?_ _ | refine blk_drew ?_ | refine blk_alloc ?_ _)); exact BK453.out⟩,⟨by repeat (first | (with_reducible exact HR466.out) | (with_reducible refine Kd.C_alloc ?_ _) | (with_reducible refine Kd.C_drewN ?_ _) | (with_reducible refine Kd.C_drew ?_) | exact HR466.out)⟩,⟨by repeat (first | (with_reducible first | exact HB.out | apply below_alloc | apply pw_below_drewN | apply below_drew1 | refine below_set ?_ GE445.out | refine below_set ?_ GE453.out) | exact HB.out)⟩⟩
               ·rw [if_neg c35] at H
                exact absurd H (by simp)
              ·rw [if_neg c34] at H
               exact absurd H (by simp)
             ·rw [if_neg c32] at H
              exact absurd H (by simp)
            ·rw [if_neg c31] at H
             exact absurd H (by simp)
           ·rw [if_neg c30] at H
            have c30b0 : decide (x64_2 < (y463.length : Int)) = false:=decide_eq_false c30
            clear c30
            by_cases c37 : t459 = true
            ·subst c37
             have H1 : ((listing_prefix.f k2 t447).bind fun t469 => (if 1 + t469.size ≤ 9223372036854775807 then ((strconv_Itoa_38.f t451).bind fun t470 => (if ((⟨#[32]⟩ : ByteArray) ++ t469).size + t470.size ≤ 9223372036854775807 then (if x8_2.size + (((⟨#[32]⟩ : ByteArray) ++ t469) ++ t470).size ≤ 9223372036854775807 then (some (x8_2 ++ (((⟨#[32]⟩ : ByteArray) ++ t469) ++ t470),0)) else (none)) else (none))) else (none))) = some (r1,r2):=by rw [if_pos rfl] at H; exact H
             clear H
             have H:=H1
             clear H1
             replace H:=Option.bind_eq_some_iff.mp H
             obtain ⟨t469,A380,H⟩:=H
             replace H : (if 1 + t469.size ≤ 9223372036854775807 then ((strconv_Itoa_38.f t451).bind fun t470 => (if ((⟨#[32]⟩ : ByteArray) ++ t469).size + t470.size ≤ 9223372036854775807 then (if x8_2.size + (((⟨#[32]⟩ : ByteArray) ++ t469) ++ t470).size ≤ 9223372036854775807 then (some (x8_2 ++ (((⟨#[32]⟩ : ByteArray) ++ t469) ++ t470),0)) else (none)) else (none))) else (none)) = some (r1,r2):=H
             have A38:=Aside0.mk A380
             clear A380
             by_cases c39 : 1 + t469.size ≤ 9223372036854775807
             ·rw [if_pos c39] at H
              have c39b0:=eq_true c39
              have c39b1 : decide (1 + t469.size ≤ 9223372036854775807) = true:=decide_eq_true c39
              try have c39b2 : (9223372036854775807 < 1 + t469.size) = False:=eq_false (Nat.not_lt.2 c39)
              replace H:=Option.bind_eq_some_iff.mp H
              obtain ⟨t470,A400,H⟩:=H
              replace H : (if ((⟨#[32]⟩ : ByteArray) ++ t469).size + t470.size ≤ 9223372036854775807 then (if x8_2.size + (((⟨#[32]⟩ : ByteArray) ++ t469) ++ t470).size ≤ 9223372036854775807 then (some (x8_2 ++ (((⟨#[32]⟩ : ByteArray) ++ t469) ++ t470),0)) else (none)) else (none)) = some (r1,r2):=H
              have A40:=Aside0.mk A400
              clear A400
              by_cases c41 : ((⟨#[32]⟩ : ByteArray) ++ t469).size + t470.size ≤ 9223372036854775807
              ·rw [if_pos c41] at H
               have c41b0:=eq_true c41
               have c41b1 : decide (((⟨#[32]⟩ : ByteArray) ++ t469).size + t470.size ≤ 9223372036854775807) = true:=decide_eq_true c41
               try have c41b2 : (9223372036854775807 < ((⟨#[32]⟩ : ByteArray) ++ t469).size + t470.size) = False:=eq_false (Nat.not_lt.2 c41)
               have c41b3 : (9223372036854775807 < 1 + t469.size + t470.size) = False:=eq_false (Nat.not_lt.2 (by have h_:=c41; simp only [ByteArray.size_append] at h_; exact h_))
               by_cases c42 : x8_2.size + (((⟨#[32]⟩ : ByteArray) ++ t469) ++ t470).size ≤ 9223372036854775807
               ·rw [if_pos c42] at H
                have c42b0:=eq_true c42
                have c42b1 : decide (x8_2.size + (((⟨#[32]⟩ : ByteArray) ++ t469) ++ t470).size ≤ 9223372036854775807) = true:=decide_eq_true c42
                try have c42b2 : (9223372036854775807 < x8_2.size + (((⟨#[32]⟩ : ByteArray) ++ t469) ++ t470).size) = False:=eq_false (Nat.not_lt.2 c42)
                have c42b3 : (9223372036854775807 < x8_2.size + (1 + t469.size + t470.size)) = False:=eq_false (Nat.not_lt.2 (by have h_:=c42; simp only [ByteArray.size_append] at h_; exact h_))
                simp only [Option.some.injEq,Prod.mk.injEq] at H
                obtain ⟨rfl,rfl⟩:=H
                try go_wp2
                have n0_:=Aside0.mk (blk_drew BK445.out)
                have n1_:=Aside0.mk (blk_drew BK453.out)
                have n2_:=Aside0.mk (Kd.C_drew HR466.out)
                have n3_:=Aside0.mk (below_drew1 HB.out)
                clear BK445
                clear BK453
                clear HR466
                clear HB
                have BK445:=n0_
                have BK453:=n1_
                have HR466:=n2_
                have HB:=n3_
                clear n0_ n1_ n2_ n3_
                refine start_ (n:=11) (S:=fun w' => w'.cell? ⟨gb453,0,none⟩ = some (.int .i64 t447) ∧ w'.cell? ⟨gb453,1,none⟩ = some (.int .i64 t448) ∧ w'.cell? ⟨gb453,2,none⟩ = some (.int .i64 t449) ∧ w'.cell? ⟨gb453,3,none⟩ = some (.int .i64 t450) ∧ w'.cell? ⟨gb453,4,none⟩ = some (.int .i64 t451)) (ds:=[]) #[false,false,false,false,false,false,false,false,false,false,false] (by kernel_rfl) rfl rfl ⟨(blk_cell BK453.out 0).trans rfl,(blk_cell BK453.out 1).trans rfl,(blk_cell BK453.out 2).trans rfl,(blk_cell BK453.out 3).trans rfl,(blk_cell BK453.out 4).trans rfl⟩ (fun hHeld => ?_); refine with_tabW listing_Line.tab15 listing_Line.bits15 (fun HT_ HW_ => ?_)
                generalize wr.drew = w43 at BK445 BK453 HR466 HB hHeld ⊢
                refine pure_ (i:=0) (N:=some 75) (v:=?_) (a':=?_) #[true,false,false,false,false,false,false,false,false,false,false] rfl rfl (any_of HT_.out (by kernel_rfl)) (fun _ _ _ h => h) (Or.inl ⟨by rfl,?_⟩) ?_ ?_
                rotate_left
                ·intro w'
                 go_simp
                 with_reducible rfl
                rotate_left
                ·simp only [Act.put,sAz,sCz,sCs,i64_w,i32_w]
                 rfl
                refine pure_ (i:=1) (N:=some 76) (v:=?_) (a':=?_) #[true,true,false,false,false,false,false,false,false,false,false] rfl rfl (any_of HT_.out (by kernel_rfl)) (fun _ _ _ h => h) (Or.inl ⟨by rfl,?_⟩) ?_ ?_
                rotate_left
                ·intro w'
                 go_simp
                 with_reducible rfl
                rotate_left
                ·simp only [Act.put,sAz,sCz,sCs,i64_w,i32_w]
                 rfl
                refine pure_ (i:=5) (N:=some 80) (v:=?_) (a':=?_) #[true,true,false,false,false,true,false,false,false,false,false] rfl rfl (any_of HT_.out (by kernel_rfl)) (fun _ _ _ h => h) (Or.inl ⟨by rfl,?_⟩) ?_ ?_
                rotate_left
                ·intro w'
                 go_simp
                 with_reducible rfl
                rotate_left
                ·simp only [Act.put,sAz,sCz,sCs,i64_w,i32_w]
                 rfl
                refine take_ (i:=2) (N:=some 77) (v:=?_) (a':=?_) #[true,true,true,false,false,true,false,false,false,false,false] rfl rfl (take_ofW HT_.out HW_.out (by kernel_rfl)) (fun _ _ _ h => h) (Or.inl ⟨by rfl,?_⟩) hHeld ?_ ?_
                rotate_left
                ·rintro w' ⟨s0,s1,s2,s3,s4⟩
                 go_simp
                 with_reducible rfl
                rotate_left
                ·simp only [Act.put,sAz,sCz,sCs,i64_w,i32_w]
                 rfl
                refine take_ (i:=6) (N:=some 81) (v:=?_) (a':=?_) #[true,true,true,false,false,true,true,false,false,false,false] rfl rfl (take_ofW HT_.out HW_.out (by kernel_rfl)) (fun _ _ _ h => h) (Or.inl ⟨by rfl,?_⟩) hHeld ?_ ?_
                rotate_left
                ·rintro w' ⟨s0,s1,s2,s3,s4⟩
                 go_simp
                 with_reducible rfl
                rotate_left
                ·simp only [Act.put,sAz,sCz,sCs,i64_w,i32_w]
                 rfl
                refine one_ (i:=3) (N:=some 78) #[true,true,true,true,false,true,true,false,false,false,false] rfl rfl (one_of HT_.out (by kernel_rfl)) (by decide) (fun K hK => ?_)
                refine goes_ Tryz.func39 (by kernel_rfl) rfl #[.int .i64 t447] (by rfl) rfl rfl (by (try simp only [List.map_toArray,List.map_cons,List.map_nil]); first | done | rfl | (simp only [List.length_drop,List.length_take]; rfl)) ?_
                with_reducible refine (listing_prefix.calls k2 t447 t469 _ A38.out).mono ?_
                rintro e w' ⟨rfl,⟨nd,rfl⟩⟩
                refine ⟨_,rfl,?_⟩
                refine hK.out _ _ ⟨(blk_cell BK453.out 0).trans rfl,(blk_cell BK453.out 1).trans rfl,(blk_cell BK453.out 2).trans rfl,(blk_cell BK453.out 3).trans rfl,(blk_cell BK453.out 4).trans rfl⟩ (fun hHeld => ?_)
                clear hK K
                refine norm_ (a':=?_) ?_ ?_
                rotate_left
                ·show Act.put _ (some 78) _ = _
                 simp only [Act.put,sAz,sCz,sCs,i64_w,i32_w]
                 rfl
                refine pure_ (i:=4) (N:=some 79) (v:=?_) (a':=?_) #[true,true,true,true,true,true,true,false,false,false,false] rfl rfl (any_of HT_.out (by kernel_rfl)) (fun _ _ _ h => h) (Or.inl ⟨by rfl,?_⟩) ?_ ?_
                rotate_left
                ·intro w'
                 go_simp
                 with_reducible rfl
                rotate_left
                ·simp only [Act.put,sAz,sCz,sCs,i64_w,i32_w]
                 rfl
                refine one_ (i:=7) (N:=some 82) #[true,true,true,true,true,true,true,true,false,false,false] rfl rfl (one_of HT_.out (by kernel_rfl)) (by decide) (fun K hK => ?_)
                refine goes_ Tryz.func38 (by kernel_rfl) rfl #[.int .i64 t451] (by rfl) rfl rfl (by (try simp only [List.map_toArray,List.map_cons,List.map_nil]); first | done | rfl | (simp only [List.length_drop,List.length_take]; rfl)) ?_
                with_reducible refine (strconv_Itoa_38.calls t451 t470 _ ?side1 A40.out).mono ?_
                (case side1 => first | exact hLLibStd | exact hLLibStd.below (by repeat (first | (with_reducible first | exact HB.out | apply below_alloc | apply pw_below_drewN | apply below_drew1 | refine below_set ?_ GE445.out | refine below_set ?_ GE453.out) | exact HB.out)))
                rintro e w44 ⟨rfl,hb⟩
                refine ⟨_,rfl,?_⟩
                have n0_:=Aside0.mk (blk_below (g:=gb445) (o:=.cells #[.slice (some ad446) l0_0.length c0_0,.slice A0_1 l0_1.length c0_1,.slice A0_2 l0_2.length c0_2] 26 (0,0)) (by (with_reducible repeat (first | refine blk_drewN ?_ _ | refine blk_drew ?_ | refine blk_alloc ?_ _)); exact BK445.out) hb)
                have n1_:=Aside0.mk (blk_below (g:=gb453) (o:=.cells #[.int .i64 t447,.int .i64 t448,.int .i64 t449,.int .i64 t450,.int .i64 t451] 70 (0,0)) (by (with_reducible repeat (first | refine blk_drewN ?_ _ | refine blk_drew ?_ | refine blk_alloc ?_ _)); exact BK453.out) hb)
                have n2_:=Aside0.mk (Kd.C_below (by repeat (first | (with_reducible exact HR466.out) | (with_reducible refine Kd.C_alloc ?_ _) | (with_reducible refine Kd.C_drewN ?_ _) | (with_reducible refine Kd.C_drew ?_) | exact HR466.out)) hb)
                have n3_:=Aside0.mk (below_step (by repeat (first | (with_reducible first | exact HB.out | apply below_alloc | apply pw_below_drewN | apply below_drew1 | refine below_set ?_ GE445.out | refine below_set ?_ GE453.out) | exact HB.out)) hb)
                clear BK445
                clear BK453
                clear HR466
                clear HB
                have BK445:=n0_
                have BK453:=n1_
                have HR466:=n2_
                have HB:=n3_
                clear n0_ n1_ n2_ n3_
                (try clear hb)
                (try clear hb2)
                (try clear hk)
                (try clear hi)
                refine hK.out _ _ ⟨(blk_cell BK453.out 0).trans rfl,(blk_cell BK453.out 1).trans rfl,(blk_cell BK453.out 2).trans rfl,(blk_cell BK453.out 3).trans rfl,(blk_cell BK453.out 4).trans rfl⟩ (fun hHeld => ?_)
                clear hK K
                refine norm_ (a':=?_) ?_ ?_
                rotate_left
                ·show Act.put _ (some 82) _ = _
                 simp only [Act.put,sAz,sCz,sCs,i64_w,i32_w]
                 rfl
                refine pure_ (i:=8) (N:=some 83) (v:=?_) (a':=?_) #[true,true,true,true,true,true,true,true,true,false,false] rfl rfl (any_of HT_.out (by kernel_rfl)) (fun _ _ _ h => h) (Or.inl ⟨by rfl,?_⟩) ?_ ?_
                rotate_left
                ·intro w'
                 go_simp
                 with_reducible rfl
                rotate_left
                ·simp only [Act.put,sAz,sCz,sCs,i64_w,i32_w]
                 rfl
                refine pure_ (i:=9) (N:=some 84) (v:=?_) (a':=?_) #[true,true,true,true,true,true,true,true,true,true,false] rfl rfl (any_of HT_.out (by kernel_rfl)) (fun _ _ _ h => h) (Or.inl ⟨by rfl,?_⟩) ?_ ?_
                rotate_left
                ·intro w'
                 go_simp
                 with_reducible rfl
                rotate_left
                ·simp only [Act.put,sAz,sCz,sCs,i64_w,i32_w]
                 rfl
                refine pure_ (i:=10) (N:=some 8) (v:=?_) (a':=?_) #[true,true,true,true,true,true,true,true,true,true,true] rfl rfl (any_of HT_.out (by kernel_rfl)) (fun _ _ _ h => h) (Or.inl ⟨by rfl,?_⟩) ?_ ?_
                rotate_left
                ·intro w'
                 go_simp
                 with_reducible rfl
                rotate_left
                ·simp only [Act.put,sAz,sCz,sCs,i64_w,i32_w]
                 rfl
                refine done_ (done_of HT_.out (by kernel_rfl)) ?_
                try go_wp2
                go_ret2
                exact ⟨by first | rfl | (simp [errW_none,errW_some] <;> rfl) | (simp [*,errW_none,errW_some] <;> rfl),by repeat (first | (with_reducible first | exact HB.out | apply below_alloc | apply pw_below_drewN | apply below_drew1 | refine below_set ?_ GE445.out | refine below_set ?_ GE453.out) | exact HB.out)⟩
               ·rw [if_neg c42] at H
                exact absurd H (by simp)
              ·rw [if_neg c41] at H
               exact absurd H (by simp)
             ·rw [if_neg c39] at H
              exact absurd H (by simp)
            ·replace c37:=Bool.eq_false_iff.mpr c37
             subst c37
             have H1 : (some (x8_2,0)) = some (r1,r2):=by rw [if_neg (show ¬ (false = true) by decide)] at H; exact H
             clear H
             have H:=H1
             clear H1
             simp only [Option.some.injEq,Prod.mk.injEq] at H
             obtain ⟨rfl,rfl⟩:=H
             go_wp2
             go_ret2
             exact ⟨by first | rfl | (simp [errW_none,errW_some] <;> rfl) | (simp [*,errW_none,errW_some] <;> rfl),by repeat (first | (with_reducible first | exact HB.out | apply below_alloc | apply pw_below_drewN | apply below_drew1 | refine below_set ?_ GE445.out | refine below_set ?_ GE453.out) | exact HB.out)⟩
        ·rw [if_neg c16] at H
         exact absurd H (by simp)
       ·rw [if_neg c15] at H
        exact absurd H (by simp)
      ·rw [if_neg c11] at H
       have c11b0 : (t452 == 0) = false:=beq_eq_false_iff_ne.mpr c11
       have c11b1 : (t452 != 0) = true:=bne_iff_ne.mpr c11
       simp only [Option.some.injEq,Prod.mk.injEq] at H
       obtain ⟨rfl,rfl⟩:=H
       have hcz45_0 : wc.cell? ⟨gb445,0,none⟩ = some (.slice A0_0 l0_0.length c0_0):=(blk_cell BK445.out 0).trans rfl
       have hcz45_1 : wc.cell? ⟨gb445,1,none⟩ = some (.slice A0_1 l0_1.length c0_1):=(blk_cell BK445.out 1).trans rfl
       have hcz45_2 : wc.cell? ⟨gb445,2,none⟩ = some (.slice A0_2 l0_2.length c0_2):=(blk_cell BK445.out 2).trans rfl
       have hfz45_0:=blk_frozen BK445.out 0
       have hfz45_1:=blk_frozen BK445.out 1
       have hfz45_2:=blk_frozen BK445.out 2
       have p446 : 0 ≤ (a1 : Int):=of_decide_eq_true (by first | (with_reducible assumption) | assumption)
       have q446 : a1 < (l0_0.length : Int):=of_decide_eq_true (by first | (with_reducible assumption) | assumption)
       obtain ⟨ad446,e446,hx446_0⟩:=Kd.at_int HR0_0.out a1 p446 q446
       cases e446
       try replace hx446_0:=(HB.out.cell (World.block_lt_of_cell? w _ hx446_0)).trans hx446_0
       replace p446:=eq_true p446
       replace q446:=eq_true q446
       go_wp2_with (first | ((with_reducible refine gate_callee (f:=34) rfl ?_); refine goesL_ (some 31) rfl rfl Tryz.func34 (by kernel_rfl) rfl #[.int .u32 (rd l0_0 a1)] rfl (by (try simp only [List.map_toArray,List.map_cons,List.map_nil]); first | done | rfl | (simp only [List.length_drop,List.length_take]; rfl)) ?_; (with_reducible refine (word_Decode.calls (rd l0_0 a1) t447 t448 t449 t450 t451 t452 _ A10.out).mono ?_); rintro e w46 ⟨rfl,hb⟩; refine ⟨_,rfl,?_⟩; have n0_:=Aside0.mk (blk_below (g:=gb445) (o:=.cells #[.slice (some ad446) l0_0.length c0_0,.slice A0_1 l0_1.length c0_1,.slice A0_2 l0_2.length c0_2] 26 (0,0)) (by (with_reducible repeat (first | refine blk_drewN ?_ _ | refine blk_drew ?_ | refine blk_alloc ?_ _)); exact BK445.out) hb); have n1_:=Aside0.mk (below_step (by repeat (first | (with_reducible first | exact HB.out | apply below_alloc | apply pw_below_drewN | apply below_drew1 | refine below_set ?_ GE445.out) | exact HB.out)) hb); clear BK445; clear HB; have BK445:=n0_; have HB:=n1_; clear n0_ n1_; (try clear hb); (try clear hb2); (try clear hk); (try clear hi)) | ((with_reducible refine gate_dst (N:=6) rfl ?_); (try (refine gate_guard (by rfl) ?_; dsimp only)); refine box_event ?hg (N:=6) ?hd (cs:=#[.int .i64 0,.int .i64 0,.int .i64 0,.int .i64 0,.int .i64 0]) (t:=70) ?hr ?_; (case hd => rfl); (case hg => rfl); (case hr => first | (go_simp; done) | (go_simp; rfl)); intro gb453 hg w47 hbox hb; have n0_:=Aside0.mk (blk_below (g:=gb445) (o:=.cells #[.slice (some ad446) l0_0.length c0_0,.slice A0_1 l0_1.length c0_1,.slice A0_2 l0_2.length c0_2] 26 (0,0)) (by (with_reducible repeat (first | refine blk_drewN ?_ _ | refine blk_drew ?_ | refine blk_alloc ?_ _)); exact BK445.out) hb); have n1_:=Aside0.mk (below_step (by repeat (first | (with_reducible first | exact HB.out | apply below_alloc | apply pw_below_drewN | apply below_drew1 | refine below_set ?_ GE445.out) | exact HB.out)) hb); have n2_:=Aside0.mk (hbox); have n3_:=Aside0.mk ((by rw [hg]; exact (below_size (by repeat (first | (with_reducible first | exact HB.out | apply below_alloc | apply pw_below_drewN | apply below_drew1 | refine below_set ?_ GE445.out) | exact HB.out))) : w.heap.size ≤ gb453)); have n4_:=Aside0.mk ((by rw [hg]; exact (below_size (by repeat (first | (with_reducible first | exact HB.out | apply below_alloc | apply pw_below_drewN | apply below_drew1 | refine below_set ?_ GE445.out) | exact HB.out))) : w.heap.size ≤ gb453)); have n5_:=Aside0.mk ((by rw [hg]; exact Nat.ne_of_lt (blk_lt (g:=gb445) (o:=.cells #[.slice (some ad446) l0_0.length c0_0,.slice A0_1 l0_1.length c0_1,.slice A0_2 l0_2.length c0_2] 26 (0,0)) (by (with_reducible repeat (first | refine blk_drewN ?_ _ | refine blk_drew ?_ | refine blk_alloc ?_ _)); exact BK445.out)) : gb445 ≠ gb453)); have n6_:=Aside0.mk ((by rw [hg]; exact Nat.ne_of_gt (blk_lt (g:=gb445) (o:=.cells #[.slice (some ad446) l0_0.length c0_0,.slice A0_1 l0_1.length c0_1,.slice A0_2 l0_2.length c0_2] 26 (0,0)) (by (with_reducible repeat (first | refine blk_drewN ?_ _ | refine blk_drew ?_ | refine blk_alloc ?_ _)); exact BK445.out)) : gb453 ≠ gb445)); clear BK445; clear HB; have BK445:=n0_; have HB:=n1_; have BK453:=n2_; have GW453:=n3_; have GE453:=n4_; have NB445_453:=n5_; have NB453_445:=n6_; clear n0_ n1_ n2_ n3_ n4_ n5_ n6_; clear hb hbox hg; have hnb48:=NB453_445.out; have hnc48:=NB445_453.out; have hcz49_0 : w47.cell? ⟨gb453,0,none⟩ = some (.int .i64 0):=(blk_cell BK453.out 0).trans rfl; have hcz49_1 : w47.cell? ⟨gb453,1,none⟩ = some (.int .i64 0):=(blk_cell BK453.out 1).trans rfl; have hcz49_2 : w47.cell? ⟨gb453,2,none⟩ = some (.int .i64 0):=(blk_cell BK453.out 2).trans rfl; have hcz49_3 : w47.cell? ⟨gb453,3,none⟩ = some (.int .i64 0):=(blk_cell BK453.out 3).trans rfl; have hcz49_4 : w47.cell? ⟨gb453,4,none⟩ = some (.int .i64 0):=(blk_cell BK453.out 4).trans rfl; have hfz49_0:=blk_frozen BK453.out 0; have hfz49_1:=blk_frozen BK453.out 1; have hfz49_2:=blk_frozen BK453.out 2; have hfz49_3:=blk_frozen BK453.out 3; have hfz49_4:=blk_frozen BK453.out 4))
       go_ret2
       exact ⟨by first | rfl | (simp [errW_none,errW_some] <;> rfl) | (simp [*,errW_none,errW_some] <;> rfl),by repeat (first | (with_reducible first | exact HB.out | apply below_alloc | apply pw_below_drewN | apply below_drew1 | refine below_set ?_ GE445.out | refine below_set ?_ GE453.out) | exact HB.out)⟩
     ·rw [if_neg c9] at H
      exact absurd H (by simp)
    ·rw [if_neg c8] at H
     exact absurd H (by simp)
end Go.Proofs.YtdbpglhdicmhhaaGreatDoor.GA
end
