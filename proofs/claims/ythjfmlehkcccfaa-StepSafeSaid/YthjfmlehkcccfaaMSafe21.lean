import Derived.Test.YthjfmlehkcccfaaMSafe1
import Derived.Test.YthjfmlehkcccfaaMSafe11
import Derived.Test.YthjfmlehkcccfaaMSafe20
section
-- laid by a program of this session (wip/gp.sh)
namespace Go.Proofs.Ythjfmlehkcccfaa.GA
open Go.RowKit Go.Proofs.YthjfmlehkcccfaaW.PrintWords Go.Proofs.YthjfmlehkcccfaaW.PrintLast Go.Proofs.YthjfmlehkcccfaaW.PrintMore
attribute [local go_sem] max2_int min2_int max_two min_two max_three min_three max_four min_four   -- for this text's walks alone
set_option linter.unusedVariables false
set_option linter.unusedSimpArgs false

/-! ### rotaref08_wrong: function 47 -/
mutual
def rotaref08_wrong.j0 : Nat → Int → Int → Bool → List Int → List (S75) → List (S98) → Int → Int → Int → Int → Int → Option (Int)
  | 0, _, _, _, _, _, _, _, _, _, _, _ => none
  | k + 1, x1, x7, x22, x525000, x525001, x525002, x533000, x533001, x533002, x533003, x533004 => if x22 = true then (some 82) else (if x533000 = 20 then (rotaref08_wrong.j1 k x1 x7 (decide (x533004 ≥ (x525001.length : Int))) x525000 x525001 x525002 x533000 x533001 x533002 x533003 x533004) else (if x533000 = 22 then (rotaref08_wrong.j1 k x1 x7 (decide (x533004 ≥ (x525001.length : Int))) x525000 x525001 x525002 x533000 x533001 x533002 x533003 x533004) else (rotaref08_wrong.j1 k x1 x7 false x525000 x525001 x525002 x533000 x533001 x533002 x533003 x533004)))
def rotaref08_wrong.j1 : Nat → Int → Int → Bool → List Int → List (S75) → List (S98) → Int → Int → Int → Int → Int → Option (Int)
  | 0, _, _, _, _, _, _, _, _, _, _, _ => none
  | k + 1, x1, x7, x42, x525000, x525001, x525002, x533000, x533001, x533002, x533003, x533004 => if x42 = true then (some 81) else (if x533000 = 34 then (rotaref08_wrong.j2 k x1 x7 (decide (x533004 ≥ (x525002.length : Int))) x525000 x525001 x525002 x533000 x533001 x533002 x533003 x533004) else (rotaref08_wrong.j2 k x1 x7 false x525000 x525001 x525002 x533000 x533001 x533002 x533003 x533004))
def rotaref08_wrong.j2 : Nat → Int → Int → Bool → List Int → List (S75) → List (S98) → Int → Int → Int → Int → Int → Option (Int)
  | 0, _, _, _, _, _, _, _, _, _, _, _ => none
  | k + 1, x1, x7, x59, x525000, x525001, x525002, x533000, x533001, x533002, x533003, x533004 => if x59 = true then (some 83) else (if 0 ≤ x7 then (if x7 < (x525001.length : Int) then (if x1 = (wrap64 (((rd_T75 x525001 x7).f1) - 1)) then ((rotaref08_ends.f x533000).bind fun t537 => (if t537 = true then (some 0) else (some 84))) else (some 0)) else (none)) else (none))
end
def rotaref08_wrong.f (k : Nat) (l0_0 : List Int) (l0_1 : List (S75)) (l0_2 : List (S98)) (a1 : Int) : Option (Int) := if 0 ≤ a1 then (if a1 < (l0_0.length : Int) then ((rotaref06_Decode.f (rd l0_0 a1)).bind fun bt526 => (if bt526.2.2.2.2.2 = 0 then ((rotaref08_in.f k l0_0 l0_1 l0_2 a1).bind fun t533 => ((rotaref08_jumps.f bt526.1).bind fun t534 => (if t534 = true then (if bt526.2.2.2.2.1 ≥ (l0_0.length : Int) then (rotaref08_wrong.j0 k a1 t533 true l0_0 l0_1 l0_2 bt526.1 bt526.2.1 bt526.2.2.1 bt526.2.2.2.1 bt526.2.2.2.2.1) else ((rotaref08_in.f k l0_0 l0_1 l0_2 bt526.2.2.2.2.1).bind fun t535 => (rotaref08_wrong.j0 k a1 t533 (t535 != t533) l0_0 l0_1 l0_2 bt526.1 bt526.2.1 bt526.2.2.1 bt526.2.2.2.1 bt526.2.2.2.2.1))) else (rotaref08_wrong.j0 k a1 t533 false l0_0 l0_1 l0_2 bt526.1 bt526.2.1 bt526.2.2.1 bt526.2.2.2.1 bt526.2.2.2.2.1)))) else (some 80))) else (none)) else (none)
theorem rotaref08_wrong.mono_l : ∀ k, (∀ y0 y1 y2 y3 y4 y5 y6 y7 y8 y9 y10, LeO (rotaref08_wrong.j0 k y0 y1 y2 y3 y4 y5 y6 y7 y8 y9 y10) (rotaref08_wrong.j0 (k + 1) y0 y1 y2 y3 y4 y5 y6 y7 y8 y9 y10)) ∧ (∀ y0 y1 y2 y3 y4 y5 y6 y7 y8 y9 y10, LeO (rotaref08_wrong.j1 k y0 y1 y2 y3 y4 y5 y6 y7 y8 y9 y10) (rotaref08_wrong.j1 (k + 1) y0 y1 y2 y3 y4 y5 y6 y7 y8 y9 y10)) ∧ (∀ y0 y1 y2 y3 y4 y5 y6 y7 y8 y9 y10, LeO (rotaref08_wrong.j2 k y0 y1 y2 y3 y4 y5 y6 y7 y8 y9 y10) (rotaref08_wrong.j2 (k + 1) y0 y1 y2 y3 y4 y5 y6 y7 y8 y9 y10))
  | 0 => ⟨fun _ _ _ _ _ _ _ _ _ _ _ r h => by simp [rotaref08_wrong.j0] at h, fun _ _ _ _ _ _ _ _ _ _ _ r h => by simp [rotaref08_wrong.j1] at h, fun _ _ _ _ _ _ _ _ _ _ _ r h => by simp [rotaref08_wrong.j2] at h⟩
  | k + 1 => by
    obtain ⟨ih0, ih1, ih2⟩ := rotaref08_wrong.mono_l k
    refine ⟨?_, ?_, ?_⟩
    · intro y0 y1 y2 y3 y4 y5 y6 y7 y8 y9 y10
      unfold rotaref08_wrong.j0
      repeat' first
      | (with_reducible exact ih0 _ _ _ _ _ _ _ _ _ _ _)
      | (with_reducible exact ih1 _ _ _ _ _ _ _ _ _ _ _)
      | (with_reducible exact ih2 _ _ _ _ _ _ _ _ _ _ _)
      | (with_reducible exact rotaref08_in.mono _ _ _ _ _)
      | (with_reducible exact LeO.refl _)
      | (with_reducible exact LeO.none _)
      | (with_reducible refine LeO.ite ?_ ?_)
      | (with_reducible refine LeO.bind ?_ (fun _ => ?_))
      | exact ih0 _ _ _ _ _ _ _ _ _ _ _
      | exact ih1 _ _ _ _ _ _ _ _ _ _ _
      | exact ih2 _ _ _ _ _ _ _ _ _ _ _
      | exact rotaref08_in.mono _ _ _ _ _
      | exact LeO.none _
      | refine LeO.ite ?_ ?_
      | refine LeO.bind ?_ (fun _ => ?_)
    · intro y0 y1 y2 y3 y4 y5 y6 y7 y8 y9 y10
      unfold rotaref08_wrong.j1
      repeat' first
      | (with_reducible exact ih0 _ _ _ _ _ _ _ _ _ _ _)
      | (with_reducible exact ih1 _ _ _ _ _ _ _ _ _ _ _)
      | (with_reducible exact ih2 _ _ _ _ _ _ _ _ _ _ _)
      | (with_reducible exact rotaref08_in.mono _ _ _ _ _)
      | (with_reducible exact LeO.refl _)
      | (with_reducible exact LeO.none _)
      | (with_reducible refine LeO.ite ?_ ?_)
      | (with_reducible refine LeO.bind ?_ (fun _ => ?_))
      | exact ih0 _ _ _ _ _ _ _ _ _ _ _
      | exact ih1 _ _ _ _ _ _ _ _ _ _ _
      | exact ih2 _ _ _ _ _ _ _ _ _ _ _
      | exact rotaref08_in.mono _ _ _ _ _
      | exact LeO.none _
      | refine LeO.ite ?_ ?_
      | refine LeO.bind ?_ (fun _ => ?_)
    · intro y0 y1 y2 y3 y4 y5 y6 y7 y8 y9 y10
      unfold rotaref08_wrong.j2
      repeat' first
      | (with_reducible exact ih0 _ _ _ _ _ _ _ _ _ _ _)
      | (with_reducible exact ih1 _ _ _ _ _ _ _ _ _ _ _)
      | (with_reducible exact ih2 _ _ _ _ _ _ _ _ _ _ _)
      | (with_reducible exact rotaref08_in.mono _ _ _ _ _)
      | (with_reducible exact LeO.refl _)
      | (with_reducible exact LeO.none _)
      | (with_reducible refine LeO.ite ?_ ?_)
      | (with_reducible refine LeO.bind ?_ (fun _ => ?_))
      | exact ih0 _ _ _ _ _ _ _ _ _ _ _
      | exact ih1 _ _ _ _ _ _ _ _ _ _ _
      | exact ih2 _ _ _ _ _ _ _ _ _ _ _
      | exact rotaref08_in.mono _ _ _ _ _
      | exact LeO.none _
      | refine LeO.ite ?_ ?_
      | refine LeO.bind ?_ (fun _ => ?_)
theorem rotaref08_wrong.mono : ∀ a0 a1 a2 a3 k, LeO (rotaref08_wrong.f k a0 a1 a2 a3) (rotaref08_wrong.f (k + 1) a0 a1 a2 a3) := by
  intro a0 a1 a2 a3 k
  obtain ⟨ih0, ih1, ih2⟩ := rotaref08_wrong.mono_l k
  unfold rotaref08_wrong.f
  repeat' first
      | (with_reducible exact ih0 _ _ _ _ _ _ _ _ _ _ _)
      | (with_reducible exact ih1 _ _ _ _ _ _ _ _ _ _ _)
      | (with_reducible exact ih2 _ _ _ _ _ _ _ _ _ _ _)
      | (with_reducible exact rotaref08_in.mono _ _ _ _ _)
      | (with_reducible exact LeO.refl _)
      | (with_reducible exact LeO.none _)
      | (with_reducible refine LeO.ite ?_ ?_)
      | (with_reducible refine LeO.bind ?_ (fun _ => ?_))
      | exact ih0 _ _ _ _ _ _ _ _ _ _ _
      | exact ih1 _ _ _ _ _ _ _ _ _ _ _
      | exact ih2 _ _ _ _ _ _ _ _ _ _ _
      | exact rotaref08_in.mono _ _ _ _ _
      | exact LeO.none _
      | refine LeO.ite ?_ ?_
      | refine LeO.bind ?_ (fun _ => ?_)
set_option maxHeartbeats 8000000 in
set_option maxRecDepth 100000 in
theorem rotaref08_wrong.calls (k : Nat) (A0_0 : Option Addr) (c0_0 : Nat) (l0_0 : List Int) (A0_1 : Option Addr) (c0_1 : Nat) (l0_1 : List (S75)) (A0_2 : Option Addr) (c0_2 : Nat) (l0_2 : List (S98)) (a1 : Int) (r : Int) (w : World) (hr0_0 : Kd.C (Kd.int .u32) w A0_0 l0_0.length l0_0) (hc0_0 : l0_0.length ≤ c0_0) (hr0_1 : Kd.C k75 w A0_1 l0_1.length l0_1) (hc0_1 : l0_1.length ≤ c0_1) (hr0_2 : Kd.C k98 w A0_2 l0_2.length l0_2) (hc0_2 : l0_2.length ≤ c0_2) (h : rotaref08_wrong.f k l0_0 l0_1 l0_2 a1 = some r) :
    Calls Try.prog 47 #[.agg #[.slice A0_0 l0_0.length c0_0, .slice A0_1 l0_1.length c0_1, .slice A0_2 l0_2.length c0_2], .int .i64 a1] w fun e w' => e = .returned (.int .i64 r) ∧ Below w.heap.size w w' := by
  have hu26 := Try.underlying26
  have hu37 := Try.underlying37
  have HR0_0 := Aside0.mk hr0_0
  have HC0_0 := Aside0.mk hc0_0
  clear hr0_0 hc0_0
  have HR0_1 := Aside0.mk hr0_1
  have HC0_1 := Aside0.mk hc0_1
  clear hr0_1 hc0_1
  have HR0_2 := Aside0.mk hr0_2
  have HC0_2 := Aside0.mk hc0_2
  clear hr0_2 hc0_2
  have HB := Aside0.mk (Below.refl w.heap.size w)
  have H : (if 0 ≤ a1 then (if a1 < (l0_0.length : Int) then ((rotaref06_Decode.f (rd l0_0 a1)).bind fun bt526 => (if bt526.2.2.2.2.2 = 0 then ((rotaref08_in.f k l0_0 l0_1 l0_2 a1).bind fun t533 => ((rotaref08_jumps.f bt526.1).bind fun t534 => (if t534 = true then (if bt526.2.2.2.2.1 ≥ (l0_0.length : Int) then (rotaref08_wrong.j0 k a1 t533 true l0_0 l0_1 l0_2 bt526.1 bt526.2.1 bt526.2.2.1 bt526.2.2.2.1 bt526.2.2.2.2.1) else ((rotaref08_in.f k l0_0 l0_1 l0_2 bt526.2.2.2.2.1).bind fun t535 => (rotaref08_wrong.j0 k a1 t533 (t535 != t533) l0_0 l0_1 l0_2 bt526.1 bt526.2.1 bt526.2.2.1 bt526.2.2.2.1 bt526.2.2.2.2.1))) else (rotaref08_wrong.j0 k a1 t533 false l0_0 l0_1 l0_2 bt526.1 bt526.2.1 bt526.2.2.1 bt526.2.2.2.1 bt526.2.2.2.2.1)))) else (some 80))) else (none)) else (none)) = some r := h
  clear h
  by_cases c3 : 0 ≤ a1
  · rw [if_pos c3] at H
    have c3b0 : decide (0 ≤ a1) = true := decide_eq_true c3
    clear c3
    by_cases c4 : a1 < (l0_0.length : Int)
    · rw [if_pos c4] at H
      have c4b0 : decide (a1 < (l0_0.length : Int)) = true := decide_eq_true c4
      clear c4
      replace H := Option.bind_eq_some_iff.mp H
      obtain ⟨⟨t526, t527, t528, t529, t530, t531⟩, A50, H⟩ := H
      replace H : (if t531 = 0 then ((rotaref08_in.f k l0_0 l0_1 l0_2 a1).bind fun t533 => ((rotaref08_jumps.f t526).bind fun t534 => (if t534 = true then (if t530 ≥ (l0_0.length : Int) then (rotaref08_wrong.j0 k a1 t533 true l0_0 l0_1 l0_2 t526 t527 t528 t529 t530) else ((rotaref08_in.f k l0_0 l0_1 l0_2 t530).bind fun t535 => (rotaref08_wrong.j0 k a1 t533 (t535 != t533) l0_0 l0_1 l0_2 t526 t527 t528 t529 t530))) else (rotaref08_wrong.j0 k a1 t533 false l0_0 l0_1 l0_2 t526 t527 t528 t529 t530)))) else (some 80)) = some r := H
      have A5 := Aside0.mk A50
      clear A50
      by_cases c6 : t531 = 0
      · rw [if_pos c6] at H
        have c6b0 : (t531 == 0) = true := beq_iff_eq.mpr c6
        have c6b1 : (t531 != 0) = false := bne_eq_false_iff_eq.mpr c6
        clear c6
        replace H := Option.bind_eq_some_iff.mp H
        obtain ⟨t533, A70, H⟩ := H
        replace H : ((rotaref08_jumps.f t526).bind fun t534 => (if t534 = true then (if t530 ≥ (l0_0.length : Int) then (rotaref08_wrong.j0 k a1 t533 true l0_0 l0_1 l0_2 t526 t527 t528 t529 t530) else ((rotaref08_in.f k l0_0 l0_1 l0_2 t530).bind fun t535 => (rotaref08_wrong.j0 k a1 t533 (t535 != t533) l0_0 l0_1 l0_2 t526 t527 t528 t529 t530))) else (rotaref08_wrong.j0 k a1 t533 false l0_0 l0_1 l0_2 t526 t527 t528 t529 t530))) = some r := H
        have A7 := Aside0.mk A70
        clear A70
        have HC8 := Aside0.mk H
        clear H
        go_enter Try.func47, Try.ntmps47
        go_upto_region 5 with (first | ((with_reducible refine gate_dst (N := 2) rfl ?_); (try (refine gate_guard (by rfl) ?_; dsimp only)); refine box_event ?hg (N := 2) ?hd (cs := #[.slice A0_0 l0_0.length c0_0, .slice A0_1 l0_1.length c0_1, .slice A0_2 l0_2.length c0_2]) (t := 26) ?hr ?_; (case hd => rfl); (case hg => rfl); (case hr => first | (go_simp; done) | (go_simp; rfl)); intro gb524 hg w9 hbox hb; have n0_ := Aside0.mk (below_step (by repeat (first | (with_reducible first | exact HB.out | apply below_alloc | apply pw_below_drewN | apply below_drew1) | exact HB.out)) hb); have n1_ := Aside0.mk (hbox); have n2_ := Aside0.mk ((by rw [hg]; exact (below_size (by repeat (first | (with_reducible first | exact HB.out | apply below_alloc | apply pw_below_drewN | apply below_drew1) | exact HB.out))) : w.heap.size ≤ gb524)); have n3_ := Aside0.mk ((by rw [hg]; exact (below_size (by repeat (first | (with_reducible first | exact HB.out | apply below_alloc | apply pw_below_drewN | apply below_drew1) | exact HB.out))) : w.heap.size ≤ gb524)); clear HB; have HB := n0_; have BK524 := n1_; have GW524 := n2_; have GE524 := n3_; clear n0_ n1_ n2_ n3_; clear hb hbox hg; have hcz10_0 : w9.cell? ⟨gb524, 0, none⟩ = some (.slice A0_0 l0_0.length c0_0) := (blk_cell BK524.out 0).trans rfl; have hcz10_1 : w9.cell? ⟨gb524, 1, none⟩ = some (.slice A0_1 l0_1.length c0_1) := (blk_cell BK524.out 1).trans rfl; have hcz10_2 : w9.cell? ⟨gb524, 2, none⟩ = some (.slice A0_2 l0_2.length c0_2) := (blk_cell BK524.out 2).trans rfl; have hfz10_0 := blk_frozen BK524.out 0; have hfz10_1 := blk_frozen BK524.out 1; have hfz10_2 := blk_frozen BK524.out 2; have p525 : 0 ≤ (a1 : Int) := of_decide_eq_true (by first | (with_reducible assumption) | assumption); have q525 : a1 < (l0_0.length : Int) := of_decide_eq_true (by first | (with_reducible assumption) | assumption); obtain ⟨ad525, e525, hx525_0⟩ := Kd.at_int HR0_0.out a1 p525 q525; cases e525; replace hx525_0 := (HB.out.cell (World.block_lt_of_cell? w _ hx525_0)).trans hx525_0; replace p525 := eq_true p525; replace q525 := eq_true q525) | ((with_reducible refine gate_callee (f := 22) rfl ?_); refine goesL_ (some 14) rfl rfl Try.func22 (by kernel_rfl) rfl #[.int .u32 (rd l0_0 a1)] rfl (by (try simp only [List.map_toArray, List.map_cons, List.map_nil]); first | done | rfl | (simp only [List.length_drop, List.length_take]; rfl)) ?_; (with_reducible refine (rotaref06_Decode.calls (rd l0_0 a1) t526 t527 t528 t529 t530 t531 _ A5.out).mono ?_); rintro e w11 ⟨rfl, hb⟩; refine ⟨_, rfl, ?_⟩; have n0_ := Aside0.mk (blk_below (g := gb524) (o := .cells #[.slice (some ad525) l0_0.length c0_0, .slice A0_1 l0_1.length c0_1, .slice A0_2 l0_2.length c0_2] 26 (0, 0)) (by (with_reducible repeat (first | refine blk_drewN ?_ _ | refine blk_drew ?_ | refine blk_alloc ?_ _)); exact BK524.out) hb); have n1_ := Aside0.mk (below_step (by repeat (first | (with_reducible first | exact HB.out | apply below_alloc | apply pw_below_drewN | apply below_drew1 | refine below_set ?_ GE524.out) | exact HB.out)) hb); clear BK524; clear HB; have BK524 := n0_; have HB := n1_; clear n0_ n1_; (try clear hb); (try clear hb2); (try clear hk); (try clear hi)) | ((with_reducible refine gate_dst (N := 5) rfl ?_); (try (refine gate_guard (by rfl) ?_; dsimp only)); refine box_event ?hg (N := 5) ?hd (cs := #[.int .i64 0, .int .i64 0, .int .i64 0, .int .i64 0, .int .i64 0]) (t := 37) ?hr ?_; (case hd => rfl); (case hg => rfl); (case hr => first | (go_simp; done) | (go_simp; rfl)); intro gb532 hg w12 hbox hb; have n0_ := Aside0.mk (blk_below (g := gb524) (o := .cells #[.slice (some ad525) l0_0.length c0_0, .slice A0_1 l0_1.length c0_1, .slice A0_2 l0_2.length c0_2] 26 (0, 0)) (by (with_reducible repeat (first | refine blk_drewN ?_ _ | refine blk_drew ?_ | refine blk_alloc ?_ _)); exact BK524.out) hb); have n1_ := Aside0.mk (below_step (by repeat (first | (with_reducible first | exact HB.out | apply below_alloc | apply pw_below_drewN | apply below_drew1 | refine below_set ?_ GE524.out) | exact HB.out)) hb); have n2_ := Aside0.mk (hbox); have n3_ := Aside0.mk ((by rw [hg]; exact (below_size (by repeat (first | (with_reducible first | exact HB.out | apply below_alloc | apply pw_below_drewN | apply below_drew1 | refine below_set ?_ GE524.out) | exact HB.out))) : w.heap.size ≤ gb532)); have n4_ := Aside0.mk ((by rw [hg]; exact (below_size (by repeat (first | (with_reducible first | exact HB.out | apply below_alloc | apply pw_below_drewN | apply below_drew1 | refine below_set ?_ GE524.out) | exact HB.out))) : w.heap.size ≤ gb532)); have n5_ := Aside0.mk ((by rw [hg]; exact Nat.ne_of_lt (blk_lt (g := gb524) (o := .cells #[.slice (some ad525) l0_0.length c0_0, .slice A0_1 l0_1.length c0_1, .slice A0_2 l0_2.length c0_2] 26 (0, 0)) (by (with_reducible repeat (first | refine blk_drewN ?_ _ | refine blk_drew ?_ | refine blk_alloc ?_ _)); exact BK524.out)) : gb524 ≠ gb532)); have n6_ := Aside0.mk ((by rw [hg]; exact Nat.ne_of_gt (blk_lt (g := gb524) (o := .cells #[.slice (some ad525) l0_0.length c0_0, .slice A0_1 l0_1.length c0_1, .slice A0_2 l0_2.length c0_2] 26 (0, 0)) (by (with_reducible repeat (first | refine blk_drewN ?_ _ | refine blk_drew ?_ | refine blk_alloc ?_ _)); exact BK524.out)) : gb532 ≠ gb524)); clear BK524; clear HB; have BK524 := n0_; have HB := n1_; have BK532 := n2_; have GW532 := n3_; have GE532 := n4_; have NB524_532 := n5_; have NB532_524 := n6_; clear n0_ n1_ n2_ n3_ n4_ n5_ n6_; clear hb hbox hg; have hnb13 := NB532_524.out; have hnc13 := NB524_532.out; have hcz14_0 : w12.cell? ⟨gb532, 0, none⟩ = some (.int .i64 0) := (blk_cell BK532.out 0).trans rfl; have hcz14_1 : w12.cell? ⟨gb532, 1, none⟩ = some (.int .i64 0) := (blk_cell BK532.out 1).trans rfl; have hcz14_2 : w12.cell? ⟨gb532, 2, none⟩ = some (.int .i64 0) := (blk_cell BK532.out 2).trans rfl; have hcz14_3 : w12.cell? ⟨gb532, 3, none⟩ = some (.int .i64 0) := (blk_cell BK532.out 3).trans rfl; have hcz14_4 : w12.cell? ⟨gb532, 4, none⟩ = some (.int .i64 0) := (blk_cell BK532.out 4).trans rfl; have hfz14_0 := blk_frozen BK532.out 0; have hfz14_1 := blk_frozen BK532.out 1; have hfz14_2 := blk_frozen BK532.out 2; have hfz14_3 := blk_frozen BK532.out 3; have hfz14_4 := blk_frozen BK532.out 4; have hcz15_0 : w12.cell? ⟨gb524, 0, none⟩ = some (.slice (some ad525) l0_0.length c0_0) := (blk_cell BK524.out 0).trans rfl; have hcz15_1 : w12.cell? ⟨gb524, 1, none⟩ = some (.slice A0_1 l0_1.length c0_1) := (blk_cell BK524.out 1).trans rfl; have hcz15_2 : w12.cell? ⟨gb524, 2, none⟩ = some (.slice A0_2 l0_2.length c0_2) := (blk_cell BK524.out 2).trans rfl; have hfz15_0 := blk_frozen BK524.out 0; have hfz15_1 := blk_frozen BK524.out 1; have hfz15_2 := blk_frozen BK524.out 2) | ((with_reducible refine gate_callee (f := 54) rfl ?_); refine goesL_ (some 21) rfl rfl Try.func54 (by kernel_rfl) rfl #[.agg #[.slice (some ad525) l0_0.length c0_0, .slice A0_1 l0_1.length c0_1, .slice A0_2 l0_2.length c0_2], .int .i64 a1] rfl (by (try simp only [List.map_toArray, List.map_cons, List.map_nil]); first | done | rfl | (simp only [List.length_drop, List.length_take]; rfl)) ?_; (with_reducible refine (rotaref08_in.calls k _ _ l0_0 _ _ l0_1 _ _ l0_2 a1 t533 _ ?side1 ?side2 ?side3 ?side4 ?side5 ?side6 A7.out).mono ?_); (case side1 => exact Kd.C_below HR0_0.out (by repeat (first | (with_reducible first | exact HB.out | apply below_alloc | apply pw_below_drewN | apply below_drew1 | refine below_set ?_ GE524.out | refine below_set ?_ GE532.out) | exact HB.out))); (case side2 => exact HC0_0.out); (case side3 => exact Kd.C_below HR0_1.out (by repeat (first | (with_reducible first | exact HB.out | apply below_alloc | apply pw_below_drewN | apply below_drew1 | refine below_set ?_ GE524.out | refine below_set ?_ GE532.out) | exact HB.out))); (case side4 => exact HC0_1.out); (case side5 => exact Kd.C_below HR0_2.out (by repeat (first | (with_reducible first | exact HB.out | apply below_alloc | apply pw_below_drewN | apply below_drew1 | refine below_set ?_ GE524.out | refine below_set ?_ GE532.out) | exact HB.out))); (case side6 => exact HC0_2.out); rintro e w16 ⟨rfl, hb⟩; refine ⟨_, rfl, ?_⟩; have n0_ := Aside0.mk (blk_below (g := gb524) (o := .cells #[.slice (some ad525) l0_0.length c0_0, .slice A0_1 l0_1.length c0_1, .slice A0_2 l0_2.length c0_2] 26 (0, 0)) (by (with_reducible repeat (first | refine blk_drewN ?_ _ | refine blk_drew ?_ | refine blk_alloc ?_ _)); refine blk_far ?_ NB524_532.out _; (with_reducible repeat (first | refine blk_drewN ?_ _ | refine blk_drew ?_ | refine blk_alloc ?_ _)); refine blk_far ?_ NB524_532.out _; (with_reducible repeat (first | refine blk_drewN ?_ _ | refine blk_drew ?_ | refine blk_alloc ?_ _)); refine blk_far ?_ NB524_532.out _; (with_reducible repeat (first | refine blk_drewN ?_ _ | refine blk_drew ?_ | refine blk_alloc ?_ _)); refine blk_far ?_ NB524_532.out _; (with_reducible repeat (first | refine blk_drewN ?_ _ | refine blk_drew ?_ | refine blk_alloc ?_ _)); refine blk_far ?_ NB524_532.out _; (with_reducible repeat (first | refine blk_drewN ?_ _ | refine blk_drew ?_ | refine blk_alloc ?_ _)); exact BK524.out) hb); have n1_ := Aside0.mk (blk_below (g := gb532) (o := .cells #[.int .i64 t526, .int .i64 t527, .int .i64 t528, .int .i64 t529, .int .i64 t530] 37 (0, 0)) (by (with_reducible repeat (first | refine blk_drewN ?_ _ | refine blk_drew ?_ | refine blk_alloc ?_ _)); refine blk_put (cs := #[.int .i64 t526, .int .i64 t527, .int .i64 t528, .int .i64 t529, .int .i64 0]) ?_ 4 _ rfl; (with_reducible repeat (first | refine blk_drewN ?_ _ | refine blk_drew ?_ | refine blk_alloc ?_ _)); refine blk_put (cs := #[.int .i64 t526, .int .i64 t527, .int .i64 t528, .int .i64 0, .int .i64 0]) ?_ 3 _ rfl; (with_reducible repeat (first | refine blk_drewN ?_ _ | refine blk_drew ?_ | refine blk_alloc ?_ _)); refine blk_put (cs := #[.int .i64 t526, .int .i64 t527, .int .i64 0, .int .i64 0, .int .i64 0]) ?_ 2 _ rfl; (with_reducible repeat (first | refine blk_drewN ?_ _ | refine blk_drew ?_ | refine blk_alloc ?_ _)); refine blk_put (cs := #[.int .i64 t526, .int .i64 0, .int .i64 0, .int .i64 0, .int .i64 0]) ?_ 1 _ rfl; (with_reducible repeat (first | refine blk_drewN ?_ _ | refine blk_drew ?_ | refine blk_alloc ?_ _)); refine blk_put (cs := #[.int .i64 0, .int .i64 0, .int .i64 0, .int .i64 0, .int .i64 0]) ?_ 0 _ rfl; (with_reducible repeat (first | refine blk_drewN ?_ _ | refine blk_drew ?_ | refine blk_alloc ?_ _)); exact BK532.out) hb); have n2_ := Aside0.mk (below_step (by repeat (first | (with_reducible first | exact HB.out | apply below_alloc | apply pw_below_drewN | apply below_drew1 | refine below_set ?_ GE524.out | refine below_set ?_ GE532.out) | exact HB.out)) hb); clear BK524; clear BK532; clear HB; have BK524 := n0_; have BK532 := n1_; have HB := n2_; clear n0_ n1_ n2_; (try clear hb); (try clear hb2); (try clear hk); (try clear hi)))
        (try simp only [Act.put, List.setIfInBounds_toArray, List.set_cons_zero, List.set_cons_succ])
        go_cut [22] (fun v22 wc => ∃ (kq : Nat) (x22_7 : Bool), v22 = .bool x22_7 ∧ Aside0 (rotaref08_wrong.j0 kq a1 t533 x22_7 l0_0 l0_1 l0_2 t526 t527 t528 t529 t530 = some r) ∧ Aside0 (kq ≤ k) ∧ Aside0 (wc.heap[gb524]? = some (.cells #[(.slice (some ad525) l0_0.length c0_0), (.slice A0_1 l0_1.length c0_1), (.slice A0_2 l0_2.length c0_2)] 26 (0, 0))) ∧ Aside0 (wc.heap[gb532]? = some (.cells #[.int .i64 t526, .int .i64 t527, .int .i64 t528, .int .i64 t529, .int .i64 t530] 37 (0, 0))) ∧ Aside0 (Below w.heap.size w wc))
        case first =>
          have H := HC8.out
          clear HC8
          replace H := Option.bind_eq_some_iff.mp H
          obtain ⟨t534, A170, H⟩ := H
          replace H : (if t534 = true then (if t530 ≥ (l0_0.length : Int) then (rotaref08_wrong.j0 k a1 t533 true l0_0 l0_1 l0_2 t526 t527 t528 t529 t530) else ((rotaref08_in.f k l0_0 l0_1 l0_2 t530).bind fun t535 => (rotaref08_wrong.j0 k a1 t533 (t535 != t533) l0_0 l0_1 l0_2 t526 t527 t528 t529 t530))) else (rotaref08_wrong.j0 k a1 t533 false l0_0 l0_1 l0_2 t526 t527 t528 t529 t530)) = some r := H
          have A17 := Aside0.mk A170
          clear A170
          by_cases c18 : t534 = true
          · subst c18
            have H1 : (if t530 ≥ (l0_0.length : Int) then (rotaref08_wrong.j0 k a1 t533 true l0_0 l0_1 l0_2 t526 t527 t528 t529 t530) else ((rotaref08_in.f k l0_0 l0_1 l0_2 t530).bind fun t535 => (rotaref08_wrong.j0 k a1 t533 (t535 != t533) l0_0 l0_1 l0_2 t526 t527 t528 t529 t530))) = some r := by rw [if_pos rfl] at H; exact H
            clear H
            have H := H1
            clear H1
            by_cases c19 : t530 ≥ (l0_0.length : Int)
            · rw [if_pos c19] at H
              have c19b0 : decide ((l0_0.length : Int) ≤ t530) = true := decide_eq_true c19
              clear c19
              (first | rw [c19b0] | (simp only [i64_w, i32_w]; rw [c19b0]) | skip)
              have H' := Aside0.mk H
              clear H
              have hnb20 := NB532_524.out
              have hnc20 := NB524_532.out
              have hcz21_0 : w16.cell? ⟨gb532, 0, none⟩ = some (.int .i64 t526) := (blk_cell BK532.out 0).trans rfl
              have hcz21_1 : w16.cell? ⟨gb532, 1, none⟩ = some (.int .i64 t527) := (blk_cell BK532.out 1).trans rfl
              have hcz21_2 : w16.cell? ⟨gb532, 2, none⟩ = some (.int .i64 t528) := (blk_cell BK532.out 2).trans rfl
              have hcz21_3 : w16.cell? ⟨gb532, 3, none⟩ = some (.int .i64 t529) := (blk_cell BK532.out 3).trans rfl
              have hcz21_4 : w16.cell? ⟨gb532, 4, none⟩ = some (.int .i64 t530) := (blk_cell BK532.out 4).trans rfl
              have hfz21_0 := blk_frozen BK532.out 0
              have hfz21_1 := blk_frozen BK532.out 1
              have hfz21_2 := blk_frozen BK532.out 2
              have hfz21_3 := blk_frozen BK532.out 3
              have hfz21_4 := blk_frozen BK532.out 4
              go_wp2_with (first | ((with_reducible refine gate_callee (f := 55) rfl ?_); refine goesL_ (some 25) rfl rfl Try.func55 (by kernel_rfl) rfl #[.int .i64 t526] rfl (by (try simp only [List.map_toArray, List.map_cons, List.map_nil]); first | done | rfl | (simp only [List.length_drop, List.length_take]; rfl)) ?_; (with_reducible refine (rotaref08_jumps.calls t526 true _ A17.out).mono ?_); rintro e w' ⟨rfl, ⟨nd, rfl⟩⟩; refine ⟨_, rfl, ?_⟩; have hcz22_0 : w16.cell? ⟨gb524, 0, none⟩ = some (.slice (some ad525) l0_0.length c0_0) := (blk_cell BK524.out 0).trans rfl; have hcz22_1 : w16.cell? ⟨gb524, 1, none⟩ = some (.slice A0_1 l0_1.length c0_1) := (blk_cell BK524.out 1).trans rfl; have hcz22_2 : w16.cell? ⟨gb524, 2, none⟩ = some (.slice A0_2 l0_2.length c0_2) := (blk_cell BK524.out 2).trans rfl; have hfz22_0 := blk_frozen BK524.out 0; have hfz22_1 := blk_frozen BK524.out 1; have hfz22_2 := blk_frozen BK524.out 2))
              go_meet
              case rel => exact ⟨_, (true), (by first | rfl | (simp; done) | (simp [*]; done)), H', ⟨by first | omega | exact Nat.le_refl _⟩, ⟨by (with_reducible repeat (first | refine blk_drewN ?_ _ | refine blk_drew ?_ | refine blk_alloc ?_ _)); exact BK524.out⟩, ⟨by (with_reducible repeat (first | refine blk_drewN ?_ _ | refine blk_drew ?_ | refine blk_alloc ?_ _)); exact BK532.out⟩, ⟨by repeat (first | (with_reducible first | exact HB.out | apply below_alloc | apply pw_below_drewN | apply below_drew1 | refine below_set ?_ GE524.out | refine below_set ?_ GE532.out) | exact HB.out)⟩⟩
            · rw [if_neg c19] at H
              have c19b0 : decide ((l0_0.length : Int) ≤ t530) = false := decide_eq_false c19
              clear c19
              (first | rw [c19b0] | (simp only [i64_w, i32_w]; rw [c19b0]) | skip)
              replace H := Option.bind_eq_some_iff.mp H
              obtain ⟨t535, A230, H⟩ := H
              replace H : (rotaref08_wrong.j0 k a1 t533 (t535 != t533) l0_0 l0_1 l0_2 t526 t527 t528 t529 t530) = some r := H
              have A23 := Aside0.mk A230
              clear A230
              have H' := Aside0.mk H
              clear H
              have hnb24 := NB532_524.out
              have hnc24 := NB524_532.out
              have hcz25_0 : w16.cell? ⟨gb532, 0, none⟩ = some (.int .i64 t526) := (blk_cell BK532.out 0).trans rfl
              have hcz25_1 : w16.cell? ⟨gb532, 1, none⟩ = some (.int .i64 t527) := (blk_cell BK532.out 1).trans rfl
              have hcz25_2 : w16.cell? ⟨gb532, 2, none⟩ = some (.int .i64 t528) := (blk_cell BK532.out 2).trans rfl
              have hcz25_3 : w16.cell? ⟨gb532, 3, none⟩ = some (.int .i64 t529) := (blk_cell BK532.out 3).trans rfl
              have hcz25_4 : w16.cell? ⟨gb532, 4, none⟩ = some (.int .i64 t530) := (blk_cell BK532.out 4).trans rfl
              have hfz25_0 := blk_frozen BK532.out 0
              have hfz25_1 := blk_frozen BK532.out 1
              have hfz25_2 := blk_frozen BK532.out 2
              have hfz25_3 := blk_frozen BK532.out 3
              have hfz25_4 := blk_frozen BK532.out 4
              go_wp2_with (first | ((with_reducible refine gate_callee (f := 55) rfl ?_); refine goesL_ (some 25) rfl rfl Try.func55 (by kernel_rfl) rfl #[.int .i64 t526] rfl (by (try simp only [List.map_toArray, List.map_cons, List.map_nil]); first | done | rfl | (simp only [List.length_drop, List.length_take]; rfl)) ?_; (with_reducible refine (rotaref08_jumps.calls t526 true _ A17.out).mono ?_); rintro e w' ⟨rfl, ⟨nd, rfl⟩⟩; refine ⟨_, rfl, ?_⟩; have hcz26_0 : w16.cell? ⟨gb524, 0, none⟩ = some (.slice (some ad525) l0_0.length c0_0) := (blk_cell BK524.out 0).trans rfl; have hcz26_1 : w16.cell? ⟨gb524, 1, none⟩ = some (.slice A0_1 l0_1.length c0_1) := (blk_cell BK524.out 1).trans rfl; have hcz26_2 : w16.cell? ⟨gb524, 2, none⟩ = some (.slice A0_2 l0_2.length c0_2) := (blk_cell BK524.out 2).trans rfl; have hfz26_0 := blk_frozen BK524.out 0; have hfz26_1 := blk_frozen BK524.out 1; have hfz26_2 := blk_frozen BK524.out 2) | (go_at_call 54; (with_reducible refine (rotaref08_in.calls k _ _ l0_0 _ _ l0_1 _ _ l0_2 t530 t535 _ ?side1 ?side2 ?side3 ?side4 ?side5 ?side6 A23.out).mono ?_); (case side1 => repeat (first | exact (Kd.C_below HR0_0.out (by repeat (first | (with_reducible first | exact HB.out | apply below_alloc | apply pw_below_drewN | apply below_drew1 | refine below_set ?_ GE524.out | refine below_set ?_ GE532.out) | exact HB.out))) | (with_reducible refine Kd.C_alloc ?_ _) | (with_reducible refine Kd.C_drewN ?_ _) | (with_reducible refine Kd.C_drew ?_))); (case side2 => exact HC0_0.out); (case side3 => repeat (first | exact (Kd.C_below HR0_1.out (by repeat (first | (with_reducible first | exact HB.out | apply below_alloc | apply pw_below_drewN | apply below_drew1 | refine below_set ?_ GE524.out | refine below_set ?_ GE532.out) | exact HB.out))) | (with_reducible refine Kd.C_alloc ?_ _) | (with_reducible refine Kd.C_drewN ?_ _) | (with_reducible refine Kd.C_drew ?_))); (case side4 => exact HC0_1.out); (case side5 => repeat (first | exact (Kd.C_below HR0_2.out (by repeat (first | (with_reducible first | exact HB.out | apply below_alloc | apply pw_below_drewN | apply below_drew1 | refine below_set ?_ GE524.out | refine below_set ?_ GE532.out) | exact HB.out))) | (with_reducible refine Kd.C_alloc ?_ _) | (with_reducible refine Kd.C_drewN ?_ _) | (with_reducible refine Kd.C_drew ?_))); (case side6 => exact HC0_2.out); rintro e w27 ⟨rfl, hb⟩; have n0_ := Aside0.mk (blk_below (g := gb524) (o := .cells #[.slice (some ad525) l0_0.length c0_0, .slice A0_1 l0_1.length c0_1, .slice A0_2 l0_2.length c0_2] 26 (0, 0)) (by (with_reducible repeat (first | refine blk_drewN ?_ _ | refine blk_drew ?_ | refine blk_alloc ?_ _)); exact BK524.out) hb); have n1_ := Aside0.mk (blk_below (g := gb532) (o := .cells #[.int .i64 t526, .int .i64 t527, .int .i64 t528, .int .i64 t529, .int .i64 t530] 37 (0, 0)) (by (with_reducible repeat (first | refine blk_drewN ?_ _ | refine blk_drew ?_ | refine blk_alloc ?_ _)); exact BK532.out) hb); have n2_ := Aside0.mk (below_step (by repeat (first | (with_reducible first | exact HB.out | apply below_alloc | apply pw_below_drewN | apply below_drew1 | refine below_set ?_ GE524.out | refine below_set ?_ GE532.out) | exact HB.out)) hb); clear BK524; clear BK532; clear HB; have BK524 := n0_; have BK532 := n1_; have HB := n2_; clear n0_ n1_ n2_; (try clear hb); (try clear hb2); (try clear hk); (try clear hi)))
              go_meet
              case rel => exact ⟨_, ((t535 != t533)), (by first | rfl | (simp; done) | (simp [*]; done)), H', ⟨by first | omega | exact Nat.le_refl _⟩, ⟨by (with_reducible repeat (first | refine blk_drewN ?_ _ | refine blk_drew ?_ | refine blk_alloc ?_ _)); exact BK524.out⟩, ⟨by (with_reducible repeat (first | refine blk_drewN ?_ _ | refine blk_drew ?_ | refine blk_alloc ?_ _)); exact BK532.out⟩, ⟨by repeat (first | (with_reducible first | exact HB.out | apply below_alloc | apply pw_below_drewN | apply below_drew1 | refine below_set ?_ GE524.out | refine below_set ?_ GE532.out) | exact HB.out)⟩⟩
          · replace c18 := Bool.eq_false_iff.mpr c18
            subst c18
            have H1 : (rotaref08_wrong.j0 k a1 t533 false l0_0 l0_1 l0_2 t526 t527 t528 t529 t530) = some r := by rw [if_neg (show ¬ (false = true) by decide)] at H; exact H
            clear H
            have H := H1
            clear H1
            have H' := Aside0.mk H
            clear H
            have hnb28 := NB532_524.out
            have hnc28 := NB524_532.out
            have hcz29_0 : w16.cell? ⟨gb532, 0, none⟩ = some (.int .i64 t526) := (blk_cell BK532.out 0).trans rfl
            have hcz29_1 : w16.cell? ⟨gb532, 1, none⟩ = some (.int .i64 t527) := (blk_cell BK532.out 1).trans rfl
            have hcz29_2 : w16.cell? ⟨gb532, 2, none⟩ = some (.int .i64 t528) := (blk_cell BK532.out 2).trans rfl
            have hcz29_3 : w16.cell? ⟨gb532, 3, none⟩ = some (.int .i64 t529) := (blk_cell BK532.out 3).trans rfl
            have hcz29_4 : w16.cell? ⟨gb532, 4, none⟩ = some (.int .i64 t530) := (blk_cell BK532.out 4).trans rfl
            have hfz29_0 := blk_frozen BK532.out 0
            have hfz29_1 := blk_frozen BK532.out 1
            have hfz29_2 := blk_frozen BK532.out 2
            have hfz29_3 := blk_frozen BK532.out 3
            have hfz29_4 := blk_frozen BK532.out 4
            go_wp2_with (first | ((with_reducible refine gate_callee (f := 55) rfl ?_); refine goesL_ (some 25) rfl rfl Try.func55 (by kernel_rfl) rfl #[.int .i64 t526] rfl (by (try simp only [List.map_toArray, List.map_cons, List.map_nil]); first | done | rfl | (simp only [List.length_drop, List.length_take]; rfl)) ?_; (with_reducible refine (rotaref08_jumps.calls t526 false _ A17.out).mono ?_); rintro e w' ⟨rfl, ⟨nd, rfl⟩⟩; refine ⟨_, rfl, ?_⟩))
            go_meet
            case rel => exact ⟨_, (false), (by first | rfl | (simp; done) | (simp [*]; done)), H', ⟨by first | omega | exact Nat.le_refl _⟩, ⟨by (with_reducible repeat (first | refine blk_drewN ?_ _ | refine blk_drew ?_ | refine blk_alloc ?_ _)); exact BK524.out⟩, ⟨by (with_reducible repeat (first | refine blk_drewN ?_ _ | refine blk_drew ?_ | refine blk_alloc ?_ _)); exact BK532.out⟩, ⟨by repeat (first | (with_reducible first | exact HB.out | apply below_alloc | apply pw_below_drewN | apply below_drew1 | refine below_set ?_ GE524.out | refine below_set ?_ GE532.out) | exact HB.out)⟩⟩
        case rest =>
          clear HC8
          try clear c1
          try clear c2
          try clear p2
          try clear c3
          try clear c3b0
          try clear c4
          try clear c4b0
          try clear c5
          try clear p5
          try clear q5
          try clear hx5
          try clear c6
          try clear c6b0
          try clear c6b1
          try clear c13
          try clear c18
          try clear c19
          try clear c19b0
          try clear c20
          try clear c22
          try clear c24
          try clear c28
          try clear hcz10_0
          try clear hcz10_1
          try clear hcz10_2
          try clear hcz14_0
          try clear hcz14_1
          try clear hcz14_2
          try clear hcz14_3
          try clear hcz14_4
          try clear hcz15_0
          try clear hcz15_1
          try clear hcz15_2
          try clear hcz21_0
          try clear hcz21_1
          try clear hcz21_2
          try clear hcz21_3
          try clear hcz21_4
          try clear hcz22_0
          try clear hcz22_1
          try clear hcz22_2
          try clear hcz25_0
          try clear hcz25_1
          try clear hcz25_2
          try clear hcz25_3
          try clear hcz25_4
          try clear hcz26_0
          try clear hcz26_1
          try clear hcz26_2
          try clear hcz29_0
          try clear hcz29_1
          try clear hcz29_2
          try clear hcz29_3
          try clear hcz29_4
          try clear hfz10_0
          try clear hfz10_1
          try clear hfz10_2
          try clear hfz14_0
          try clear hfz14_1
          try clear hfz14_2
          try clear hfz14_3
          try clear hfz14_4
          try clear hfz15_0
          try clear hfz15_1
          try clear hfz15_2
          try clear hfz21_0
          try clear hfz21_1
          try clear hfz21_2
          try clear hfz21_3
          try clear hfz21_4
          try clear hfz22_0
          try clear hfz22_1
          try clear hfz22_2
          try clear hfz25_0
          try clear hfz25_1
          try clear hfz25_2
          try clear hfz25_3
          try clear hfz25_4
          try clear hfz26_0
          try clear hfz26_1
          try clear hfz26_2
          try clear hfz29_0
          try clear hfz29_1
          try clear hfz29_2
          try clear hfz29_3
          try clear hfz29_4
          try clear hx525_0
          try clear p525
          try clear q525
          obtain ⟨kq, x22_7, rfl, HA, HJ7, BK524, BK532, HB⟩ := hcut
          cases kq with
          | zero => exact absurd HA.out (by simp [rotaref08_wrong.j0])
          | succ kj7 =>
            have H := HA.out
            clear HA
            simp only [rotaref08_wrong.j0] at H
            by_cases c30 : x22_7 = true
            · subst c30
              have H1 : (some 82) = some r := by rw [if_pos rfl] at H; exact H
              clear H
              have H := H1
              clear H1
              obtain rfl := Option.some.inj H
              go_wp2
              go_ret
              exact ⟨by first | rfl | (simp [errW_none, errW_some] <;> rfl) | (simp [*, errW_none, errW_some] <;> rfl), by repeat (first | (with_reducible first | exact HB.out | apply below_alloc | apply pw_below_drewN | apply below_drew1 | refine below_set ?_ GE524.out | refine below_set ?_ GE532.out) | exact HB.out)⟩
            · replace c30 := Bool.eq_false_iff.mpr c30
              subst c30
              have H1 : (if t526 = 20 then (rotaref08_wrong.j1 kj7 a1 t533 (decide (t530 ≥ (l0_1.length : Int))) l0_0 l0_1 l0_2 t526 t527 t528 t529 t530) else (if t526 = 22 then (rotaref08_wrong.j1 kj7 a1 t533 (decide (t530 ≥ (l0_1.length : Int))) l0_0 l0_1 l0_2 t526 t527 t528 t529 t530) else (rotaref08_wrong.j1 kj7 a1 t533 false l0_0 l0_1 l0_2 t526 t527 t528 t529 t530))) = some r := by rw [if_neg (show ¬ (false = true) by decide)] at H; exact H
              clear H
              have H := H1
              clear H1
              have HC31 := Aside0.mk H
              clear H
              go_upto_region 7 with (fail)
              go_cut [42] (fun v42 wc => ∃ (kq : Nat) (x42_30 : Bool), v42 = .bool x42_30 ∧ Aside0 (rotaref08_wrong.j1 kq a1 t533 x42_30 l0_0 l0_1 l0_2 t526 t527 t528 t529 t530 = some r) ∧ Aside0 (kq ≤ kj7) ∧ Aside0 (wc.heap[gb524]? = some (.cells #[(.slice (some ad525) l0_0.length c0_0), (.slice A0_1 l0_1.length c0_1), (.slice A0_2 l0_2.length c0_2)] 26 (0, 0))) ∧ Aside0 (wc.heap[gb532]? = some (.cells #[.int .i64 t526, .int .i64 t527, .int .i64 t528, .int .i64 t529, .int .i64 t530] 37 (0, 0))) ∧ Aside0 (Below w.heap.size w wc))
              case first =>
                have H := HC31.out
                clear HC31
                by_cases c32 : t526 = 20
                · rw [if_pos c32] at H
                  have c32b0 : (t526 == 20) = true := beq_iff_eq.mpr c32
                  have c32b1 : (t526 != 20) = false := bne_eq_false_iff_eq.mpr c32
                  clear c32
                  (first | rw [c32b0] | (simp only [i64_w, i32_w]; rw [c32b0]) | skip)
                  have H' := Aside0.mk H
                  clear H
                  have hnb33 := NB532_524.out
                  have hnc33 := NB524_532.out
                  have hcz34_0 : wc.cell? ⟨gb532, 0, none⟩ = some (.int .i64 t526) := (blk_cell BK532.out 0).trans rfl
                  have hcz34_1 : wc.cell? ⟨gb532, 1, none⟩ = some (.int .i64 t527) := (blk_cell BK532.out 1).trans rfl
                  have hcz34_2 : wc.cell? ⟨gb532, 2, none⟩ = some (.int .i64 t528) := (blk_cell BK532.out 2).trans rfl
                  have hcz34_3 : wc.cell? ⟨gb532, 3, none⟩ = some (.int .i64 t529) := (blk_cell BK532.out 3).trans rfl
                  have hcz34_4 : wc.cell? ⟨gb532, 4, none⟩ = some (.int .i64 t530) := (blk_cell BK532.out 4).trans rfl
                  have hfz34_0 := blk_frozen BK532.out 0
                  have hfz34_1 := blk_frozen BK532.out 1
                  have hfz34_2 := blk_frozen BK532.out 2
                  have hfz34_3 := blk_frozen BK532.out 3
                  have hfz34_4 := blk_frozen BK532.out 4
                  have hcz35_0 : wc.cell? ⟨gb524, 0, none⟩ = some (.slice (some ad525) l0_0.length c0_0) := (blk_cell BK524.out 0).trans rfl
                  have hcz35_1 : wc.cell? ⟨gb524, 1, none⟩ = some (.slice A0_1 l0_1.length c0_1) := (blk_cell BK524.out 1).trans rfl
                  have hcz35_2 : wc.cell? ⟨gb524, 2, none⟩ = some (.slice A0_2 l0_2.length c0_2) := (blk_cell BK524.out 2).trans rfl
                  have hfz35_0 := blk_frozen BK524.out 0
                  have hfz35_1 := blk_frozen BK524.out 1
                  have hfz35_2 := blk_frozen BK524.out 2
                  go_wp2
                  go_meet
                  case rel => exact ⟨_, (decide (t530 ≥ (l0_1.length : Int))), (by first | rfl | (simp; done) | (simp [*]; done)), H', ⟨by have := HJ7.out; first | omega | exact Nat.le_refl _⟩, ⟨by (with_reducible repeat (first | refine blk_drewN ?_ _ | refine blk_drew ?_ | refine blk_alloc ?_ _)); exact BK524.out⟩, ⟨by (with_reducible repeat (first | refine blk_drewN ?_ _ | refine blk_drew ?_ | refine blk_alloc ?_ _)); exact BK532.out⟩, ⟨by repeat (first | (with_reducible first | exact HB.out | apply below_alloc | apply pw_below_drewN | apply below_drew1 | refine below_set ?_ GE524.out | refine below_set ?_ GE532.out) | exact HB.out)⟩⟩
                · rw [if_neg c32] at H
                  have c32b0 : (t526 == 20) = false := beq_eq_false_iff_ne.mpr c32
                  have c32b1 : (t526 != 20) = true := bne_iff_ne.mpr c32
                  (first | rw [c32b0] | (simp only [i64_w, i32_w]; rw [c32b0]) | skip)
                  by_cases c36 : t526 = 22
                  · rw [if_pos c36] at H
                    have c36b0 : (t526 == 22) = true := beq_iff_eq.mpr c36
                    have c36b1 : (t526 != 22) = false := bne_eq_false_iff_eq.mpr c36
                    clear c36
                    have H' := Aside0.mk H
                    clear H
                    have hnb37 := NB532_524.out
                    have hnc37 := NB524_532.out
                    have hcz38_0 : wc.cell? ⟨gb532, 0, none⟩ = some (.int .i64 t526) := (blk_cell BK532.out 0).trans rfl
                    have hcz38_1 : wc.cell? ⟨gb532, 1, none⟩ = some (.int .i64 t527) := (blk_cell BK532.out 1).trans rfl
                    have hcz38_2 : wc.cell? ⟨gb532, 2, none⟩ = some (.int .i64 t528) := (blk_cell BK532.out 2).trans rfl
                    have hcz38_3 : wc.cell? ⟨gb532, 3, none⟩ = some (.int .i64 t529) := (blk_cell BK532.out 3).trans rfl
                    have hcz38_4 : wc.cell? ⟨gb532, 4, none⟩ = some (.int .i64 t530) := (blk_cell BK532.out 4).trans rfl
                    have hfz38_0 := blk_frozen BK532.out 0
                    have hfz38_1 := blk_frozen BK532.out 1
                    have hfz38_2 := blk_frozen BK532.out 2
                    have hfz38_3 := blk_frozen BK532.out 3
                    have hfz38_4 := blk_frozen BK532.out 4
                    have hcz39_0 : wc.cell? ⟨gb524, 0, none⟩ = some (.slice (some ad525) l0_0.length c0_0) := (blk_cell BK524.out 0).trans rfl
                    have hcz39_1 : wc.cell? ⟨gb524, 1, none⟩ = some (.slice A0_1 l0_1.length c0_1) := (blk_cell BK524.out 1).trans rfl
                    have hcz39_2 : wc.cell? ⟨gb524, 2, none⟩ = some (.slice A0_2 l0_2.length c0_2) := (blk_cell BK524.out 2).trans rfl
                    have hfz39_0 := blk_frozen BK524.out 0
                    have hfz39_1 := blk_frozen BK524.out 1
                    have hfz39_2 := blk_frozen BK524.out 2
                    go_wp2
                    go_meet
                    case rel => exact ⟨_, (decide (t530 ≥ (l0_1.length : Int))), (by first | rfl | (simp; done) | (simp [*]; done)), H', ⟨by have := HJ7.out; first | omega | exact Nat.le_refl _⟩, ⟨by (with_reducible repeat (first | refine blk_drewN ?_ _ | refine blk_drew ?_ | refine blk_alloc ?_ _)); exact BK524.out⟩, ⟨by (with_reducible repeat (first | refine blk_drewN ?_ _ | refine blk_drew ?_ | refine blk_alloc ?_ _)); exact BK532.out⟩, ⟨by repeat (first | (with_reducible first | exact HB.out | apply below_alloc | apply pw_below_drewN | apply below_drew1 | refine below_set ?_ GE524.out | refine below_set ?_ GE532.out) | exact HB.out)⟩⟩
                  · rw [if_neg c36] at H
                    have c36b0 : (t526 == 22) = false := beq_eq_false_iff_ne.mpr c36
                    have c36b1 : (t526 != 22) = true := bne_iff_ne.mpr c36
                    have H' := Aside0.mk H
                    clear H
                    have hnb40 := NB532_524.out
                    have hnc40 := NB524_532.out
                    have hcz41_0 : wc.cell? ⟨gb532, 0, none⟩ = some (.int .i64 t526) := (blk_cell BK532.out 0).trans rfl
                    have hcz41_1 : wc.cell? ⟨gb532, 1, none⟩ = some (.int .i64 t527) := (blk_cell BK532.out 1).trans rfl
                    have hcz41_2 : wc.cell? ⟨gb532, 2, none⟩ = some (.int .i64 t528) := (blk_cell BK532.out 2).trans rfl
                    have hcz41_3 : wc.cell? ⟨gb532, 3, none⟩ = some (.int .i64 t529) := (blk_cell BK532.out 3).trans rfl
                    have hcz41_4 : wc.cell? ⟨gb532, 4, none⟩ = some (.int .i64 t530) := (blk_cell BK532.out 4).trans rfl
                    have hfz41_0 := blk_frozen BK532.out 0
                    have hfz41_1 := blk_frozen BK532.out 1
                    have hfz41_2 := blk_frozen BK532.out 2
                    have hfz41_3 := blk_frozen BK532.out 3
                    have hfz41_4 := blk_frozen BK532.out 4
                    go_wp2
                    go_meet
                    case rel => exact ⟨_, (false), (by first | rfl | (simp; done) | (simp [*]; done)), H', ⟨by have := HJ7.out; first | omega | exact Nat.le_refl _⟩, ⟨by (with_reducible repeat (first | refine blk_drewN ?_ _ | refine blk_drew ?_ | refine blk_alloc ?_ _)); exact BK524.out⟩, ⟨by (with_reducible repeat (first | refine blk_drewN ?_ _ | refine blk_drew ?_ | refine blk_alloc ?_ _)); exact BK532.out⟩, ⟨by repeat (first | (with_reducible first | exact HB.out | apply below_alloc | apply pw_below_drewN | apply below_drew1 | refine below_set ?_ GE524.out | refine below_set ?_ GE532.out) | exact HB.out)⟩⟩
              case rest =>
                clear HC31
                try clear c1
                try clear c2
                try clear p2
                try clear c3
                try clear c3b0
                try clear c4
                try clear c4b0
                try clear c5
                try clear p5
                try clear q5
                try clear hx5
                try clear c6
                try clear c6b0
                try clear c6b1
                try clear c13
                try clear c18
                try clear c19
                try clear c19b0
                try clear c20
                try clear c22
                try clear c24
                try clear c28
                try clear c30
                try clear c32
                try clear c32b0
                try clear c32b1
                try clear c33
                try clear c36
                try clear c36b0
                try clear c36b1
                try clear c37
                try clear c40
                try clear hcz10_0
                try clear hcz10_1
                try clear hcz10_2
                try clear hcz14_0
                try clear hcz14_1
                try clear hcz14_2
                try clear hcz14_3
                try clear hcz14_4
                try clear hcz15_0
                try clear hcz15_1
                try clear hcz15_2
                try clear hcz21_0
                try clear hcz21_1
                try clear hcz21_2
                try clear hcz21_3
                try clear hcz21_4
                try clear hcz22_0
                try clear hcz22_1
                try clear hcz22_2
                try clear hcz25_0
                try clear hcz25_1
                try clear hcz25_2
                try clear hcz25_3
                try clear hcz25_4
                try clear hcz26_0
                try clear hcz26_1
                try clear hcz26_2
                try clear hcz29_0
                try clear hcz29_1
                try clear hcz29_2
                try clear hcz29_3
                try clear hcz29_4
                try clear hcz34_0
                try clear hcz34_1
                try clear hcz34_2
                try clear hcz34_3
                try clear hcz34_4
                try clear hcz35_0
                try clear hcz35_1
                try clear hcz35_2
                try clear hcz38_0
                try clear hcz38_1
                try clear hcz38_2
                try clear hcz38_3
                try clear hcz38_4
                try clear hcz39_0
                try clear hcz39_1
                try clear hcz39_2
                try clear hcz41_0
                try clear hcz41_1
                try clear hcz41_2
                try clear hcz41_3
                try clear hcz41_4
                try clear hfz10_0
                try clear hfz10_1
                try clear hfz10_2
                try clear hfz14_0
                try clear hfz14_1
                try clear hfz14_2
                try clear hfz14_3
                try clear hfz14_4
                try clear hfz15_0
                try clear hfz15_1
                try clear hfz15_2
                try clear hfz21_0
                try clear hfz21_1
                try clear hfz21_2
                try clear hfz21_3
                try clear hfz21_4
                try clear hfz22_0
                try clear hfz22_1
                try clear hfz22_2
                try clear hfz25_0
                try clear hfz25_1
                try clear hfz25_2
                try clear hfz25_3
                try clear hfz25_4
                try clear hfz26_0
                try clear hfz26_1
                try clear hfz26_2
                try clear hfz29_0
                try clear hfz29_1
                try clear hfz29_2
                try clear hfz29_3
                try clear hfz29_4
                try clear hfz34_0
                try clear hfz34_1
                try clear hfz34_2
                try clear hfz34_3
                try clear hfz34_4
                try clear hfz35_0
                try clear hfz35_1
                try clear hfz35_2
                try clear hfz38_0
                try clear hfz38_1
                try clear hfz38_2
                try clear hfz38_3
                try clear hfz38_4
                try clear hfz39_0
                try clear hfz39_1
                try clear hfz39_2
                try clear hfz41_0
                try clear hfz41_1
                try clear hfz41_2
                try clear hfz41_3
                try clear hfz41_4
                try clear hx525_0
                try clear p2
                try clear p5
                try clear p525
                try clear q5
                try clear q525
                obtain ⟨kq, x42_30, rfl, HA, HJ30, BK524, BK532, HB⟩ := hcut
                cases kq with
                | zero => exact absurd HA.out (by simp [rotaref08_wrong.j1])
                | succ kj30 =>
                  have H := HA.out
                  clear HA
                  simp only [rotaref08_wrong.j1] at H
                  by_cases c42 : x42_30 = true
                  · subst c42
                    have H1 : (some 81) = some r := by rw [if_pos rfl] at H; exact H
                    clear H
                    have H := H1
                    clear H1
                    obtain rfl := Option.some.inj H
                    go_wp2
                    go_ret
                    exact ⟨by first | rfl | (simp [errW_none, errW_some] <;> rfl) | (simp [*, errW_none, errW_some] <;> rfl), by repeat (first | (with_reducible first | exact HB.out | apply below_alloc | apply pw_below_drewN | apply below_drew1 | refine below_set ?_ GE524.out | refine below_set ?_ GE532.out) | exact HB.out)⟩
                  · replace c42 := Bool.eq_false_iff.mpr c42
                    subst c42
                    have H1 : (if t526 = 34 then (rotaref08_wrong.j2 kj30 a1 t533 (decide (t530 ≥ (l0_2.length : Int))) l0_0 l0_1 l0_2 t526 t527 t528 t529 t530) else (rotaref08_wrong.j2 kj30 a1 t533 false l0_0 l0_1 l0_2 t526 t527 t528 t529 t530)) = some r := by rw [if_neg (show ¬ (false = true) by decide)] at H; exact H
                    clear H
                    have H := H1
                    clear H1
                    have HC43 := Aside0.mk H
                    clear H
                    go_upto_region 9 with (fail)
                    go_cut [59] (fun v59 wc => ∃ (kq : Nat) (x59_42 : Bool), v59 = .bool x59_42 ∧ Aside0 (rotaref08_wrong.j2 kq a1 t533 x59_42 l0_0 l0_1 l0_2 t526 t527 t528 t529 t530 = some r) ∧ Aside0 (kq ≤ kj30) ∧ Aside0 (wc.heap[gb524]? = some (.cells #[(.slice (some ad525) l0_0.length c0_0), (.slice A0_1 l0_1.length c0_1), (.slice A0_2 l0_2.length c0_2)] 26 (0, 0))) ∧ Aside0 (wc.heap[gb532]? = some (.cells #[.int .i64 t526, .int .i64 t527, .int .i64 t528, .int .i64 t529, .int .i64 t530] 37 (0, 0))) ∧ Aside0 (Below w.heap.size w wc))
                    case first =>
                      have H := HC43.out
                      clear HC43
                      by_cases c44 : t526 = 34
                      · rw [if_pos c44] at H
                        have c44b0 : (t526 == 34) = true := beq_iff_eq.mpr c44
                        have c44b1 : (t526 != 34) = false := bne_eq_false_iff_eq.mpr c44
                        clear c44
                        (first | rw [c44b0] | (simp only [i64_w, i32_w]; rw [c44b0]) | skip)
                        have H' := Aside0.mk H
                        clear H
                        have hnb45 := NB532_524.out
                        have hnc45 := NB524_532.out
                        have hcz46_0 : wc.cell? ⟨gb532, 0, none⟩ = some (.int .i64 t526) := (blk_cell BK532.out 0).trans rfl
                        have hcz46_1 : wc.cell? ⟨gb532, 1, none⟩ = some (.int .i64 t527) := (blk_cell BK532.out 1).trans rfl
                        have hcz46_2 : wc.cell? ⟨gb532, 2, none⟩ = some (.int .i64 t528) := (blk_cell BK532.out 2).trans rfl
                        have hcz46_3 : wc.cell? ⟨gb532, 3, none⟩ = some (.int .i64 t529) := (blk_cell BK532.out 3).trans rfl
                        have hcz46_4 : wc.cell? ⟨gb532, 4, none⟩ = some (.int .i64 t530) := (blk_cell BK532.out 4).trans rfl
                        have hfz46_0 := blk_frozen BK532.out 0
                        have hfz46_1 := blk_frozen BK532.out 1
                        have hfz46_2 := blk_frozen BK532.out 2
                        have hfz46_3 := blk_frozen BK532.out 3
                        have hfz46_4 := blk_frozen BK532.out 4
                        have hcz47_0 : wc.cell? ⟨gb524, 0, none⟩ = some (.slice (some ad525) l0_0.length c0_0) := (blk_cell BK524.out 0).trans rfl
                        have hcz47_1 : wc.cell? ⟨gb524, 1, none⟩ = some (.slice A0_1 l0_1.length c0_1) := (blk_cell BK524.out 1).trans rfl
                        have hcz47_2 : wc.cell? ⟨gb524, 2, none⟩ = some (.slice A0_2 l0_2.length c0_2) := (blk_cell BK524.out 2).trans rfl
                        have hfz47_0 := blk_frozen BK524.out 0
                        have hfz47_1 := blk_frozen BK524.out 1
                        have hfz47_2 := blk_frozen BK524.out 2
                        go_wp2
                        go_meet
                        case rel => exact ⟨_, (decide (t530 ≥ (l0_2.length : Int))), (by first | rfl | (simp; done) | (simp [*]; done)), H', ⟨by have := HJ7.out; have := HJ30.out; first | omega | exact Nat.le_refl _⟩, ⟨by (with_reducible repeat (first | refine blk_drewN ?_ _ | refine blk_drew ?_ | refine blk_alloc ?_ _)); exact BK524.out⟩, ⟨by (with_reducible repeat (first | refine blk_drewN ?_ _ | refine blk_drew ?_ | refine blk_alloc ?_ _)); exact BK532.out⟩, ⟨by repeat (first | (with_reducible first | exact HB.out | apply below_alloc | apply pw_below_drewN | apply below_drew1 | refine below_set ?_ GE524.out | refine below_set ?_ GE532.out) | exact HB.out)⟩⟩
                      · rw [if_neg c44] at H
                        have c44b0 : (t526 == 34) = false := beq_eq_false_iff_ne.mpr c44
                        have c44b1 : (t526 != 34) = true := bne_iff_ne.mpr c44
                        (first | rw [c44b0] | (simp only [i64_w, i32_w]; rw [c44b0]) | skip)
                        have H' := Aside0.mk H
                        clear H
                        have hnb48 := NB532_524.out
                        have hnc48 := NB524_532.out
                        have hcz49_0 : wc.cell? ⟨gb532, 0, none⟩ = some (.int .i64 t526) := (blk_cell BK532.out 0).trans rfl
                        have hcz49_1 : wc.cell? ⟨gb532, 1, none⟩ = some (.int .i64 t527) := (blk_cell BK532.out 1).trans rfl
                        have hcz49_2 : wc.cell? ⟨gb532, 2, none⟩ = some (.int .i64 t528) := (blk_cell BK532.out 2).trans rfl
                        have hcz49_3 : wc.cell? ⟨gb532, 3, none⟩ = some (.int .i64 t529) := (blk_cell BK532.out 3).trans rfl
                        have hcz49_4 : wc.cell? ⟨gb532, 4, none⟩ = some (.int .i64 t530) := (blk_cell BK532.out 4).trans rfl
                        have hfz49_0 := blk_frozen BK532.out 0
                        have hfz49_1 := blk_frozen BK532.out 1
                        have hfz49_2 := blk_frozen BK532.out 2
                        have hfz49_3 := blk_frozen BK532.out 3
                        have hfz49_4 := blk_frozen BK532.out 4
                        go_wp2
                        go_meet
                        case rel => exact ⟨_, (false), (by first | rfl | (simp; done) | (simp [*]; done)), H', ⟨by have := HJ7.out; have := HJ30.out; first | omega | exact Nat.le_refl _⟩, ⟨by (with_reducible repeat (first | refine blk_drewN ?_ _ | refine blk_drew ?_ | refine blk_alloc ?_ _)); exact BK524.out⟩, ⟨by (with_reducible repeat (first | refine blk_drewN ?_ _ | refine blk_drew ?_ | refine blk_alloc ?_ _)); exact BK532.out⟩, ⟨by repeat (first | (with_reducible first | exact HB.out | apply below_alloc | apply pw_below_drewN | apply below_drew1 | refine below_set ?_ GE524.out | refine below_set ?_ GE532.out) | exact HB.out)⟩⟩
                    case rest =>
                      clear HC43
                      try clear c1
                      try clear c2
                      try clear p2
                      try clear c3
                      try clear c3b0
                      try clear c4
                      try clear c4b0
                      try clear c5
                      try clear p5
                      try clear q5
                      try clear hx5
                      try clear c6
                      try clear c6b0
                      try clear c6b1
                      try clear c13
                      try clear c18
                      try clear c19
                      try clear c19b0
                      try clear c20
                      try clear c22
                      try clear c24
                      try clear c28
                      try clear c30
                      try clear c32
                      try clear c32b0
                      try clear c32b1
                      try clear c33
                      try clear c36
                      try clear c36b0
                      try clear c36b1
                      try clear c37
                      try clear c40
                      try clear c42
                      try clear c44
                      try clear c44b0
                      try clear c44b1
                      try clear c45
                      try clear c47
                      try clear c48
                      try clear hcz10_0
                      try clear hcz10_1
                      try clear hcz10_2
                      try clear hcz14_0
                      try clear hcz14_1
                      try clear hcz14_2
                      try clear hcz14_3
                      try clear hcz14_4
                      try clear hcz15_0
                      try clear hcz15_1
                      try clear hcz15_2
                      try clear hcz21_0
                      try clear hcz21_1
                      try clear hcz21_2
                      try clear hcz21_3
                      try clear hcz21_4
                      try clear hcz22_0
                      try clear hcz22_1
                      try clear hcz22_2
                      try clear hcz25_0
                      try clear hcz25_1
                      try clear hcz25_2
                      try clear hcz25_3
                      try clear hcz25_4
                      try clear hcz26_0
                      try clear hcz26_1
                      try clear hcz26_2
                      try clear hcz29_0
                      try clear hcz29_1
                      try clear hcz29_2
                      try clear hcz29_3
                      try clear hcz29_4
                      try clear hcz34_0
                      try clear hcz34_1
                      try clear hcz34_2
                      try clear hcz34_3
                      try clear hcz34_4
                      try clear hcz35_0
                      try clear hcz35_1
                      try clear hcz35_2
                      try clear hcz38_0
                      try clear hcz38_1
                      try clear hcz38_2
                      try clear hcz38_3
                      try clear hcz38_4
                      try clear hcz39_0
                      try clear hcz39_1
                      try clear hcz39_2
                      try clear hcz41_0
                      try clear hcz41_1
                      try clear hcz41_2
                      try clear hcz41_3
                      try clear hcz41_4
                      try clear hcz46_0
                      try clear hcz46_1
                      try clear hcz46_2
                      try clear hcz46_3
                      try clear hcz46_4
                      try clear hcz47_0
                      try clear hcz47_1
                      try clear hcz47_2
                      try clear hcz49_0
                      try clear hcz49_1
                      try clear hcz49_2
                      try clear hcz49_3
                      try clear hcz49_4
                      try clear hfz10_0
                      try clear hfz10_1
                      try clear hfz10_2
                      try clear hfz14_0
                      try clear hfz14_1
                      try clear hfz14_2
                      try clear hfz14_3
                      try clear hfz14_4
                      try clear hfz15_0
                      try clear hfz15_1
                      try clear hfz15_2
                      try clear hfz21_0
                      try clear hfz21_1
                      try clear hfz21_2
                      try clear hfz21_3
                      try clear hfz21_4
                      try clear hfz22_0
                      try clear hfz22_1
                      try clear hfz22_2
                      try clear hfz25_0
                      try clear hfz25_1
                      try clear hfz25_2
                      try clear hfz25_3
                      try clear hfz25_4
                      try clear hfz26_0
                      try clear hfz26_1
                      try clear hfz26_2
                      try clear hfz29_0
                      try clear hfz29_1
                      try clear hfz29_2
                      try clear hfz29_3
                      try clear hfz29_4
                      try clear hfz34_0
                      try clear hfz34_1
                      try clear hfz34_2
                      try clear hfz34_3
                      try clear hfz34_4
                      try clear hfz35_0
                      try clear hfz35_1
                      try clear hfz35_2
                      try clear hfz38_0
                      try clear hfz38_1
                      try clear hfz38_2
                      try clear hfz38_3
                      try clear hfz38_4
                      try clear hfz39_0
                      try clear hfz39_1
                      try clear hfz39_2
                      try clear hfz41_0
                      try clear hfz41_1
                      try clear hfz41_2
                      try clear hfz41_3
                      try clear hfz41_4
                      try clear hfz46_0
                      try clear hfz46_1
                      try clear hfz46_2
                      try clear hfz46_3
                      try clear hfz46_4
                      try clear hfz47_0
                      try clear hfz47_1
                      try clear hfz47_2
                      try clear hfz49_0
                      try clear hfz49_1
                      try clear hfz49_2
                      try clear hfz49_3
                      try clear hfz49_4
                      try clear hx525_0
                      try clear p2
                      try clear p5
                      try clear p525
                      try clear q5
                      try clear q525
                      obtain ⟨kq, x59_42, rfl, HA, HJ42, BK524, BK532, HB⟩ := hcut
                      cases kq with
                      | zero => exact absurd HA.out (by simp [rotaref08_wrong.j2])
                      | succ kj42 =>
                        have H := HA.out
                        clear HA
                        simp only [rotaref08_wrong.j2] at H
                        by_cases c50 : x59_42 = true
                        · subst c50
                          have H1 : (some 83) = some r := by rw [if_pos rfl] at H; exact H
                          clear H
                          have H := H1
                          clear H1
                          obtain rfl := Option.some.inj H
                          go_wp2
                          go_ret
                          exact ⟨by first | rfl | (simp [errW_none, errW_some] <;> rfl) | (simp [*, errW_none, errW_some] <;> rfl), by repeat (first | (with_reducible first | exact HB.out | apply below_alloc | apply pw_below_drewN | apply below_drew1 | refine below_set ?_ GE524.out | refine below_set ?_ GE532.out) | exact HB.out)⟩
                        · replace c50 := Bool.eq_false_iff.mpr c50
                          subst c50
                          have H1 : (if 0 ≤ t533 then (if t533 < (l0_1.length : Int) then (if a1 = (wrap64 (((rd_T75 l0_1 t533).f1) - 1)) then ((rotaref08_ends.f t526).bind fun t537 => (if t537 = true then (some 0) else (some 84))) else (some 0)) else (none)) else (none)) = some r := by rw [if_neg (show ¬ (false = true) by decide)] at H; exact H
                          clear H
                          have H := H1
                          clear H1
                          by_cases c51 : 0 ≤ t533
                          · rw [if_pos c51] at H
                            have c51b0 : decide (0 ≤ t533) = true := decide_eq_true c51
                            clear c51
                            by_cases c52 : t533 < (l0_1.length : Int)
                            · rw [if_pos c52] at H
                              have c52b0 : decide (t533 < (l0_1.length : Int)) = true := decide_eq_true c52
                              clear c52
                              by_cases c53 : a1 = (wrap64 (((rd_T75 l0_1 t533).f1) - 1))
                              · rw [if_pos c53] at H
                                have c53b0 : (a1 == (wrap64 (((rd_T75 l0_1 t533).f1) - 1))) = true := beq_iff_eq.mpr c53
                                have c53b1 : (a1 != (wrap64 (((rd_T75 l0_1 t533).f1) - 1))) = false := bne_eq_false_iff_eq.mpr c53
                                clear c53
                                replace H := Option.bind_eq_some_iff.mp H
                                obtain ⟨t537, A540, H⟩ := H
                                replace H : (if t537 = true then (some 0) else (some 84)) = some r := H
                                have A54 := Aside0.mk A540
                                clear A540
                                by_cases c55 : t537 = true
                                · subst c55
                                  have H1 : (some 0) = some r := by rw [if_pos rfl] at H; exact H
                                  clear H
                                  have H := H1
                                  clear H1
                                  obtain rfl := Option.some.inj H
                                  have hnb56 := NB524_532.out
                                  have hnc56 := NB532_524.out
                                  have hcz57_0 : wc.cell? ⟨gb524, 0, none⟩ = some (.slice (some ad525) l0_0.length c0_0) := (blk_cell BK524.out 0).trans rfl
                                  have hcz57_1 : wc.cell? ⟨gb524, 1, none⟩ = some (.slice A0_1 l0_1.length c0_1) := (blk_cell BK524.out 1).trans rfl
                                  have hcz57_2 : wc.cell? ⟨gb524, 2, none⟩ = some (.slice A0_2 l0_2.length c0_2) := (blk_cell BK524.out 2).trans rfl
                                  have hfz57_0 := blk_frozen BK524.out 0
                                  have hfz57_1 := blk_frozen BK524.out 1
                                  have hfz57_2 := blk_frozen BK524.out 2
                                  have p536 : 0 ≤ (t533 : Int) := of_decide_eq_true (by first | (with_reducible assumption) | assumption)
                                  have q536 : t533 < (l0_1.length : Int) := of_decide_eq_true (by first | (with_reducible assumption) | assumption)
                                  obtain ⟨ad536, e536, hx536_0, hx536_1⟩ := at_T75 HR0_1.out t533 p536 q536
                                  cases e536
                                  replace hx536_0 := (HB.out.cell (World.block_lt_of_cell? w _ hx536_0)).trans hx536_0
                                  replace hx536_1 := (HB.out.cell (World.block_lt_of_cell? w _ hx536_1)).trans hx536_1
                                  replace p536 := eq_true p536
                                  replace q536 := eq_true q536
                                  have hcz58_0 : wc.cell? ⟨gb532, 0, none⟩ = some (.int .i64 t526) := (blk_cell BK532.out 0).trans rfl
                                  have hcz58_1 : wc.cell? ⟨gb532, 1, none⟩ = some (.int .i64 t527) := (blk_cell BK532.out 1).trans rfl
                                  have hcz58_2 : wc.cell? ⟨gb532, 2, none⟩ = some (.int .i64 t528) := (blk_cell BK532.out 2).trans rfl
                                  have hcz58_3 : wc.cell? ⟨gb532, 3, none⟩ = some (.int .i64 t529) := (blk_cell BK532.out 3).trans rfl
                                  have hcz58_4 : wc.cell? ⟨gb532, 4, none⟩ = some (.int .i64 t530) := (blk_cell BK532.out 4).trans rfl
                                  have hfz58_0 := blk_frozen BK532.out 0
                                  have hfz58_1 := blk_frozen BK532.out 1
                                  have hfz58_2 := blk_frozen BK532.out 2
                                  have hfz58_3 := blk_frozen BK532.out 3
                                  have hfz58_4 := blk_frozen BK532.out 4
                                  go_wp2_with (first | (go_at_call 56; (with_reducible refine (rotaref08_ends.calls t526 true _ A54.out).mono ?_); rintro e w' ⟨rfl, ⟨nd, rfl⟩⟩))
                                  go_ret
                                  exact ⟨by first | rfl | (simp [errW_none, errW_some] <;> rfl) | (simp [*, errW_none, errW_some] <;> rfl), by repeat (first | (with_reducible first | exact HB.out | apply below_alloc | apply pw_below_drewN | apply below_drew1 | refine below_set ?_ GE524.out | refine below_set ?_ GE532.out) | exact HB.out)⟩
                                · replace c55 := Bool.eq_false_iff.mpr c55
                                  subst c55
                                  have H1 : (some 84) = some r := by rw [if_neg (show ¬ (false = true) by decide)] at H; exact H
                                  clear H
                                  have H := H1
                                  clear H1
                                  obtain rfl := Option.some.inj H
                                  have hnb59 := NB524_532.out
                                  have hnc59 := NB532_524.out
                                  have hcz60_0 : wc.cell? ⟨gb524, 0, none⟩ = some (.slice (some ad525) l0_0.length c0_0) := (blk_cell BK524.out 0).trans rfl
                                  have hcz60_1 : wc.cell? ⟨gb524, 1, none⟩ = some (.slice A0_1 l0_1.length c0_1) := (blk_cell BK524.out 1).trans rfl
                                  have hcz60_2 : wc.cell? ⟨gb524, 2, none⟩ = some (.slice A0_2 l0_2.length c0_2) := (blk_cell BK524.out 2).trans rfl
                                  have hfz60_0 := blk_frozen BK524.out 0
                                  have hfz60_1 := blk_frozen BK524.out 1
                                  have hfz60_2 := blk_frozen BK524.out 2
                                  have p536 : 0 ≤ (t533 : Int) := of_decide_eq_true (by first | (with_reducible assumption) | assumption)
                                  have q536 : t533 < (l0_1.length : Int) := of_decide_eq_true (by first | (with_reducible assumption) | assumption)
                                  obtain ⟨ad536, e536, hx536_0, hx536_1⟩ := at_T75 HR0_1.out t533 p536 q536
                                  cases e536
                                  replace hx536_0 := (HB.out.cell (World.block_lt_of_cell? w _ hx536_0)).trans hx536_0
                                  replace hx536_1 := (HB.out.cell (World.block_lt_of_cell? w _ hx536_1)).trans hx536_1
                                  replace p536 := eq_true p536
                                  replace q536 := eq_true q536
                                  have hcz61_0 : wc.cell? ⟨gb532, 0, none⟩ = some (.int .i64 t526) := (blk_cell BK532.out 0).trans rfl
                                  have hcz61_1 : wc.cell? ⟨gb532, 1, none⟩ = some (.int .i64 t527) := (blk_cell BK532.out 1).trans rfl
                                  have hcz61_2 : wc.cell? ⟨gb532, 2, none⟩ = some (.int .i64 t528) := (blk_cell BK532.out 2).trans rfl
                                  have hcz61_3 : wc.cell? ⟨gb532, 3, none⟩ = some (.int .i64 t529) := (blk_cell BK532.out 3).trans rfl
                                  have hcz61_4 : wc.cell? ⟨gb532, 4, none⟩ = some (.int .i64 t530) := (blk_cell BK532.out 4).trans rfl
                                  have hfz61_0 := blk_frozen BK532.out 0
                                  have hfz61_1 := blk_frozen BK532.out 1
                                  have hfz61_2 := blk_frozen BK532.out 2
                                  have hfz61_3 := blk_frozen BK532.out 3
                                  have hfz61_4 := blk_frozen BK532.out 4
                                  go_wp2_with (first | (go_at_call 56; (with_reducible refine (rotaref08_ends.calls t526 false _ A54.out).mono ?_); rintro e w' ⟨rfl, ⟨nd, rfl⟩⟩))
                                  go_ret
                                  exact ⟨by first | rfl | (simp [errW_none, errW_some] <;> rfl) | (simp [*, errW_none, errW_some] <;> rfl), by repeat (first | (with_reducible first | exact HB.out | apply below_alloc | apply pw_below_drewN | apply below_drew1 | refine below_set ?_ GE524.out | refine below_set ?_ GE532.out) | exact HB.out)⟩
                              · rw [if_neg c53] at H
                                have c53b0 : (a1 == (wrap64 (((rd_T75 l0_1 t533).f1) - 1))) = false := beq_eq_false_iff_ne.mpr c53
                                have c53b1 : (a1 != (wrap64 (((rd_T75 l0_1 t533).f1) - 1))) = true := bne_iff_ne.mpr c53
                                obtain rfl := Option.some.inj H
                                have hnb62 := NB524_532.out
                                have hnc62 := NB532_524.out
                                have hcz63_0 : wc.cell? ⟨gb524, 0, none⟩ = some (.slice (some ad525) l0_0.length c0_0) := (blk_cell BK524.out 0).trans rfl
                                have hcz63_1 : wc.cell? ⟨gb524, 1, none⟩ = some (.slice A0_1 l0_1.length c0_1) := (blk_cell BK524.out 1).trans rfl
                                have hcz63_2 : wc.cell? ⟨gb524, 2, none⟩ = some (.slice A0_2 l0_2.length c0_2) := (blk_cell BK524.out 2).trans rfl
                                have hfz63_0 := blk_frozen BK524.out 0
                                have hfz63_1 := blk_frozen BK524.out 1
                                have hfz63_2 := blk_frozen BK524.out 2
                                have p536 : 0 ≤ (t533 : Int) := of_decide_eq_true (by first | (with_reducible assumption) | assumption)
                                have q536 : t533 < (l0_1.length : Int) := of_decide_eq_true (by first | (with_reducible assumption) | assumption)
                                obtain ⟨ad536, e536, hx536_0, hx536_1⟩ := at_T75 HR0_1.out t533 p536 q536
                                cases e536
                                replace hx536_0 := (HB.out.cell (World.block_lt_of_cell? w _ hx536_0)).trans hx536_0
                                replace hx536_1 := (HB.out.cell (World.block_lt_of_cell? w _ hx536_1)).trans hx536_1
                                replace p536 := eq_true p536
                                replace q536 := eq_true q536
                                go_wp2
                                go_ret
                                exact ⟨by first | rfl | (simp [errW_none, errW_some] <;> rfl) | (simp [*, errW_none, errW_some] <;> rfl), by repeat (first | (with_reducible first | exact HB.out | apply below_alloc | apply pw_below_drewN | apply below_drew1 | refine below_set ?_ GE524.out | refine below_set ?_ GE532.out) | exact HB.out)⟩
                            · rw [if_neg c52] at H
                              exact absurd H (by simp)
                          · rw [if_neg c51] at H
                            exact absurd H (by simp)
      · rw [if_neg c6] at H
        have c6b0 : (t531 == 0) = false := beq_eq_false_iff_ne.mpr c6
        have c6b1 : (t531 != 0) = true := bne_iff_ne.mpr c6
        obtain rfl := Option.some.inj H
        go_enter Try.func47, Try.ntmps47
        go_wp2_with (first | ((with_reducible refine gate_dst (N := 2) rfl ?_); (try (refine gate_guard (by rfl) ?_; dsimp only)); refine box_event ?hg (N := 2) ?hd (cs := #[.slice A0_0 l0_0.length c0_0, .slice A0_1 l0_1.length c0_1, .slice A0_2 l0_2.length c0_2]) (t := 26) ?hr ?_; (case hd => rfl); (case hg => rfl); (case hr => first | (go_simp; done) | (go_simp; rfl)); intro gb524 hg w64 hbox hb; have n0_ := Aside0.mk (below_step (by repeat (first | (with_reducible first | exact HB.out | apply below_alloc | apply pw_below_drewN | apply below_drew1) | exact HB.out)) hb); have n1_ := Aside0.mk (hbox); have n2_ := Aside0.mk ((by rw [hg]; exact (below_size (by repeat (first | (with_reducible first | exact HB.out | apply below_alloc | apply pw_below_drewN | apply below_drew1) | exact HB.out))) : w.heap.size ≤ gb524)); have n3_ := Aside0.mk ((by rw [hg]; exact (below_size (by repeat (first | (with_reducible first | exact HB.out | apply below_alloc | apply pw_below_drewN | apply below_drew1) | exact HB.out))) : w.heap.size ≤ gb524)); clear HB; have HB := n0_; have BK524 := n1_; have GW524 := n2_; have GE524 := n3_; clear n0_ n1_ n2_ n3_; clear hb hbox hg; have hcz65_0 : w64.cell? ⟨gb524, 0, none⟩ = some (.slice A0_0 l0_0.length c0_0) := (blk_cell BK524.out 0).trans rfl; have hcz65_1 : w64.cell? ⟨gb524, 1, none⟩ = some (.slice A0_1 l0_1.length c0_1) := (blk_cell BK524.out 1).trans rfl; have hcz65_2 : w64.cell? ⟨gb524, 2, none⟩ = some (.slice A0_2 l0_2.length c0_2) := (blk_cell BK524.out 2).trans rfl; have hfz65_0 := blk_frozen BK524.out 0; have hfz65_1 := blk_frozen BK524.out 1; have hfz65_2 := blk_frozen BK524.out 2; have p525 : 0 ≤ (a1 : Int) := of_decide_eq_true (by first | (with_reducible assumption) | assumption); have q525 : a1 < (l0_0.length : Int) := of_decide_eq_true (by first | (with_reducible assumption) | assumption); obtain ⟨ad525, e525, hx525_0⟩ := Kd.at_int HR0_0.out a1 p525 q525; cases e525; replace hx525_0 := (HB.out.cell (World.block_lt_of_cell? w _ hx525_0)).trans hx525_0; replace p525 := eq_true p525; replace q525 := eq_true q525) | ((with_reducible refine gate_callee (f := 22) rfl ?_); refine goesL_ (some 14) rfl rfl Try.func22 (by kernel_rfl) rfl #[.int .u32 (rd l0_0 a1)] rfl (by (try simp only [List.map_toArray, List.map_cons, List.map_nil]); first | done | rfl | (simp only [List.length_drop, List.length_take]; rfl)) ?_; (with_reducible refine (rotaref06_Decode.calls (rd l0_0 a1) t526 t527 t528 t529 t530 t531 _ A5.out).mono ?_); rintro e w66 ⟨rfl, hb⟩; refine ⟨_, rfl, ?_⟩; have n0_ := Aside0.mk (blk_below (g := gb524) (o := .cells #[.slice (some ad525) l0_0.length c0_0, .slice A0_1 l0_1.length c0_1, .slice A0_2 l0_2.length c0_2] 26 (0, 0)) (by (with_reducible repeat (first | refine blk_drewN ?_ _ | refine blk_drew ?_ | refine blk_alloc ?_ _)); exact BK524.out) hb); have n1_ := Aside0.mk (below_step (by repeat (first | (with_reducible first | exact HB.out | apply below_alloc | apply pw_below_drewN | apply below_drew1 | refine below_set ?_ GE524.out) | exact HB.out)) hb); clear BK524; clear HB; have BK524 := n0_; have HB := n1_; clear n0_ n1_; (try clear hb); (try clear hb2); (try clear hk); (try clear hi)) | ((with_reducible refine gate_dst (N := 5) rfl ?_); (try (refine gate_guard (by rfl) ?_; dsimp only)); refine box_event ?hg (N := 5) ?hd (cs := #[.int .i64 0, .int .i64 0, .int .i64 0, .int .i64 0, .int .i64 0]) (t := 37) ?hr ?_; (case hd => rfl); (case hg => rfl); (case hr => first | (go_simp; done) | (go_simp; rfl)); intro gb532 hg w67 hbox hb; have n0_ := Aside0.mk (blk_below (g := gb524) (o := .cells #[.slice (some ad525) l0_0.length c0_0, .slice A0_1 l0_1.length c0_1, .slice A0_2 l0_2.length c0_2] 26 (0, 0)) (by (with_reducible repeat (first | refine blk_drewN ?_ _ | refine blk_drew ?_ | refine blk_alloc ?_ _)); exact BK524.out) hb); have n1_ := Aside0.mk (below_step (by repeat (first | (with_reducible first | exact HB.out | apply below_alloc | apply pw_below_drewN | apply below_drew1 | refine below_set ?_ GE524.out) | exact HB.out)) hb); have n2_ := Aside0.mk (hbox); have n3_ := Aside0.mk ((by rw [hg]; exact (below_size (by repeat (first | (with_reducible first | exact HB.out | apply below_alloc | apply pw_below_drewN | apply below_drew1 | refine below_set ?_ GE524.out) | exact HB.out))) : w.heap.size ≤ gb532)); have n4_ := Aside0.mk ((by rw [hg]; exact (below_size (by repeat (first | (with_reducible first | exact HB.out | apply below_alloc | apply pw_below_drewN | apply below_drew1 | refine below_set ?_ GE524.out) | exact HB.out))) : w.heap.size ≤ gb532)); have n5_ := Aside0.mk ((by rw [hg]; exact Nat.ne_of_lt (blk_lt (g := gb524) (o := .cells #[.slice (some ad525) l0_0.length c0_0, .slice A0_1 l0_1.length c0_1, .slice A0_2 l0_2.length c0_2] 26 (0, 0)) (by (with_reducible repeat (first | refine blk_drewN ?_ _ | refine blk_drew ?_ | refine blk_alloc ?_ _)); exact BK524.out)) : gb524 ≠ gb532)); have n6_ := Aside0.mk ((by rw [hg]; exact Nat.ne_of_gt (blk_lt (g := gb524) (o := .cells #[.slice (some ad525) l0_0.length c0_0, .slice A0_1 l0_1.length c0_1, .slice A0_2 l0_2.length c0_2] 26 (0, 0)) (by (with_reducible repeat (first | refine blk_drewN ?_ _ | refine blk_drew ?_ | refine blk_alloc ?_ _)); exact BK524.out)) : gb532 ≠ gb524)); clear BK524; clear HB; have BK524 := n0_; have HB := n1_; have BK532 := n2_; have GW532 := n3_; have GE532 := n4_; have NB524_532 := n5_; have NB532_524 := n6_; clear n0_ n1_ n2_ n3_ n4_ n5_ n6_; clear hb hbox hg; have hnb68 := NB532_524.out; have hnc68 := NB524_532.out; have hcz69_0 : w67.cell? ⟨gb532, 0, none⟩ = some (.int .i64 0) := (blk_cell BK532.out 0).trans rfl; have hcz69_1 : w67.cell? ⟨gb532, 1, none⟩ = some (.int .i64 0) := (blk_cell BK532.out 1).trans rfl; have hcz69_2 : w67.cell? ⟨gb532, 2, none⟩ = some (.int .i64 0) := (blk_cell BK532.out 2).trans rfl; have hcz69_3 : w67.cell? ⟨gb532, 3, none⟩ = some (.int .i64 0) := (blk_cell BK532.out 3).trans rfl; have hcz69_4 : w67.cell? ⟨gb532, 4, none⟩ = some (.int .i64 0) := (blk_cell BK532.out 4).trans rfl; have hfz69_0 := blk_frozen BK532.out 0; have hfz69_1 := blk_frozen BK532.out 1; have hfz69_2 := blk_frozen BK532.out 2; have hfz69_3 := blk_frozen BK532.out 3; have hfz69_4 := blk_frozen BK532.out 4))
        go_ret
        exact ⟨by first | rfl | (simp [errW_none, errW_some] <;> rfl) | (simp [*, errW_none, errW_some] <;> rfl), by repeat (first | (with_reducible first | exact HB.out | apply below_alloc | apply pw_below_drewN | apply below_drew1 | refine below_set ?_ GE524.out | refine below_set ?_ GE532.out) | exact HB.out)⟩
    · rw [if_neg c4] at H
      exact absurd H (by simp)
  · rw [if_neg c3] at H
    exact absurd H (by simp)

end Go.Proofs.Ythjfmlehkcccfaa.GA
end
