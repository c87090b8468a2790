import Derived.Test.YtdbpglhdicmhhaaGreatDoorMBk4
set_option linter.unusedVariables false
set_option linter.unusedSimpArgs false
section
namespace Go.Proofs.YtdbpglhdicmhhaaGreatDoor.GA
open Go.RowKit Go.Proofs.YtdbpglhdicmhhaaGreatDoorW.PrintWords Go.Proofs.YtdbpglhdicmhhaaGreatDoorW.PrintLast Go.Proofs.YtdbpglhdicmhhaaGreatDoorW.PrintMore
def listing_parts.l0 : Nat → Int → List (S41) → Int → Int → List Int → List (S41) → List (S44) → Option (Bool)
 | 0,_,_,_,_,_,_,_ => none
 | k + 1,x3,x7,x8,x9,x549000,x549001,x549002 => if x9 < x8 then (if 0 ≤ x9 then (if x9 < (x7.length : Int) then (if ((rd_T41 x7 x9).f0) = x3 then (if ((rd_T41 x7 x9).f1) ≤ x3 then (some false) else (if ((rd_T41 x7 x9).f1) > (x549000.length : Int) then (some false) else (listing_parts.l0 k ((rd_T41 x7 x9).f1) x7 x8 (wrap64 (x9 + 1)) x549000 x549001 x549002))) else (some false)) else (none)) else (none)) else (if x3 = (x549000.length : Int) then (some (decide ((x549001.length : Int) > 0))) else (some false))
def listing_parts.f (k : Nat) (l0_0 : List Int) (l0_1 : List (S41)) (l0_2 : List (S44)) : Option (Bool):=listing_parts.l0 k 0 l0_1 (l0_1.length : Int) 0 l0_0 l0_1 l0_2
set_option maxHeartbeats 8000000 in
set_option maxRecDepth 100000 in
theorem listing_parts.calls (k : Nat) (A0_0 : Option Addr) (c0_0 : Nat) (l0_0 : List Int) (A0_1 : Option Addr) (c0_1 : Nat) (l0_1 : List (S41)) (A0_2 : Option Addr) (c0_2 : Nat) (l0_2 : List (S44)) (r : Bool) (w : World) (hr0_0 : Kd.C (Kd.int .u32) w A0_0 l0_0.length l0_0) (hc0_0 : l0_0.length ≤ c0_0) (hr0_1 : Kd.C k41 w A0_1 l0_1.length l0_1) (hc0_1 : l0_1.length ≤ c0_1) (hr0_2 : Kd.C k44 w A0_2 l0_2.length l0_2) (hc0_2 : l0_2.length ≤ c0_2) (h : listing_parts.f k l0_0 l0_1 l0_2 = some r) :
  Calls Tryz.prog 46 #[.agg #[.slice A0_0 l0_0.length c0_0,.slice A0_1 l0_1.length c0_1,.slice A0_2 l0_2.length c0_2]] w fun e w' => e = .returned (.bool r) ∧ Below w.heap.size w w':=by
 have hu26:=Tryz.underlying26
 have hu41:=Tryz.underlying41
 have HR0_0:=Aside0.mk hr0_0
 have HC0_0:=Aside0.mk hc0_0
 clear hr0_0 hc0_0
 have HR0_1:=Aside0.mk hr0_1
 have HC0_1:=Aside0.mk hc0_1
 clear hr0_1 hc0_1
 have HR0_2:=Aside0.mk hr0_2
 have HC0_2:=Aside0.mk hc0_2
 clear hr0_2 hc0_2
 have HB:=Aside0.mk (Below.refl w.heap.size w)
 have H : (listing_parts.l0 k 0 l0_1 (l0_1.length : Int) 0 l0_0 l0_1 l0_2) = some r:=h
 clear h
 have H':=Aside0.mk H
 clear H
 go_enter Tryz.func46,Tryz.ntmps46
 go_wp2_with (first | ((with_reducible refine gate_dst (N:=1) rfl ?_); (try (refine gate_guard (by rfl) ?_; dsimp only)); refine box_event ?hg (N:=1) ?hd (cs:=#[.slice A0_0 l0_0.length c0_0,.slice A0_1 l0_1.length c0_1,.slice A0_2 l0_2.length c0_2]) (t:=26) ?hr ?_; (case hd => rfl); (case hg => rfl); (case hr => first | (go_simp; done) | (go_simp; rfl)); intro gb548 hg w2 hbox hb; have n0_:=Aside0.mk (below_step (by repeat (first | (with_reducible first | exact HB.out | apply below_alloc | apply pw_below_drewN | apply below_drew1) | exact HB.out)) hb); have n1_:=Aside0.mk (hbox); have n2_:=Aside0.mk ((by rw [hg]; exact (below_size (by repeat (first | (with_reducible first | exact HB.out | apply below_alloc | apply pw_below_drewN | apply below_drew1) | exact HB.out))) : w.heap.size ≤ gb548)); have n3_:=Aside0.mk ((by rw [hg]; exact (below_size (by repeat (first | (with_reducible first | exact HB.out | apply below_alloc | apply pw_below_drewN | apply below_drew1) | exact HB.out))) : w.heap.size ≤ gb548)); clear HB; have HB:=n0_; have BK548:=n1_; have GW548:=n2_; have GE548:=n3_; clear n0_ n1_ n2_ n3_; clear hb hbox hg; have hcz3_0 : w2.cell? ⟨gb548,0,none⟩ = some (.slice A0_0 l0_0.length c0_0):=(blk_cell BK548.out 0).trans rfl; have hcz3_1 : w2.cell? ⟨gb548,1,none⟩ = some (.slice A0_1 l0_1.length c0_1):=(blk_cell BK548.out 1).trans rfl; have hcz3_2 : w2.cell? ⟨gb548,2,none⟩ = some (.slice A0_2 l0_2.length c0_2):=(blk_cell BK548.out 2).trans rfl; have hfz3_0:=blk_frozen BK548.out 0; have hfz3_1:=blk_frozen BK548.out 1; have hfz3_2:=blk_frozen BK548.out 2))
 go_loopg [3,9] k (fun kq v3 v9 w' => ∃ (x3_1 : Int) (x9_1 : Int),v3 = .int .i64 x3_1 ∧ v9 = .int .i64 x9_1 ∧ Aside0 (listing_parts.l0 kq x3_1 l0_1 (l0_1.length : Int) x9_1 l0_0 l0_1 l0_2 = some r) ∧ Aside0 (kq ≤ k) ∧ Aside0 (w'.heap[gb548]? = some (.cells #[(.slice A0_0 l0_0.length c0_0),(.slice A0_1 l0_1.length c0_1),(.slice A0_2 l0_2.length c0_2)] 26 (0,0))) ∧ Aside0 (Below w.heap.size w w'))
 case atStart => exact ⟨(0),(0),(by first | rfl | (simp; done) | (simp [*]; done)),(by first | rfl | (simp; done) | (simp [*]; done)),H',⟨Nat.le_refl _⟩,⟨by (with_reducible repeat (first | refine blk_drewN ?_ _ | refine blk_drew ?_ | refine blk_alloc ?_ _)); exact BK548.out⟩,⟨by repeat (first | (with_reducible first | exact HB.out | apply below_alloc | apply pw_below_drewN | apply below_drew1 | refine below_set ?_ GE548.out) | exact HB.out)⟩⟩
 case round =>
  clear H'
  try clear p2
  try clear hcz3_0
  try clear hcz3_1
  try clear hcz3_2
  try clear hfz3_0
  try clear hfz3_1
  try clear hfz3_2
  obtain ⟨x3_1,x9_1,rfl,rfl,HA,HK1,BK548,HB⟩:=hrel
  cases gk with
  | zero => exact absurd HA.out (by simp [listing_parts.l0])
  | succ k1 =>
   have H:=HA.out
   clear HA
   simp only [listing_parts.l0] at H
   by_cases c4 : x9_1 < (l0_1.length : Int)
   ·rw [if_pos c4] at H
    have c4b0 : decide (x9_1 < (l0_1.length : Int)) = true:=decide_eq_true c4
    clear c4
    by_cases c5 : 0 ≤ x9_1
    ·rw [if_pos c5] at H
     have c5b0 : decide (0 ≤ x9_1) = true:=decide_eq_true c5
     clear c5
     by_cases c6 : x9_1 < (l0_1.length : Int)
     ·rw [if_pos c6] at H
      have c6b0 : decide (x9_1 < (l0_1.length : Int)) = true:=decide_eq_true c6
      clear c6
      by_cases c7 : ((rd_T41 l0_1 x9_1).f0) = x3_1
      ·rw [if_pos c7] at H
       have c7b0 : (((rd_T41 l0_1 x9_1).f0) == x3_1) = true:=beq_iff_eq.mpr c7
       have c7b1 : (((rd_T41 l0_1 x9_1).f0) != x3_1) = false:=bne_eq_false_iff_eq.mpr c7
       clear c7
       by_cases c8 : ((rd_T41 l0_1 x9_1).f1) ≤ x3_1
       ·rw [if_pos c8] at H
        have c8b0 : decide (((rd_T41 l0_1 x9_1).f1) ≤ x3_1) = true:=decide_eq_true c8
        clear c8
        obtain rfl:=Option.some.inj H
        have p549 : 0 ≤ (x9_1 : Int):=of_decide_eq_true (by first | (with_reducible assumption) | assumption)
        have q549 : x9_1 < (l0_1.length : Int):=of_decide_eq_true (by first | (with_reducible assumption) | assumption)
        obtain ⟨ad549,e549,hx549_0,hx549_1⟩:=at_T41 HR0_1.out x9_1 p549 q549
        cases e549
        replace hx549_0:=(HB.out.cell (World.block_lt_of_cell? w _ hx549_0)).trans hx549_0
        replace hx549_1:=(HB.out.cell (World.block_lt_of_cell? w _ hx549_1)).trans hx549_1
        replace p549:=eq_true p549
        replace q549:=eq_true q549
        go_wp2_with (first | ((with_reducible refine gate_dst (N:=5) rfl ?_); (try (refine gate_guard (by rfl) ?_; dsimp only)); refine box_event ?hg (N:=5) ?hd (cs:=#[.int .i64 0,.int .i64 0]) (t:=41) ?hr ?_; (case hd => rfl); (case hg => rfl); (case hr => first | (go_simp; done) | (go_simp; rfl)); intro gb550 hg w9 hbox hb; have n0_:=Aside0.mk (blk_below (g:=gb548) (o:=.cells #[.slice A0_0 l0_0.length c0_0,.slice (some ad549) l0_1.length c0_1,.slice A0_2 l0_2.length c0_2] 26 (0,0)) (by (with_reducible repeat (first | refine blk_drewN ?_ _ | refine blk_drew ?_ | refine blk_alloc ?_ _)); exact BK548.out) hb); have n1_:=Aside0.mk (below_step (by repeat (first | (with_reducible first | exact HB.out | apply below_alloc | apply pw_below_drewN | apply below_drew1 | refine below_set ?_ GE548.out) | exact HB.out)) hb); have n2_:=Aside0.mk (hbox); have n3_:=Aside0.mk ((by rw [hg]; exact (below_size (by repeat (first | (with_reducible first | exact HB.out | apply below_alloc | apply pw_below_drewN | apply below_drew1 | refine below_set ?_ GE548.out) | exact HB.out))) : w.heap.size ≤ gb550)); have n4_:=Aside0.mk ((by rw [hg]; exact (below_size (by repeat (first | (with_reducible first | exact HB.out | apply below_alloc | apply pw_below_drewN | apply below_drew1 | refine below_set ?_ GE548.out) | exact HB.out))) : w.heap.size ≤ gb550)); have n5_:=Aside0.mk ((by rw [hg]; exact Nat.ne_of_lt (blk_lt (g:=gb548) (o:=.cells #[.slice A0_0 l0_0.length c0_0,.slice (some ad549) l0_1.length c0_1,.slice A0_2 l0_2.length c0_2] 26 (0,0)) (by (with_reducible repeat (first | refine blk_drewN ?_ _ | refine blk_drew ?_ | refine blk_alloc ?_ _)); exact BK548.out)) : gb548 ≠ gb550)); have n6_:=Aside0.mk ((by rw [hg]; exact Nat.ne_of_gt (blk_lt (g:=gb548) (o:=.cells #[.slice A0_0 l0_0.length c0_0,.slice (some ad549) l0_1.length c0_1,.slice A0_2 l0_2.length c0_2] 26 (0,0)) (by (with_reducible repeat (first | refine blk_drewN ?_ _ | refine blk_drew ?_ | refine blk_alloc ?_ _)); exact BK548.out)) : gb550 ≠ gb548)); clear BK548; clear HB; have BK548:=n0_; have HB:=n1_; have BK550:=n2_; have GW550:=n3_; have GE550:=n4_; have NB548_550:=n5_; have NB550_548:=n6_; clear n0_ n1_ n2_ n3_ n4_ n5_ n6_; clear hb hbox hg; have hnb10:=NB550_548.out; have hnc10:=NB548_550.out; have hcz11_0 : w9.cell? ⟨gb550,0,none⟩ = some (.int .i64 0):=(blk_cell BK550.out 0).trans rfl; have hcz11_1 : w9.cell? ⟨gb550,1,none⟩ = some (.int .i64 0):=(blk_cell BK550.out 1).trans rfl; have hfz11_0:=blk_frozen BK550.out 0; have hfz11_1:=blk_frozen BK550.out 1))
        go_ret
        exact ⟨by first | rfl | (simp [errW_none,errW_some] <;> rfl) | (simp [*,errW_none,errW_some] <;> rfl),by repeat (first | (with_reducible first | exact HB.out | apply below_alloc | apply pw_below_drewN | apply below_drew1 | refine below_set ?_ GE548.out | refine below_set ?_ GE550.out) | exact HB.out)⟩
       ·rw [if_neg c8] at H
        have c8b0 : decide (((rd_T41 l0_1 x9_1).f1) ≤ x3_1) = false:=decide_eq_false c8
        clear c8
        by_cases c12 : ((rd_T41 l0_1 x9_1).f1) > (l0_0.length : Int)
        ·rw [if_pos c12] at H
         have c12b0 : decide ((l0_0.length : Int) < ((rd_T41 l0_1 x9_1).f1)) = true:=decide_eq_true c12
         clear c12
         obtain rfl:=Option.some.inj H
         have p549 : 0 ≤ (x9_1 : Int):=of_decide_eq_true (by first | (with_reducible assumption) | assumption)
         have q549 : x9_1 < (l0_1.length : Int):=of_decide_eq_true (by first | (with_reducible assumption) | assumption)
         obtain ⟨ad549,e549,hx549_0,hx549_1⟩:=at_T41 HR0_1.out x9_1 p549 q549
         cases e549
         replace hx549_0:=(HB.out.cell (World.block_lt_of_cell? w _ hx549_0)).trans hx549_0
         replace hx549_1:=(HB.out.cell (World.block_lt_of_cell? w _ hx549_1)).trans hx549_1
         replace p549:=eq_true p549
         replace q549:=eq_true q549
         go_wp2_with (first | ((with_reducible refine gate_dst (N:=5) rfl ?_); (try (refine gate_guard (by rfl) ?_; dsimp only)); refine box_event ?hg (N:=5) ?hd (cs:=#[.int .i64 0,.int .i64 0]) (t:=41) ?hr ?_; (case hd => rfl); (case hg => rfl); (case hr => first | (go_simp; done) | (go_simp; rfl)); intro gb550 hg w13 hbox hb; have n0_:=Aside0.mk (blk_below (g:=gb548) (o:=.cells #[.slice A0_0 l0_0.length c0_0,.slice (some ad549) l0_1.length c0_1,.slice A0_2 l0_2.length c0_2] 26 (0,0)) (by (with_reducible repeat (first | refine blk_drewN ?_ _ | refine blk_drew ?_ | refine blk_alloc ?_ _)); exact BK548.out) hb); have n1_:=Aside0.mk (below_step (by repeat (first | (with_reducible first | exact HB.out | apply below_alloc | apply pw_below_drewN | apply below_drew1 | refine below_set ?_ GE548.out) | exact HB.out)) hb); have n2_:=Aside0.mk (hbox); have n3_:=Aside0.mk ((by rw [hg]; exact (below_size (by repeat (first | (with_reducible first | exact HB.out | apply below_alloc | apply pw_below_drewN | apply below_drew1 | refine below_set ?_ GE548.out) | exact HB.out))) : w.heap.size ≤ gb550)); have n4_:=Aside0.mk ((by rw [hg]; exact (below_size (by repeat (first | (with_reducible first | exact HB.out | apply below_alloc | apply pw_below_drewN | apply below_drew1 | refine below_set ?_ GE548.out) | exact HB.out))) : w.heap.size ≤ gb550)); have n5_:=Aside0.mk ((by rw [hg]; exact Nat.ne_of_lt (blk_lt (g:=gb548) (o:=.cells #[.slice A0_0 l0_0.length c0_0,.slice (some ad549) l0_1.length c0_1,.slice A0_2 l0_2.length c0_2] 26 (0,0)) (by (with_reducible repeat (first | refine blk_drewN ?_ _ | refine blk_drew ?_ | refine blk_alloc ?_ _)); exact BK548.out)) : gb548 ≠ gb550)); have n6_:=Aside0.mk ((by rw [hg]; exact Nat.ne_of_gt (blk_lt (g:=gb548) (o:=.cells #[.slice A0_0 l0_0.length c0_0,.slice (some ad549) l0_1.length c0_1,.slice A0_2 l0_2.length c0_2] 26 (0,0)) (by (with_reducible repeat (first | refine blk_drewN ?_ _ | refine blk_drew ?_ | refine blk_alloc ?_ _)); exact BK548.out)) : gb550 ≠ gb548)); clear BK548; clear HB; have BK548:=n0_; have HB:=n1_; have BK550:=n2_; have GW550:=n3_; have GE550:=n4_; have NB548_550:=n5_; have NB550_548:=n6_; clear n0_ n1_ n2_ n3_ n4_ n5_ n6_; clear hb hbox hg; have hnb14:=NB550_548.out; have hnc14:=NB548_550.out; have hcz15_0 : w13.cell? ⟨gb550,0,none⟩ = some (.int .i64 0):=(blk_cell BK550.out 0).trans rfl; have hcz15_1 : w13.cell? ⟨gb550,1,none⟩ = some (.int .i64 0):=(blk_cell BK550.out 1).trans rfl; have hfz15_0:=blk_frozen BK550.out 0; have hfz15_1:=blk_frozen BK550.out 1; have hcz16_0 : w13.cell? ⟨gb548,0,none⟩ = some (.slice A0_0 l0_0.length c0_0):=(blk_cell BK548.out 0).trans rfl; have hcz16_1 : w13.cell? ⟨gb548,1,none⟩ = some (.slice (some ad549) l0_1.length c0_1):=(blk_cell BK548.out 1).trans rfl; have hcz16_2 : w13.cell? ⟨gb548,2,none⟩ = some (.slice A0_2 l0_2.length c0_2):=(blk_cell BK548.out 2).trans rfl; have hfz16_0:=blk_frozen BK548.out 0; have hfz16_1:=blk_frozen BK548.out 1; have hfz16_2:=blk_frozen BK548.out 2))
         go_ret
         exact ⟨by first | rfl | (simp [errW_none,errW_some] <;> rfl) | (simp [*,errW_none,errW_some] <;> rfl),by repeat (first | (with_reducible first | exact HB.out | apply below_alloc | apply pw_below_drewN | apply below_drew1 | refine below_set ?_ GE548.out | refine below_set ?_ GE550.out) | exact HB.out)⟩
        ·rw [if_neg c12] at H
         have c12b0 : decide ((l0_0.length : Int) < ((rd_T41 l0_1 x9_1).f1)) = false:=decide_eq_false c12
         clear c12
         have H':=Aside0.mk H
         clear H
         have p549 : 0 ≤ (x9_1 : Int):=of_decide_eq_true (by first | (with_reducible assumption) | assumption)
         have q549 : x9_1 < (l0_1.length : Int):=of_decide_eq_true (by first | (with_reducible assumption) | assumption)
         obtain ⟨ad549,e549,hx549_0,hx549_1⟩:=at_T41 HR0_1.out x9_1 p549 q549
         cases e549
         replace hx549_0:=(HB.out.cell (World.block_lt_of_cell? w _ hx549_0)).trans hx549_0
         replace hx549_1:=(HB.out.cell (World.block_lt_of_cell? w _ hx549_1)).trans hx549_1
         replace p549:=eq_true p549
         replace q549:=eq_true q549
         go_wp2_with (first | ((with_reducible refine gate_dst (N:=5) rfl ?_); (try (refine gate_guard (by rfl) ?_; dsimp only)); refine box_event ?hg (N:=5) ?hd (cs:=#[.int .i64 0,.int .i64 0]) (t:=41) ?hr ?_; (case hd => rfl); (case hg => rfl); (case hr => first | (go_simp; done) | (go_simp; rfl)); intro gb550 hg w17 hbox hb; have n0_:=Aside0.mk (blk_below (g:=gb548) (o:=.cells #[.slice A0_0 l0_0.length c0_0,.slice (some ad549) l0_1.length c0_1,.slice A0_2 l0_2.length c0_2] 26 (0,0)) (by (with_reducible repeat (first | refine blk_drewN ?_ _ | refine blk_drew ?_ | refine blk_alloc ?_ _)); exact BK548.out) hb); have n1_:=Aside0.mk (below_step (by repeat (first | (with_reducible first | exact HB.out | apply below_alloc | apply pw_below_drewN | apply below_drew1 | refine below_set ?_ GE548.out) | exact HB.out)) hb); have n2_:=Aside0.mk (hbox); have n3_:=Aside0.mk ((by rw [hg]; exact (below_size (by repeat (first | (with_reducible first | exact HB.out | apply below_alloc | apply pw_below_drewN | apply below_drew1 | refine below_set ?_ GE548.out) | exact HB.out))) : w.heap.size ≤ gb550)); have n4_:=Aside0.mk ((by rw [hg]; exact (below_size (by repeat (first | (with_reducible first | exact HB.out | apply below_alloc | apply pw_below_drewN | apply below_drew1 | refine below_set ?_ GE548.out) | exact HB.out))) : w.heap.size ≤ gb550)); have n5_:=Aside0.mk ((by rw [hg]; exact Nat.ne_of_lt (blk_lt (g:=gb548) (o:=.cells #[.slice A0_0 l0_0.length c0_0,.slice (some ad549) l0_1.length c0_1,.slice A0_2 l0_2.length c0_2] 26 (0,0)) (by (with_reducible repeat (first | refine blk_drewN ?_ _ | refine blk_drew ?_ | refine blk_alloc ?_ _)); exact BK548.out)) : gb548 ≠ gb550)); have n6_:=Aside0.mk ((by rw [hg]; exact Nat.ne_of_gt (blk_lt (g:=gb548) (o:=.cells #[.slice A0_0 l0_0.length c0_0,.slice (some ad549) l0_1.length c0_1,.slice A0_2 l0_2.length c0_2] 26 (0,0)) (by (with_reducible repeat (first | refine blk_drewN ?_ _ | refine blk_drew ?_ | refine blk_alloc ?_ _)); exact BK548.out)) : gb550 ≠ gb548)); clear BK548; clear HB; have BK548:=n0_; have HB:=n1_; have BK550:=n2_; have GW550:=n3_; have GE550:=n4_; have NB548_550:=n5_; have NB550_548:=n6_; clear n0_ n1_ n2_ n3_ n4_ n5_ n6_; clear hb hbox hg; have hnb18:=NB550_548.out; have hnc18:=NB548_550.out; have hcz19_0 : w17.cell? ⟨gb550,0,none⟩ = some (.int .i64 0):=(blk_cell BK550.out 0).trans rfl; have hcz19_1 : w17.cell? ⟨gb550,1,none⟩ = some (.int .i64 0):=(blk_cell BK550.out 1).trans rfl; have hfz19_0:=blk_frozen BK550.out 0; have hfz19_1:=blk_frozen BK550.out 1; have hcz20_0 : w17.cell? ⟨gb548,0,none⟩ = some (.slice A0_0 l0_0.length c0_0):=(blk_cell BK548.out 0).trans rfl; have hcz20_1 : w17.cell? ⟨gb548,1,none⟩ = some (.slice (some ad549) l0_1.length c0_1):=(blk_cell BK548.out 1).trans rfl; have hcz20_2 : w17.cell? ⟨gb548,2,none⟩ = some (.slice A0_2 l0_2.length c0_2):=(blk_cell BK548.out 2).trans rfl; have hfz20_0:=blk_frozen BK548.out 0; have hfz20_1:=blk_frozen BK548.out 1; have hfz20_2:=blk_frozen BK548.out 2))
         go_roundg k1
         case measure => have:=HK1.out; omega
         case rel => exact ⟨((rd_T41 l0_1 x9_1).f1),(wrap64 (x9_1 + 1)),(by first | rfl | (simp; done) | (simp [*]; done)),(by first | rfl | (simp; done) | (simp [*]; done)),H',⟨by have:=HK1.out; omega⟩,⟨by (with_reducible repeat (first | refine blk_drewN ?_ _ | refine blk_drew ?_ | refine blk_alloc ?_ _)); refine blk_far ?_ NB548_550.out _; (with_reducible repeat (first | refine blk_drewN ?_ _ | refine blk_drew ?_ | refine blk_alloc ?_ _)); refine blk_far ?_ NB548_550.out _; (with_reducible repeat (first | refine blk_drewN ?_ _ | refine blk_drew ?_ | refine blk_alloc ?_ _)); exact BK548.out⟩,⟨by repeat (first | (with_reducible first | exact HB.out | apply below_alloc | apply pw_below_drewN | apply below_drew1 | refine below_set ?_ GE548.out | refine below_set ?_ GE550.out) | exact HB.out)⟩⟩
      ·rw [if_neg c7] at H
       have c7b0 : (((rd_T41 l0_1 x9_1).f0) == x3_1) = false:=beq_eq_false_iff_ne.mpr c7
       have c7b1 : (((rd_T41 l0_1 x9_1).f0) != x3_1) = true:=bne_iff_ne.mpr c7
       obtain rfl:=Option.some.inj H
       have p549 : 0 ≤ (x9_1 : Int):=of_decide_eq_true (by first | (with_reducible assumption) | assumption)
       have q549 : x9_1 < (l0_1.length : Int):=of_decide_eq_true (by first | (with_reducible assumption) | assumption)
       obtain ⟨ad549,e549,hx549_0,hx549_1⟩:=at_T41 HR0_1.out x9_1 p549 q549
       cases e549
       replace hx549_0:=(HB.out.cell (World.block_lt_of_cell? w _ hx549_0)).trans hx549_0
       replace hx549_1:=(HB.out.cell (World.block_lt_of_cell? w _ hx549_1)).trans hx549_1
       replace p549:=eq_true p549
       replace q549:=eq_true q549
       go_wp2_with (first | ((with_reducible refine gate_dst (N:=5) rfl ?_); (try (refine gate_guard (by rfl) ?_; dsimp only)); refine box_event ?hg (N:=5) ?hd (cs:=#[.int .i64 0,.int .i64 0]) (t:=41) ?hr ?_; (case hd => rfl); (case hg => rfl); (case hr => first | (go_simp; done) | (go_simp; rfl)); intro gb550 hg w21 hbox hb; have n0_:=Aside0.mk (blk_below (g:=gb548) (o:=.cells #[.slice A0_0 l0_0.length c0_0,.slice (some ad549) l0_1.length c0_1,.slice A0_2 l0_2.length c0_2] 26 (0,0)) (by (with_reducible repeat (first | refine blk_drewN ?_ _ | refine blk_drew ?_ | refine blk_alloc ?_ _)); exact BK548.out) hb); have n1_:=Aside0.mk (below_step (by repeat (first | (with_reducible first | exact HB.out | apply below_alloc | apply pw_below_drewN | apply below_drew1 | refine below_set ?_ GE548.out) | exact HB.out)) hb); have n2_:=Aside0.mk (hbox); have n3_:=Aside0.mk ((by rw [hg]; exact (below_size (by repeat (first | (with_reducible first | exact HB.out | apply below_alloc | apply pw_below_drewN | apply below_drew1 | refine below_set ?_ GE548.out) | exact HB.out))) : w.heap.size ≤ gb550)); have n4_:=Aside0.mk ((by rw [hg]; exact (below_size (by repeat (first | (with_reducible first | exact HB.out | apply below_alloc | apply pw_below_drewN | apply below_drew1 | refine below_set ?_ GE548.out) | exact HB.out))) : w.heap.size ≤ gb550)); have n5_:=Aside0.mk ((by rw [hg]; exact Nat.ne_of_lt (blk_lt (g:=gb548) (o:=.cells #[.slice A0_0 l0_0.length c0_0,.slice (some ad549) l0_1.length c0_1,.slice A0_2 l0_2.length c0_2] 26 (0,0)) (by (with_reducible repeat (first | refine blk_drewN ?_ _ | refine blk_drew ?_ | refine blk_alloc ?_ _)); exact BK548.out)) : gb548 ≠ gb550)); have n6_:=Aside0.mk ((by rw [hg]; exact Nat.ne_of_gt (blk_lt (g:=gb548) (o:=.cells #[.slice A0_0 l0_0.length c0_0,.slice (some ad549) l0_1.length c0_1,.slice A0_2 l0_2.length c0_2] 26 (0,0)) (by (with_reducible repeat (first | refine blk_drewN ?_ _ | refine blk_drew ?_ | refine blk_alloc ?_ _)); exact BK548.out)) : gb550 ≠ gb548)); clear BK548; clear HB; have BK548:=n0_; have HB:=n1_; have BK550:=n2_; have GW550:=n3_; have GE550:=n4_; have NB548_550:=n5_; have NB550_548:=n6_; clear n0_ n1_ n2_ n3_ n4_ n5_ n6_; clear hb hbox hg; have hnb22:=NB550_548.out; have hnc22:=NB548_550.out; have hcz23_0 : w21.cell? ⟨gb550,0,none⟩ = some (.int .i64 0):=(blk_cell BK550.out 0).trans rfl; have hcz23_1 : w21.cell? ⟨gb550,1,none⟩ = some (.int .i64 0):=(blk_cell BK550.out 1).trans rfl; have hfz23_0:=blk_frozen BK550.out 0; have hfz23_1:=blk_frozen BK550.out 1))
       go_ret
       exact ⟨by first | rfl | (simp [errW_none,errW_some] <;> rfl) | (simp [*,errW_none,errW_some] <;> rfl),by repeat (first | (with_reducible first | exact HB.out | apply below_alloc | apply pw_below_drewN | apply below_drew1 | refine below_set ?_ GE548.out | refine below_set ?_ GE550.out) | exact HB.out)⟩
     ·rw [if_neg c6] at H
      exact absurd H (by simp)
    ·rw [if_neg c5] at H
     exact absurd H (by simp)
   ·rw [if_neg c4] at H
    have c4b0 : decide (x9_1 < (l0_1.length : Int)) = false:=decide_eq_false c4
    clear c4
    by_cases c24 : x3_1 = (l0_0.length : Int)
    ·rw [if_pos c24] at H
     have c24b0 : (x3_1 == (l0_0.length : Int)) = true:=beq_iff_eq.mpr c24
     have c24b1 : (x3_1 != (l0_0.length : Int)) = false:=bne_eq_false_iff_eq.mpr c24
     clear c24
     obtain rfl:=Option.some.inj H
     have hcz25_0 : wr.cell? ⟨gb548,0,none⟩ = some (.slice A0_0 l0_0.length c0_0):=(blk_cell BK548.out 0).trans rfl
     have hcz25_1 : wr.cell? ⟨gb548,1,none⟩ = some (.slice A0_1 l0_1.length c0_1):=(blk_cell BK548.out 1).trans rfl
     have hcz25_2 : wr.cell? ⟨gb548,2,none⟩ = some (.slice A0_2 l0_2.length c0_2):=(blk_cell BK548.out 2).trans rfl
     have hfz25_0:=blk_frozen BK548.out 0
     have hfz25_1:=blk_frozen BK548.out 1
     have hfz25_2:=blk_frozen BK548.out 2
     go_wp2
     go_ret
     exact ⟨by first | rfl | (simp [errW_none,errW_some] <;> rfl) | (simp [*,errW_none,errW_some] <;> rfl),by repeat (first | (with_reducible first | exact HB.out | apply below_alloc | apply pw_below_drewN | apply below_drew1 | refine below_set ?_ GE548.out) | exact HB.out)⟩
    ·rw [if_neg c24] at H
     have c24b0 : (x3_1 == (l0_0.length : Int)) = false:=beq_eq_false_iff_ne.mpr c24
     have c24b1 : (x3_1 != (l0_0.length : Int)) = true:=bne_iff_ne.mpr c24
     obtain rfl:=Option.some.inj H
     have hcz26_0 : wr.cell? ⟨gb548,0,none⟩ = some (.slice A0_0 l0_0.length c0_0):=(blk_cell BK548.out 0).trans rfl
     have hcz26_1 : wr.cell? ⟨gb548,1,none⟩ = some (.slice A0_1 l0_1.length c0_1):=(blk_cell BK548.out 1).trans rfl
     have hcz26_2 : wr.cell? ⟨gb548,2,none⟩ = some (.slice A0_2 l0_2.length c0_2):=(blk_cell BK548.out 2).trans rfl
     have hfz26_0:=blk_frozen BK548.out 0
     have hfz26_1:=blk_frozen BK548.out 1
     have hfz26_2:=blk_frozen BK548.out 2
     go_wp2
     go_ret
     exact ⟨by first | rfl | (simp [errW_none,errW_some] <;> rfl) | (simp [*,errW_none,errW_some] <;> rfl),by repeat (first | (with_reducible first | exact HB.out | apply below_alloc | apply pw_below_drewN | apply below_drew1 | refine below_set ?_ GE548.out) | exact HB.out)⟩
end Go.Proofs.YtdbpglhdicmhhaaGreatDoor.GA
end
