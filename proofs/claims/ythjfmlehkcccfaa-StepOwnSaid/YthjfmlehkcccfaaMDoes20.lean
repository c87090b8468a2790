import Derived.Test.YthjfmlehkcccfaaMDoes1
import Derived.Test.YthjfmlehkcccfaaMDoes8
import Derived.Test.YthjfmlehkcccfaaMDoes19
import Derived.Deep.QuietTactic
import Derived.BigQuiet
import Derived.Deep.MidRow
import Derived.Lib.Hide
import Derived.Outline
import Derived.Test.YthjfmlehkcccfaaMDoes2
section
-- laid by a program of this session (wip/gp.sh)
namespace Go.Proofs.Ythjfmlehkcccfaa.GA
open Go.RowKit Go.Proofs.YthjfmlehkcccfaaW.PrintWords Go.Proofs.YthjfmlehkcccfaaW.PrintLast Go.Proofs.YthjfmlehkcccfaaW.PrintMore
attribute [local go_sem] max2_int min2_int max_two min_two max_three min_three max_four min_four   -- for this text's walks alone
set_option linter.unusedVariables false
set_option linter.unusedSimpArgs false

/-! ### rotaref06_Encode: function 37 -/
def rotaref06_Encode.f (a0_0 : Int) (a0_1 : Int) (a0_2 : Int) (a0_3 : Int) (a0_4 : Int) : Option (Int × Int) := (rotaref06_Check.f a0_0 a0_1 a0_2 a0_3 a0_4).bind fun t287 => (if t287 = 0 then (if a0_4 < 0 then (some ((((((((((((a0_0) % 4294967296) * 16777216) % 4294967296) + ((((a0_1) % 4294967296) * 1048576) % 4294967296)) % 4294967296) + ((((a0_2) % 4294967296) * 65536) % 4294967296)) % 4294967296) + ((wrap64 (a0_4 + 65536)) % 4294967296)) % 4294967296) + ((a0_3) % 4294967296)) % 4294967296, 0)) else (some ((((((((((((a0_0) % 4294967296) * 16777216) % 4294967296) + ((((a0_1) % 4294967296) * 1048576) % 4294967296)) % 4294967296) + ((((a0_2) % 4294967296) * 65536) % 4294967296)) % 4294967296) + ((a0_4) % 4294967296)) % 4294967296) + ((a0_3) % 4294967296)) % 4294967296, 0))) else (some (0, t287)))
set_option maxHeartbeats 8000000 in
set_option maxRecDepth 100000 in
theorem rotaref06_Encode.calls (a0_0 : Int) (a0_1 : Int) (a0_2 : Int) (a0_3 : Int) (a0_4 : Int) (r1 : Int) (r2 : Int) (w : World) (h : rotaref06_Encode.f a0_0 a0_1 a0_2 a0_3 a0_4 = some (r1, r2)) :
    Calls Try.prog 37 #[.agg #[.int .i64 a0_0, .int .i64 a0_1, .int .i64 a0_2, .int .i64 a0_3, .int .i64 a0_4]] w fun e w' => e = .returned (.tuple #[.int .u32 r1, .int .i64 r2]) ∧ Below w.heap.size w w' := by
  have hu37 := Try.underlying37
  have HB := Aside0.mk (Below.refl w.heap.size w)
  have H : ((rotaref06_Check.f a0_0 a0_1 a0_2 a0_3 a0_4).bind fun t287 => (if t287 = 0 then (if a0_4 < 0 then (some ((((((((((((a0_0) % 4294967296) * 16777216) % 4294967296) + ((((a0_1) % 4294967296) * 1048576) % 4294967296)) % 4294967296) + ((((a0_2) % 4294967296) * 65536) % 4294967296)) % 4294967296) + ((wrap64 (a0_4 + 65536)) % 4294967296)) % 4294967296) + ((a0_3) % 4294967296)) % 4294967296, 0)) else (some ((((((((((((a0_0) % 4294967296) * 16777216) % 4294967296) + ((((a0_1) % 4294967296) * 1048576) % 4294967296)) % 4294967296) + ((((a0_2) % 4294967296) * 65536) % 4294967296)) % 4294967296) + ((a0_4) % 4294967296)) % 4294967296) + ((a0_3) % 4294967296)) % 4294967296, 0))) else (some (0, t287)))) = some (r1, r2) := h
  clear h
  replace H := Option.bind_eq_some_iff.mp H
  obtain ⟨t287, A20, H⟩ := H
  replace H : (if t287 = 0 then (if a0_4 < 0 then (some ((((((((((((a0_0) % 4294967296) * 16777216) % 4294967296) + ((((a0_1) % 4294967296) * 1048576) % 4294967296)) % 4294967296) + ((((a0_2) % 4294967296) * 65536) % 4294967296)) % 4294967296) + ((wrap64 (a0_4 + 65536)) % 4294967296)) % 4294967296) + ((a0_3) % 4294967296)) % 4294967296, 0)) else (some ((((((((((((a0_0) % 4294967296) * 16777216) % 4294967296) + ((((a0_1) % 4294967296) * 1048576) % 4294967296)) % 4294967296) + ((((a0_2) % 4294967296) * 65536) % 4294967296)) % 4294967296) + ((a0_4) % 4294967296)) % 4294967296) + ((a0_3) % 4294967296)) % 4294967296, 0))) else (some (0, t287))) = some (r1, r2) := H
  have A2 := Aside0.mk A20
  clear A20
  by_cases c3 : t287 = 0
  · rw [if_pos c3] at H
    have c3b0 : (t287 == 0) = true := beq_iff_eq.mpr c3
    have c3b1 : (t287 != 0) = false := bne_eq_false_iff_eq.mpr c3
    clear c3
    by_cases c4 : a0_4 < 0
    · rw [if_pos c4] at H
      have c4b0 : decide (a0_4 < 0) = true := decide_eq_true c4
      clear c4
      simp only [Option.some.injEq, Prod.mk.injEq] at H
      obtain ⟨rfl, rfl⟩ := H
      go_enter Try.func37, Try.ntmps37
      go_wp2_with (first | ((with_reducible refine gate_dst (N := 1) rfl ?_); refine box_event ?hg (N := 1) ?hd (cs := #[.int .i64 a0_0, .int .i64 a0_1, .int .i64 a0_2, .int .i64 a0_3, .int .i64 a0_4]) (t := 37) ?hr ?_; (case hd => rfl); (case hg => rfl); (case hr => first | (go_simp; done) | (go_simp; rfl)); intro gb286 hg w5 hbox hb; have n0_ := Aside0.mk (below_step (by repeat (first | (with_reducible first | exact HB.out | apply below_alloc | apply pw_below_drewN | apply below_drew1) | exact HB.out)) hb); have n1_ := Aside0.mk (hbox); have n2_ := Aside0.mk ((by rw [hg]; exact (below_size (by repeat (first | (with_reducible first | exact HB.out | apply below_alloc | apply pw_below_drewN | apply below_drew1) | exact HB.out))) : w.heap.size ≤ gb286)); have n3_ := Aside0.mk ((by rw [hg]; exact (below_size (by repeat (first | (with_reducible first | exact HB.out | apply below_alloc | apply pw_below_drewN | apply below_drew1) | exact HB.out))) : w.heap.size ≤ gb286)); clear HB; have HB := n0_; have BK286 := n1_; have GW286 := n2_; have GE286 := n3_; clear n0_ n1_ n2_ n3_; clear hb hbox hg; have hcz6_0 : w5.cell? ⟨gb286, 0, none⟩ = some (.int .i64 a0_0) := (blk_cell BK286.out 0).trans rfl; have hcz6_1 : w5.cell? ⟨gb286, 1, none⟩ = some (.int .i64 a0_1) := (blk_cell BK286.out 1).trans rfl; have hcz6_2 : w5.cell? ⟨gb286, 2, none⟩ = some (.int .i64 a0_2) := (blk_cell BK286.out 2).trans rfl; have hcz6_3 : w5.cell? ⟨gb286, 3, none⟩ = some (.int .i64 a0_3) := (blk_cell BK286.out 3).trans rfl; have hcz6_4 : w5.cell? ⟨gb286, 4, none⟩ = some (.int .i64 a0_4) := (blk_cell BK286.out 4).trans rfl; have hfz6_0 := blk_frozen BK286.out 0; have hfz6_1 := blk_frozen BK286.out 1; have hfz6_2 := blk_frozen BK286.out 2; have hfz6_3 := blk_frozen BK286.out 3; have hfz6_4 := blk_frozen BK286.out 4) | ((with_reducible refine gate_callee (f := 43) rfl ?_); refine goesL_ (some 7) rfl rfl Try.func43 (by kernel_rfl) rfl #[.agg #[.int .i64 a0_0, .int .i64 a0_1, .int .i64 a0_2, .int .i64 a0_3, .int .i64 a0_4]] rfl (by (try simp only [List.map_toArray, List.map_cons, List.map_nil]); first | done | rfl | (simp only [List.length_drop, List.length_take]; rfl)) ?_; (with_reducible refine (rotaref06_Check.calls a0_0 a0_1 a0_2 a0_3 a0_4 t287 _ A2.out).mono ?_); rintro e w7 ⟨rfl, hb⟩; refine ⟨_, rfl, ?_⟩; have n0_ := Aside0.mk (blk_below (g := gb286) (o := .cells #[.int .i64 a0_0, .int .i64 a0_1, .int .i64 a0_2, .int .i64 a0_3, .int .i64 a0_4] 37 (0, 0)) (by (with_reducible repeat (first | refine blk_drewN ?_ _ | refine blk_drew ?_ | refine blk_alloc ?_ _)); exact BK286.out) hb); have n1_ := Aside0.mk (below_step (by repeat (first | (with_reducible first | exact HB.out | apply below_alloc | apply pw_below_drewN | apply below_drew1 | refine below_set ?_ GE286.out) | exact HB.out)) hb); clear BK286; clear HB; have BK286 := n0_; have HB := n1_; clear n0_ n1_; (try clear hb); (try clear hb2); (try clear hk); (try clear hi); have hcz8_0 : w7.cell? ⟨gb286, 0, none⟩ = some (.int .i64 a0_0) := (blk_cell BK286.out 0).trans rfl; have hcz8_1 : w7.cell? ⟨gb286, 1, none⟩ = some (.int .i64 a0_1) := (blk_cell BK286.out 1).trans rfl; have hcz8_2 : w7.cell? ⟨gb286, 2, none⟩ = some (.int .i64 a0_2) := (blk_cell BK286.out 2).trans rfl; have hcz8_3 : w7.cell? ⟨gb286, 3, none⟩ = some (.int .i64 a0_3) := (blk_cell BK286.out 3).trans rfl; have hcz8_4 : w7.cell? ⟨gb286, 4, none⟩ = some (.int .i64 a0_4) := (blk_cell BK286.out 4).trans rfl; have hfz8_0 := blk_frozen BK286.out 0; have hfz8_1 := blk_frozen BK286.out 1; have hfz8_2 := blk_frozen BK286.out 2; have hfz8_3 := blk_frozen BK286.out 3; have hfz8_4 := blk_frozen BK286.out 4))
      go_ret2
      exact ⟨by first | rfl | (simp [errW_none, errW_some] <;> rfl) | (simp [*, errW_none, errW_some] <;> rfl), by repeat (first | (with_reducible first | exact HB.out | apply below_alloc | apply pw_below_drewN | apply below_drew1 | refine below_set ?_ GE286.out) | exact HB.out)⟩
    · rw [if_neg c4] at H
      have c4b0 : decide (a0_4 < 0) = false := decide_eq_false c4
      clear c4
      simp only [Option.some.injEq, Prod.mk.injEq] at H
      obtain ⟨rfl, rfl⟩ := H
      go_enter Try.func37, Try.ntmps37
      go_wp2_with (first | ((with_reducible refine gate_dst (N := 1) rfl ?_); refine box_event ?hg (N := 1) ?hd (cs := #[.int .i64 a0_0, .int .i64 a0_1, .int .i64 a0_2, .int .i64 a0_3, .int .i64 a0_4]) (t := 37) ?hr ?_; (case hd => rfl); (case hg => rfl); (case hr => first | (go_simp; done) | (go_simp; rfl)); intro gb286 hg w9 hbox hb; have n0_ := Aside0.mk (below_step (by repeat (first | (with_reducible first | exact HB.out | apply below_alloc | apply pw_below_drewN | apply below_drew1) | exact HB.out)) hb); have n1_ := Aside0.mk (hbox); have n2_ := Aside0.mk ((by rw [hg]; exact (below_size (by repeat (first | (with_reducible first | exact HB.out | apply below_alloc | apply pw_below_drewN | apply below_drew1) | exact HB.out))) : w.heap.size ≤ gb286)); have n3_ := Aside0.mk ((by rw [hg]; exact (below_size (by repeat (first | (with_reducible first | exact HB.out | apply below_alloc | apply pw_below_drewN | apply below_drew1) | exact HB.out))) : w.heap.size ≤ gb286)); clear HB; have HB := n0_; have BK286 := n1_; have GW286 := n2_; have GE286 := n3_; clear n0_ n1_ n2_ n3_; clear hb hbox hg; have hcz10_0 : w9.cell? ⟨gb286, 0, none⟩ = some (.int .i64 a0_0) := (blk_cell BK286.out 0).trans rfl; have hcz10_1 : w9.cell? ⟨gb286, 1, none⟩ = some (.int .i64 a0_1) := (blk_cell BK286.out 1).trans rfl; have hcz10_2 : w9.cell? ⟨gb286, 2, none⟩ = some (.int .i64 a0_2) := (blk_cell BK286.out 2).trans rfl; have hcz10_3 : w9.cell? ⟨gb286, 3, none⟩ = some (.int .i64 a0_3) := (blk_cell BK286.out 3).trans rfl; have hcz10_4 : w9.cell? ⟨gb286, 4, none⟩ = some (.int .i64 a0_4) := (blk_cell BK286.out 4).trans rfl; have hfz10_0 := blk_frozen BK286.out 0; have hfz10_1 := blk_frozen BK286.out 1; have hfz10_2 := blk_frozen BK286.out 2; have hfz10_3 := blk_frozen BK286.out 3; have hfz10_4 := blk_frozen BK286.out 4) | ((with_reducible refine gate_callee (f := 43) rfl ?_); refine goesL_ (some 7) rfl rfl Try.func43 (by kernel_rfl) rfl #[.agg #[.int .i64 a0_0, .int .i64 a0_1, .int .i64 a0_2, .int .i64 a0_3, .int .i64 a0_4]] rfl (by (try simp only [List.map_toArray, List.map_cons, List.map_nil]); first | done | rfl | (simp only [List.length_drop, List.length_take]; rfl)) ?_; (with_reducible refine (rotaref06_Check.calls a0_0 a0_1 a0_2 a0_3 a0_4 t287 _ A2.out).mono ?_); rintro e w11 ⟨rfl, hb⟩; refine ⟨_, rfl, ?_⟩; have n0_ := Aside0.mk (blk_below (g := gb286) (o := .cells #[.int .i64 a0_0, .int .i64 a0_1, .int .i64 a0_2, .int .i64 a0_3, .int .i64 a0_4] 37 (0, 0)) (by (with_reducible repeat (first | refine blk_drewN ?_ _ | refine blk_drew ?_ | refine blk_alloc ?_ _)); exact BK286.out) hb); have n1_ := Aside0.mk (below_step (by repeat (first | (with_reducible first | exact HB.out | apply below_alloc | apply pw_below_drewN | apply below_drew1 | refine below_set ?_ GE286.out) | exact HB.out)) hb); clear BK286; clear HB; have BK286 := n0_; have HB := n1_; clear n0_ n1_; (try clear hb); (try clear hb2); (try clear hk); (try clear hi); have hcz12_0 : w11.cell? ⟨gb286, 0, none⟩ = some (.int .i64 a0_0) := (blk_cell BK286.out 0).trans rfl; have hcz12_1 : w11.cell? ⟨gb286, 1, none⟩ = some (.int .i64 a0_1) := (blk_cell BK286.out 1).trans rfl; have hcz12_2 : w11.cell? ⟨gb286, 2, none⟩ = some (.int .i64 a0_2) := (blk_cell BK286.out 2).trans rfl; have hcz12_3 : w11.cell? ⟨gb286, 3, none⟩ = some (.int .i64 a0_3) := (blk_cell BK286.out 3).trans rfl; have hcz12_4 : w11.cell? ⟨gb286, 4, none⟩ = some (.int .i64 a0_4) := (blk_cell BK286.out 4).trans rfl; have hfz12_0 := blk_frozen BK286.out 0; have hfz12_1 := blk_frozen BK286.out 1; have hfz12_2 := blk_frozen BK286.out 2; have hfz12_3 := blk_frozen BK286.out 3; have hfz12_4 := blk_frozen BK286.out 4))
      go_ret2
      exact ⟨by first | rfl | (simp [errW_none, errW_some] <;> rfl) | (simp [*, errW_none, errW_some] <;> rfl), by repeat (first | (with_reducible first | exact HB.out | apply below_alloc | apply pw_below_drewN | apply below_drew1 | refine below_set ?_ GE286.out) | exact HB.out)⟩
  · rw [if_neg c3] at H
    have c3b0 : (t287 == 0) = false := beq_eq_false_iff_ne.mpr c3
    have c3b1 : (t287 != 0) = true := bne_iff_ne.mpr c3
    simp only [Option.some.injEq, Prod.mk.injEq] at H
    obtain ⟨rfl, rfl⟩ := H
    go_enter Try.func37, Try.ntmps37
    go_wp2_with (first | ((with_reducible refine gate_dst (N := 1) rfl ?_); refine box_event ?hg (N := 1) ?hd (cs := #[.int .i64 a0_0, .int .i64 a0_1, .int .i64 a0_2, .int .i64 a0_3, .int .i64 a0_4]) (t := 37) ?hr ?_; (case hd => rfl); (case hg => rfl); (case hr => first | (go_simp; done) | (go_simp; rfl)); intro gb286 hg w13 hbox hb; have n0_ := Aside0.mk (below_step (by repeat (first | (with_reducible first | exact HB.out | apply below_alloc | apply pw_below_drewN | apply below_drew1) | exact HB.out)) hb); have n1_ := Aside0.mk (hbox); have n2_ := Aside0.mk ((by rw [hg]; exact (below_size (by repeat (first | (with_reducible first | exact HB.out | apply below_alloc | apply pw_below_drewN | apply below_drew1) | exact HB.out))) : w.heap.size ≤ gb286)); have n3_ := Aside0.mk ((by rw [hg]; exact (below_size (by repeat (first | (with_reducible first | exact HB.out | apply below_alloc | apply pw_below_drewN | apply below_drew1) | exact HB.out))) : w.heap.size ≤ gb286)); clear HB; have HB := n0_; have BK286 := n1_; have GW286 := n2_; have GE286 := n3_; clear n0_ n1_ n2_ n3_; clear hb hbox hg; have hcz14_0 : w13.cell? ⟨gb286, 0, none⟩ = some (.int .i64 a0_0) := (blk_cell BK286.out 0).trans rfl; have hcz14_1 : w13.cell? ⟨gb286, 1, none⟩ = some (.int .i64 a0_1) := (blk_cell BK286.out 1).trans rfl; have hcz14_2 : w13.cell? ⟨gb286, 2, none⟩ = some (.int .i64 a0_2) := (blk_cell BK286.out 2).trans rfl; have hcz14_3 : w13.cell? ⟨gb286, 3, none⟩ = some (.int .i64 a0_3) := (blk_cell BK286.out 3).trans rfl; have hcz14_4 : w13.cell? ⟨gb286, 4, none⟩ = some (.int .i64 a0_4) := (blk_cell BK286.out 4).trans rfl; have hfz14_0 := blk_frozen BK286.out 0; have hfz14_1 := blk_frozen BK286.out 1; have hfz14_2 := blk_frozen BK286.out 2; have hfz14_3 := blk_frozen BK286.out 3; have hfz14_4 := blk_frozen BK286.out 4) | ((with_reducible refine gate_callee (f := 43) rfl ?_); refine goesL_ (some 7) rfl rfl Try.func43 (by kernel_rfl) rfl #[.agg #[.int .i64 a0_0, .int .i64 a0_1, .int .i64 a0_2, .int .i64 a0_3, .int .i64 a0_4]] rfl (by (try simp only [List.map_toArray, List.map_cons, List.map_nil]); first | done | rfl | (simp only [List.length_drop, List.length_take]; rfl)) ?_; (with_reducible refine (rotaref06_Check.calls a0_0 a0_1 a0_2 a0_3 a0_4 t287 _ A2.out).mono ?_); rintro e w15 ⟨rfl, hb⟩; refine ⟨_, rfl, ?_⟩; have n0_ := Aside0.mk (blk_below (g := gb286) (o := .cells #[.int .i64 a0_0, .int .i64 a0_1, .int .i64 a0_2, .int .i64 a0_3, .int .i64 a0_4] 37 (0, 0)) (by (with_reducible repeat (first | refine blk_drewN ?_ _ | refine blk_drew ?_ | refine blk_alloc ?_ _)); exact BK286.out) hb); have n1_ := Aside0.mk (below_step (by repeat (first | (with_reducible first | exact HB.out | apply below_alloc | apply pw_below_drewN | apply below_drew1 | refine below_set ?_ GE286.out) | exact HB.out)) hb); clear BK286; clear HB; have BK286 := n0_; have HB := n1_; clear n0_ n1_; (try clear hb); (try clear hb2); (try clear hk); (try clear hi)))
    go_ret2
    exact ⟨by first | rfl | (simp [errW_none, errW_some] <;> rfl) | (simp [*, errW_none, errW_some] <;> rfl), by repeat (first | (with_reducible first | exact HB.out | apply below_alloc | apply pw_below_drewN | apply below_drew1 | refine below_set ?_ GE286.out) | exact HB.out)⟩

end Go.Proofs.Ythjfmlehkcccfaa.GA
end

section
/-
  rotalaw09.lives: true.
-/
set_option linter.unusedVariables false
set_option linter.unusedSimpArgs false
namespace Go.Proofs.Ythjfmlehkcccfaa.Hlives
open Go.RowKit Go.Proofs.YthjfmlehkcccfaaW.PrintWords Go.Proofs.YthjfmlehkcccfaaW.PrintLast Go.Proofs.YthjfmlehkcccfaaW.PrintMore GA Hctx Hsmall Hone Heq

theorem mem_fresh {e : List TypeId} {w W : World} (hB : Below w.heap.size w W) : Mem e w W [] [] := ⟨hB, (fun x hx => by cases hx), List.Pairwise.nil, (fun r hr => by cases hr), (fun i r hr => by simp at hr)⟩
theorem reps_one_ (w : World) (base : Nat) : Reps ((Kd.int .u32).M w base (fun _ => True)) (Kd.int .u32).sz [(36700167 : Int)] [Value.int .u32 36700167] := by
  exact Reps.one rfl (Reps.none _ _)

set_option maxHeartbeats 2000000 in
set_option maxRecDepth 100000 in
theorem lives_calls (w : World) : Calls Try.prog 14 #[] w fun e w' => e = .returned (.bool true) ∧ Below w.heap.size w w' := by
  have hg := Try.eqGuardType40
  have hq2 : ∀ W, (binOp .eql 40 (.agg want0) (.agg #[.int .i64 0, .int .i64 0, .int .i64 0, .int .i64 0, .int .i64 0, .int .i64 0, .int .i64 0, .int .i64 0, .int .i64 0, .int .i64 0, .int .i64 0])).run Try.prog W = .ok (.bool true) W := fun W => eq_want W 0 0 0 0 0 0 0 0 0 0 0
  have hq : ∀ W, (binOp .eql 40 (.agg want0) (.agg want0)).run Try.prog W = .ok (.bool true) W := fun W => eq_want W 0 0 0 0 0 0 0 0 0 0 0
  have hu40 := Try.underlying40
  have M0 := Aside0.mk (Mem.start [3] w)
  go_enter Try.func14, Try.ntmps14
  go_wp2_with fail
  refine (rotaref06_Encode.calls 2 3 0 0 7 36700167 0 _ (by kernel_rfl)).mono ?_
  rintro e W7 ⟨rfl, hb⟩
  have M1 := Aside0.mk (Mem.call M0.out hb)
  clear M0 hb
  go_wp2_with (first
    | ((with_reducible refine gate_dst (N := 12) rfl ?_); refine Kd.R_lit (Kd.int .u32) (w0 := w) w.heap.size 61 ?hg (N := 12) ?hd (xs := [36700167]) (inner := [.int .u32 36700167]) (ok := fun _ => True) (okp := fun _ => True) ?hr ?hp (fun _ hk => hk) trivial M1.out.below M1.out.below.size (by simp) ?_; (case hd => rfl); (case hg => rfl); (case hr => first | (go_simp; done) | (go_simp; rfl)); (case hp => exact reps_one_ _ _); intro v12 W12 hR hB hg _; obtain ⟨A12, c12, hv_⟩ := Kd.R_slice hR; simp only [List.length_cons, List.length_nil, Nat.zero_add] at hv_; subst hv_; have HC := Aside0.mk (Kd.R_reads' hR); have M2 := Aside0.mk (mem_fresh (e := [3]) hB); clear M1 hR hB hg))
  refine (p_set [36700167] [] [] A12 none none c12 0 0 0 zeroR none 0 [] 0 0 0 _ HC.out.2.2 HC.out.2.1 (Kd.C_nil _ _) (Nat.le_refl _) (Kd.C_nil _ _) (Nat.le_refl _) (Kd.C_nil _ _) (Nat.le_refl _) (by decide) 3 0 0 7 (by decide) (by decide) (by decide) (by decide) (by decide) (by kernel_rfl)).mono ?_
  rintro e W16 ⟨v16, rfl, hR, hb⟩
  obtain ⟨A16, c16, hv_⟩ := Kd.R_slice hR
  simp only [List.length_nil] at hv_
  subst hv_
  have M3 := Aside0.mk (Mem.row M2.out hb hR)
  clear M2 hR hb
  skip
  go_wp2_with (first
    | (refine eB M3 3 (ctx 0 zeroR (.slice none 0 0)) 30 ?_; clear M3; intro g3 w3 M4)
    | (refine eB M4 4 want0 40 ?_; clear M4; intro g4 w4 M5)
    | (refine eR M5 30 3 0 (ctx 1 (zeroR.set 3 7) (.slice A16 0 c16)) ?_; clear M5; intro w_ M6)
    | (refine eR M6 40 4 1 want0 ?_; clear M6; intro w_ M7)
    | ((with_reducible refine gate_dst (N := 21) rfl ?_); refine load_event rfl (N := 21) rfl (t := 2) (p := 20) rfl ⟨g3, 4, none⟩ (.int .i64 7) ?hp (fun _ => by kernel_rfl) ((M7.out.cell 0 rfl 4).trans rfl) ?_; (case hp => first | rfl | (go_simp; done) | (go_simp; rfl)))
    | ((with_reducible refine gate_dst (N := 25) rfl ?_); (refine gate_guard (by rfl) ?_; dsimp only); refine eC M7 25 0 0 (.int .i64 1) ?_)
    | ((with_reducible refine gate_dst (N := 29) rfl ?_); (refine gate_guard (by rfl) ?_; dsimp only); refine eL M7 29 1 hu40 ?_))
  go_ret
  exact ⟨rfl, M7.out.below⟩
end Go.Proofs.Ythjfmlehkcccfaa.Hlives
end

section
/-
  rotaref09.Same, walked.
-/
set_option linter.unusedVariables false
set_option linter.unusedSimpArgs false
namespace Go.Proofs.Ythjfmlehkcccfaa.Hsame
open Go.RowKit Go.Proofs.YthjfmlehkcccfaaW.PrintWords Go.Proofs.YthjfmlehkcccfaaW.PrintLast Go.Proofs.YthjfmlehkcccfaaW.PrintMore GA Hctx Hsmall Heq

theorem mem_regs {e : List TypeId} {w0 W : World} {L : List (Nat × Array Value × TypeId)} {rows : List Row} (M : Mem e w0 W L rows) (i : Nat) {g : Nat} {pc : Int} {r : Regs} {u : Value} {t : TypeId} (h : L[i]? = some (g, ctx pc r u, t)) : W.rangeAt g 1 (arr r).toList := fun j x hx => by
  have hj : j < 16 := by
    have := (List.getElem?_eq_some_iff.1 hx).1
    simpa [arr] using this
  rw [M.cell i h (1 + j), ctx_reg _ _ _ _ hj, ← arr_at r j hj]
  simpa using hx

set_option maxHeartbeats 2000000 in
set_option maxRecDepth 100000 in
theorem same_calls (pc : Int) (r : Regs) (A B : Option Addr) (c cb : Nat) (l : List Int) (w : World) (hl : Kd.C (Kd.int .i64) w A l.length l) (hm : Kd.C (Kd.int .i64) w B l.length l) (hlim : l.length < 17592186044416) :
    Calls Try.prog 15 #[.agg (ctx pc r (.slice A l.length c)), .agg (ctx pc r (.slice B l.length cb))] w fun e w' => e = .returned (.bool true) ∧ Below w.heap.size w w' := by
  have hg := Try.eqGuardType27
  have hne : ∀ W, (binOp .neq 27 (.agg (arr r)) (.agg (arr r))).run Try.prog W = .ok (.bool false) W := fun W => by rw [neq_regs, Regs.eqb_self]; rfl
  have hu27 := Try.underlying27
  have HL := Aside0.mk hl
  have HM := Aside0.mk hm
  clear hl hm
  have M0 := Aside0.mk (Mem.start [3] w)
  go_enter Try.func15, Try.ntmps15
  go_wp2_with (first
    | (refine eB M0 2 (ctx pc r (.slice A l.length c)) 30 ?_; clear M0; intro g2 w2 M1)
    | (refine eB M1 3 (ctx pc r (.slice B l.length cb)) 30 ?_; clear M1; intro g3 w3 M2)
    | (refine eC M2 7 0 0 (.int .i64 pc) ?_)
    | (refine eC M2 9 1 0 (.int .i64 pc) ?_)
    | ((with_reducible refine gate_dst (N := 13) rfl ?_); (refine gate_guard (by rfl) ?_; dsimp only); refine wpList_load_mid rfl 27 (.tmp 12) rfl g2 1 rfl (arr r).toList _ (mem_regs M2.out 0 rfl) hu27 rfl (by kernel_rfl) ?_)
    | ((with_reducible refine gate_dst (N := 15) rfl ?_); (refine gate_guard (by rfl) ?_; dsimp only); refine wpList_load_mid rfl 27 (.tmp 14) rfl g3 1 rfl (arr r).toList _ (mem_regs M2.out 1 rfl) hu27 rfl (by kernel_rfl) ?_)
    | ((with_reducible refine gate_dst (N := 20) rfl ?_); (refine gate_guard (by rfl) ?_; dsimp only); refine eC M2 20 0 17 (.slice A l.length c) ?_)
    | ((with_reducible refine gate_dst (N := 23) rfl ?_); (refine gate_guard (by rfl) ?_; dsimp only); refine eC M2 23 1 17 (.slice B l.length cb) ?_))
  go_loopw [5] (fun v5 wr => ∃ k : Nat, k ≤ l.length ∧ v5 = .int .i64 k ∧ Mem [3] w wr [(g2, ctx pc r (.slice A l.length c), 30), (g3, ctx pc r (.slice B l.length cb), 30)] []) (fun v5 _ => l.length - (intOf v5).toNat)
  case atStart => exact ⟨0, by omega, rfl, M2.out⟩
  case round =>
    obtain ⟨k, hk, rfl, M⟩ := hrel
    have M3 := Aside0.mk M
    clear M M2
    have y1 := (M3.out.cell 0 rfl 17).trans (show _ = some (Value.slice A l.length c) from rfl)
    have y2 := (M3.out.cell 1 rfl 17).trans (show _ = some (Value.slice B l.length cb) from rfl)
    by_cases hlt : k < l.length
    · obtain ⟨ad, rfl, hx⟩ := Kd.at_int (Kd.C_below HL.out M3.out.below) (k : Int) (by omega) (by omega)
      obtain ⟨bd, rfl, hy⟩ := Kd.at_int (Kd.C_below HM.out M3.out.below) (k : Int) (by omega) (by omega)
      rw [Int.toNat_natCast] at hx hy
      have p1 : (0 : Int) ≤ (k : Int) := by omega
      have p2 : (k : Int) < (l.length : Int) := by omega
      go_wp2
      go_quiet (fail)
      go_wp2
      go_roundw
      case rel => exact ⟨k + 1, by omega, by go_num, M3.out.drewN _⟩
      case measure => simp [intOf]; omega
    · go_wp2
      go_ret
      exact ⟨rfl, M3.out.below⟩
end Go.Proofs.Ythjfmlehkcccfaa.Hsame
end
