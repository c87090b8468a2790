import Derived.Test.YthjfmlehkcccfaaMAnswers0
import Derived.Deep.QuietTactic
import Derived.BigQuiet
import Derived.Deep.MidRow
import Derived.Lib.Hide
import Derived.Outline
import Derived.Test.YthjfmlehkcccfaaWLast
import Derived.Deep.RegionHeld3
import Derived.Test.YthjfmlehkcccfaaRows
import Derived.Test.YthjfmlehkcccfaaWMore
import Derived.ChangeArms
import Derived.DataReads
import Derived.OpenShut
import Derived.DataElems
import Derived.SizedLaws
import Derived.ProofKit
import Derived.WalkKit
import Derived.ShutString
import Derived.ChangeOld
import Derived.Below
import Derived.Lib.SmallJoins
section
-- laid by a program of this session (wip/gp.sh)
namespace Go.Proofs.Ythjfmlehkcccfaa.GA
open Go.RowKit Go.Proofs.YthjfmlehkcccfaaW.PrintWords Go.Proofs.YthjfmlehkcccfaaW.PrintLast Go.Proofs.YthjfmlehkcccfaaW.PrintMore
attribute [local go_sem] max2_int min2_int max_two min_two max_three min_three max_four min_four   -- for this text's walks alone
set_option linter.unusedVariables false
set_option linter.unusedSimpArgs false

/-! ### rotaref06_Check: function 43 -/
def rotaref06_Check.f (a0_0 : Int) (a0_1 : Int) (a0_2 : Int) (a0_3 : Int) (a0_4 : Int) : Option (Int) := (rotaref06_table.f a0_0).bind fun bt271 => (if bt271.2.2.2.2.2 = true then ((rotaref06_Has.f bt271.2.1).bind fun bt278 => ((rotaref06_fits.f a0_1 bt278.1).bind fun t283 => (if t283 = true then ((rotaref06_fits.f a0_2 bt278.2.1).bind fun t284 => (if t284 = true then ((rotaref06_fits.f a0_3 bt278.2.2.1).bind fun t285 => (if t285 = true then (if a0_4 < bt278.2.2.2.1 then (some 61) else (if a0_4 > bt278.2.2.2.2 then (some 61) else (some 0))) else (some 61))) else (some 61))) else (some 61)))) else (some 60))
set_option maxHeartbeats 8000000 in
set_option maxRecDepth 100000 in
theorem rotaref06_Check.calls (a0_0 : Int) (a0_1 : Int) (a0_2 : Int) (a0_3 : Int) (a0_4 : Int) (r : Int) (w : World) (h : rotaref06_Check.f a0_0 a0_1 a0_2 a0_3 a0_4 = some r) :
    Calls Try.prog 43 #[.agg #[.int .i64 a0_0, .int .i64 a0_1, .int .i64 a0_2, .int .i64 a0_3, .int .i64 a0_4]] w fun e w' => e = .returned (.int .i64 r) ∧ Below w.heap.size w w' := by
  have hu37 := Try.underlying37
  have hu86 := Try.underlying86
  have HB := Aside0.mk (Below.refl w.heap.size w)
  have H : ((rotaref06_table.f a0_0).bind fun bt271 => (if bt271.2.2.2.2.2 = true then ((rotaref06_Has.f bt271.2.1).bind fun bt278 => ((rotaref06_fits.f a0_1 bt278.1).bind fun t283 => (if t283 = true then ((rotaref06_fits.f a0_2 bt278.2.1).bind fun t284 => (if t284 = true then ((rotaref06_fits.f a0_3 bt278.2.2.1).bind fun t285 => (if t285 = true then (if a0_4 < bt278.2.2.2.1 then (some 61) else (if a0_4 > bt278.2.2.2.2 then (some 61) else (some 0))) else (some 61))) else (some 61))) else (some 61)))) else (some 60))) = some r := h
  clear h
  replace H := Option.bind_eq_some_iff.mp H
  obtain ⟨⟨t271, t272, t273, t274, t275, t276⟩, A20, H⟩ := H
  replace H : (if t276 = true then ((rotaref06_Has.f t272).bind fun bt278 => ((rotaref06_fits.f a0_1 bt278.1).bind fun t283 => (if t283 = true then ((rotaref06_fits.f a0_2 bt278.2.1).bind fun t284 => (if t284 = true then ((rotaref06_fits.f a0_3 bt278.2.2.1).bind fun t285 => (if t285 = true then (if a0_4 < bt278.2.2.2.1 then (some 61) else (if a0_4 > bt278.2.2.2.2 then (some 61) else (some 0))) else (some 61))) else (some 61))) else (some 61)))) else (some 60)) = some r := H
  have A2 := Aside0.mk A20
  clear A20
  by_cases c3 : t276 = true
  · subst c3
    have H1 : ((rotaref06_Has.f t272).bind fun bt278 => ((rotaref06_fits.f a0_1 bt278.1).bind fun t283 => (if t283 = true then ((rotaref06_fits.f a0_2 bt278.2.1).bind fun t284 => (if t284 = true then ((rotaref06_fits.f a0_3 bt278.2.2.1).bind fun t285 => (if t285 = true then (if a0_4 < bt278.2.2.2.1 then (some 61) else (if a0_4 > bt278.2.2.2.2 then (some 61) else (some 0))) else (some 61))) else (some 61))) else (some 61)))) = some r := by rw [if_pos rfl] at H; exact H
    clear H
    have H := H1
    clear H1
    replace H := Option.bind_eq_some_iff.mp H
    obtain ⟨⟨t278, t279, t280, t281, t282⟩, A40, H⟩ := H
    replace H : ((rotaref06_fits.f a0_1 t278).bind fun t283 => (if t283 = true then ((rotaref06_fits.f a0_2 t279).bind fun t284 => (if t284 = true then ((rotaref06_fits.f a0_3 t280).bind fun t285 => (if t285 = true then (if a0_4 < t281 then (some 61) else (if a0_4 > t282 then (some 61) else (some 0))) else (some 61))) else (some 61))) else (some 61))) = some r := H
    have A4 := Aside0.mk A40
    clear A40
    replace H := Option.bind_eq_some_iff.mp H
    obtain ⟨t283, A50, H⟩ := H
    replace H : (if t283 = true then ((rotaref06_fits.f a0_2 t279).bind fun t284 => (if t284 = true then ((rotaref06_fits.f a0_3 t280).bind fun t285 => (if t285 = true then (if a0_4 < t281 then (some 61) else (if a0_4 > t282 then (some 61) else (some 0))) else (some 61))) else (some 61))) else (some 61)) = some r := H
    have A5 := Aside0.mk A50
    clear A50
    by_cases c6 : t283 = true
    · subst c6
      have H1 : ((rotaref06_fits.f a0_2 t279).bind fun t284 => (if t284 = true then ((rotaref06_fits.f a0_3 t280).bind fun t285 => (if t285 = true then (if a0_4 < t281 then (some 61) else (if a0_4 > t282 then (some 61) else (some 0))) else (some 61))) else (some 61))) = some r := by rw [if_pos rfl] at H; exact H
      clear H
      have H := H1
      clear H1
      replace H := Option.bind_eq_some_iff.mp H
      obtain ⟨t284, A70, H⟩ := H
      replace H : (if t284 = true then ((rotaref06_fits.f a0_3 t280).bind fun t285 => (if t285 = true then (if a0_4 < t281 then (some 61) else (if a0_4 > t282 then (some 61) else (some 0))) else (some 61))) else (some 61)) = some r := H
      have A7 := Aside0.mk A70
      clear A70
      by_cases c8 : t284 = true
      · subst c8
        have H1 : ((rotaref06_fits.f a0_3 t280).bind fun t285 => (if t285 = true then (if a0_4 < t281 then (some 61) else (if a0_4 > t282 then (some 61) else (some 0))) else (some 61))) = some r := by rw [if_pos rfl] at H; exact H
        clear H
        have H := H1
        clear H1
        replace H := Option.bind_eq_some_iff.mp H
        obtain ⟨t285, A90, H⟩ := H
        replace H : (if t285 = true then (if a0_4 < t281 then (some 61) else (if a0_4 > t282 then (some 61) else (some 0))) else (some 61)) = some r := H
        have A9 := Aside0.mk A90
        clear A90
        by_cases c10 : t285 = true
        · subst c10
          have H1 : (if a0_4 < t281 then (some 61) else (if a0_4 > t282 then (some 61) else (some 0))) = some r := by rw [if_pos rfl] at H; exact H
          clear H
          have H := H1
          clear H1
          by_cases c11 : a0_4 < t281
          · rw [if_pos c11] at H
            have c11b0 : decide (a0_4 < t281) = true := decide_eq_true c11
            clear c11
            obtain rfl := Option.some.inj H
            go_enter Try.func43, Try.ntmps43
            go_wp2_with (first | ((with_reducible refine gate_dst (N := 1) rfl ?_); refine box_event ?hg (N := 1) ?hd (cs := #[.int .i64 a0_0, .int .i64 a0_1, .int .i64 a0_2, .int .i64 a0_3, .int .i64 a0_4]) (t := 37) ?hr ?_; (case hd => rfl); (case hg => rfl); (case hr => first | (go_simp; done) | (go_simp; rfl)); intro gb270 hg w12 hbox hb; have n0_ := Aside0.mk (below_step (by repeat (first | (with_reducible first | exact HB.out | apply below_alloc | apply pw_below_drewN | apply below_drew1) | exact HB.out)) hb); have n1_ := Aside0.mk (hbox); have n2_ := Aside0.mk ((by rw [hg]; exact (below_size (by repeat (first | (with_reducible first | exact HB.out | apply below_alloc | apply pw_below_drewN | apply below_drew1) | exact HB.out))) : w.heap.size ≤ gb270)); have n3_ := Aside0.mk ((by rw [hg]; exact (below_size (by repeat (first | (with_reducible first | exact HB.out | apply below_alloc | apply pw_below_drewN | apply below_drew1) | exact HB.out))) : w.heap.size ≤ gb270)); clear HB; have HB := n0_; have BK270 := n1_; have GW270 := n2_; have GE270 := n3_; clear n0_ n1_ n2_ n3_; clear hb hbox hg; have hcz13_0 : w12.cell? ⟨gb270, 0, none⟩ = some (.int .i64 a0_0) := (blk_cell BK270.out 0).trans rfl; have hcz13_1 : w12.cell? ⟨gb270, 1, none⟩ = some (.int .i64 a0_1) := (blk_cell BK270.out 1).trans rfl; have hcz13_2 : w12.cell? ⟨gb270, 2, none⟩ = some (.int .i64 a0_2) := (blk_cell BK270.out 2).trans rfl; have hcz13_3 : w12.cell? ⟨gb270, 3, none⟩ = some (.int .i64 a0_3) := (blk_cell BK270.out 3).trans rfl; have hcz13_4 : w12.cell? ⟨gb270, 4, none⟩ = some (.int .i64 a0_4) := (blk_cell BK270.out 4).trans rfl; have hfz13_0 := blk_frozen BK270.out 0; have hfz13_1 := blk_frozen BK270.out 1; have hfz13_2 := blk_frozen BK270.out 2; have hfz13_3 := blk_frozen BK270.out 3; have hfz13_4 := blk_frozen BK270.out 4) | ((with_reducible refine gate_callee (f := 40) rfl ?_); refine goesL_ (some 13) rfl rfl Try.func40 (by kernel_rfl) rfl #[.int .i64 a0_0] rfl (by (try simp only [List.map_toArray, List.map_cons, List.map_nil]); first | done | rfl | (simp only [List.length_drop, List.length_take]; rfl)) ?_; (with_reducible refine (rotaref06_table.calls a0_0 t271 t272 t273 t274 t275 true _ A2.out).mono ?_); rintro e w14 ⟨rfl, hb⟩; refine ⟨_, rfl, ?_⟩; have n0_ := Aside0.mk (blk_below (g := gb270) (o := .cells #[.int .i64 a0_0, .int .i64 a0_1, .int .i64 a0_2, .int .i64 a0_3, .int .i64 a0_4] 37 (0, 0)) (by (with_reducible repeat (first | refine blk_drewN ?_ _ | refine blk_drew ?_ | refine blk_alloc ?_ _)); exact BK270.out) hb); have n1_ := Aside0.mk (below_step (by repeat (first | (with_reducible first | exact HB.out | apply below_alloc | apply pw_below_drewN | apply below_drew1 | refine below_set ?_ GE270.out) | exact HB.out)) hb); clear BK270; clear HB; have BK270 := n0_; have HB := n1_; clear n0_ n1_; (try clear hb); (try clear hb2); (try clear hk); (try clear hi)) | ((with_reducible refine gate_dst (N := 3) rfl ?_); refine box_event ?hg (N := 3) ?hd (cs := #[.string (⟨#[]⟩ : ByteArray), .int .i64 0, .int .i64 0, .string (⟨#[]⟩ : ByteArray), .string (⟨#[]⟩ : ByteArray)]) (t := 86) ?hr ?_; (case hd => rfl); (case hg => rfl); (case hr => first | (go_simp; done) | (go_simp; rfl)); intro gb277 hg w15 hbox hb; have n0_ := Aside0.mk (blk_below (g := gb270) (o := .cells #[.int .i64 a0_0, .int .i64 a0_1, .int .i64 a0_2, .int .i64 a0_3, .int .i64 a0_4] 37 (0, 0)) (by (with_reducible repeat (first | refine blk_drewN ?_ _ | refine blk_drew ?_ | refine blk_alloc ?_ _)); exact BK270.out) hb); have n1_ := Aside0.mk (below_step (by repeat (first | (with_reducible first | exact HB.out | apply below_alloc | apply pw_below_drewN | apply below_drew1 | refine below_set ?_ GE270.out) | exact HB.out)) hb); have n2_ := Aside0.mk (hbox); have n3_ := Aside0.mk ((by rw [hg]; exact (below_size (by repeat (first | (with_reducible first | exact HB.out | apply below_alloc | apply pw_below_drewN | apply below_drew1 | refine below_set ?_ GE270.out) | exact HB.out))) : w.heap.size ≤ gb277)); have n4_ := Aside0.mk ((by rw [hg]; exact (below_size (by repeat (first | (with_reducible first | exact HB.out | apply below_alloc | apply pw_below_drewN | apply below_drew1 | refine below_set ?_ GE270.out) | exact HB.out))) : w.heap.size ≤ gb277)); have n5_ := Aside0.mk ((by rw [hg]; exact Nat.ne_of_lt (blk_lt (g := gb270) (o := .cells #[.int .i64 a0_0, .int .i64 a0_1, .int .i64 a0_2, .int .i64 a0_3, .int .i64 a0_4] 37 (0, 0)) (by (with_reducible repeat (first | refine blk_drewN ?_ _ | refine blk_drew ?_ | refine blk_alloc ?_ _)); exact BK270.out)) : gb270 ≠ gb277)); have n6_ := Aside0.mk ((by rw [hg]; exact Nat.ne_of_gt (blk_lt (g := gb270) (o := .cells #[.int .i64 a0_0, .int .i64 a0_1, .int .i64 a0_2, .int .i64 a0_3, .int .i64 a0_4] 37 (0, 0)) (by (with_reducible repeat (first | refine blk_drewN ?_ _ | refine blk_drew ?_ | refine blk_alloc ?_ _)); exact BK270.out)) : gb277 ≠ gb270)); clear BK270; clear HB; have BK270 := n0_; have HB := n1_; have BK277 := n2_; have GW277 := n3_; have GE277 := n4_; have NB270_277 := n5_; have NB277_270 := n6_; clear n0_ n1_ n2_ n3_ n4_ n5_ n6_; clear hb hbox hg; have hnb16 := NB277_270.out; have hnc16 := NB270_277.out; have hcz17_0 : w15.cell? ⟨gb277, 0, none⟩ = some (.string (⟨#[]⟩ : ByteArray)) := (blk_cell BK277.out 0).trans rfl; have hcz17_1 : w15.cell? ⟨gb277, 1, none⟩ = some (.int .i64 0) := (blk_cell BK277.out 1).trans rfl; have hcz17_2 : w15.cell? ⟨gb277, 2, none⟩ = some (.int .i64 0) := (blk_cell BK277.out 2).trans rfl; have hcz17_3 : w15.cell? ⟨gb277, 3, none⟩ = some (.string (⟨#[]⟩ : ByteArray)) := (blk_cell BK277.out 3).trans rfl; have hcz17_4 : w15.cell? ⟨gb277, 4, none⟩ = some (.string (⟨#[]⟩ : ByteArray)) := (blk_cell BK277.out 4).trans rfl; have hfz17_0 := blk_frozen BK277.out 0; have hfz17_1 := blk_frozen BK277.out 1; have hfz17_2 := blk_frozen BK277.out 2; have hfz17_3 := blk_frozen BK277.out 3; have hfz17_4 := blk_frozen BK277.out 4) | ((with_reducible refine gate_callee (f := 41) rfl ?_); refine goesL_ (some 21) rfl rfl Try.func41 (by kernel_rfl) rfl #[.int .i64 t272] rfl (by (try simp only [List.map_toArray, List.map_cons, List.map_nil]); first | done | rfl | (simp only [List.length_drop, List.length_take]; rfl)) ?_; (with_reducible refine (rotaref06_Has.calls t272 t278 t279 t280 t281 t282 _ A4.out).mono ?_); rintro e w' ⟨rfl, ⟨nd, rfl⟩⟩; refine ⟨_, rfl, ?_⟩; have hcz18_0 : w15.cell? ⟨gb270, 0, none⟩ = some (.int .i64 a0_0) := (blk_cell BK270.out 0).trans rfl; have hcz18_1 : w15.cell? ⟨gb270, 1, none⟩ = some (.int .i64 a0_1) := (blk_cell BK270.out 1).trans rfl; have hcz18_2 : w15.cell? ⟨gb270, 2, none⟩ = some (.int .i64 a0_2) := (blk_cell BK270.out 2).trans rfl; have hcz18_3 : w15.cell? ⟨gb270, 3, none⟩ = some (.int .i64 a0_3) := (blk_cell BK270.out 3).trans rfl; have hcz18_4 : w15.cell? ⟨gb270, 4, none⟩ = some (.int .i64 a0_4) := (blk_cell BK270.out 4).trans rfl; have hfz18_0 := blk_frozen BK270.out 0; have hfz18_1 := blk_frozen BK270.out 1; have hfz18_2 := blk_frozen BK270.out 2; have hfz18_3 := blk_frozen BK270.out 3; have hfz18_4 := blk_frozen BK270.out 4) | ((with_reducible refine gate_callee (f := 42) rfl ?_); refine goesL_ (some 30) rfl rfl Try.func42 (by kernel_rfl) rfl #[.int .i64 a0_1, .bool t278] rfl (by (try simp only [List.map_toArray, List.map_cons, List.map_nil]); first | done | rfl | (simp only [List.length_drop, List.length_take]; rfl)) ?_; (with_reducible refine (rotaref06_fits.calls a0_1 t278 true _ A5.out).mono ?_); rintro e w' ⟨rfl, ⟨nd, rfl⟩⟩; refine ⟨_, rfl, ?_⟩) | (go_at_call 42; (with_reducible refine (rotaref06_fits.calls a0_2 t279 true _ A7.out).mono ?_); rintro e w' ⟨rfl, ⟨nd, rfl⟩⟩) | (go_at_call 42; (with_reducible refine (rotaref06_fits.calls a0_3 t280 true _ A9.out).mono ?_); rintro e w' ⟨rfl, ⟨nd, rfl⟩⟩))
            go_ret
            exact ⟨by first | rfl | (simp [errW_none, errW_some] <;> rfl) | (simp [*, errW_none, errW_some] <;> rfl), by repeat (first | (with_reducible first | exact HB.out | apply below_alloc | apply pw_below_drewN | apply below_drew1 | refine below_set ?_ GE270.out | refine below_set ?_ GE277.out) | exact HB.out)⟩
          · rw [if_neg c11] at H
            have c11b0 : decide (a0_4 < t281) = false := decide_eq_false c11
            clear c11
            by_cases c19 : a0_4 > t282
            · rw [if_pos c19] at H
              have c19b0 : decide (t282 < a0_4) = true := decide_eq_true c19
              clear c19
              obtain rfl := Option.some.inj H
              go_enter Try.func43, Try.ntmps43
              go_wp2_with (first | ((with_reducible refine gate_dst (N := 1) rfl ?_); refine box_event ?hg (N := 1) ?hd (cs := #[.int .i64 a0_0, .int .i64 a0_1, .int .i64 a0_2, .int .i64 a0_3, .int .i64 a0_4]) (t := 37) ?hr ?_; (case hd => rfl); (case hg => rfl); (case hr => first | (go_simp; done) | (go_simp; rfl)); intro gb270 hg w20 hbox hb; have n0_ := Aside0.mk (below_step (by repeat (first | (with_reducible first | exact HB.out | apply below_alloc | apply pw_below_drewN | apply below_drew1) | exact HB.out)) hb); have n1_ := Aside0.mk (hbox); have n2_ := Aside0.mk ((by rw [hg]; exact (below_size (by repeat (first | (with_reducible first | exact HB.out | apply below_alloc | apply pw_below_drewN | apply below_drew1) | exact HB.out))) : w.heap.size ≤ gb270)); have n3_ := Aside0.mk ((by rw [hg]; exact (below_size (by repeat (first | (with_reducible first | exact HB.out | apply below_alloc | apply pw_below_drewN | apply below_drew1) | exact HB.out))) : w.heap.size ≤ gb270)); clear HB; have HB := n0_; have BK270 := n1_; have GW270 := n2_; have GE270 := n3_; clear n0_ n1_ n2_ n3_; clear hb hbox hg; have hcz21_0 : w20.cell? ⟨gb270, 0, none⟩ = some (.int .i64 a0_0) := (blk_cell BK270.out 0).trans rfl; have hcz21_1 : w20.cell? ⟨gb270, 1, none⟩ = some (.int .i64 a0_1) := (blk_cell BK270.out 1).trans rfl; have hcz21_2 : w20.cell? ⟨gb270, 2, none⟩ = some (.int .i64 a0_2) := (blk_cell BK270.out 2).trans rfl; have hcz21_3 : w20.cell? ⟨gb270, 3, none⟩ = some (.int .i64 a0_3) := (blk_cell BK270.out 3).trans rfl; have hcz21_4 : w20.cell? ⟨gb270, 4, none⟩ = some (.int .i64 a0_4) := (blk_cell BK270.out 4).trans rfl; have hfz21_0 := blk_frozen BK270.out 0; have hfz21_1 := blk_frozen BK270.out 1; have hfz21_2 := blk_frozen BK270.out 2; have hfz21_3 := blk_frozen BK270.out 3; have hfz21_4 := blk_frozen BK270.out 4) | ((with_reducible refine gate_callee (f := 40) rfl ?_); refine goesL_ (some 13) rfl rfl Try.func40 (by kernel_rfl) rfl #[.int .i64 a0_0] rfl (by (try simp only [List.map_toArray, List.map_cons, List.map_nil]); first | done | rfl | (simp only [List.length_drop, List.length_take]; rfl)) ?_; (with_reducible refine (rotaref06_table.calls a0_0 t271 t272 t273 t274 t275 true _ A2.out).mono ?_); rintro e w22 ⟨rfl, hb⟩; refine ⟨_, rfl, ?_⟩; have n0_ := Aside0.mk (blk_below (g := gb270) (o := .cells #[.int .i64 a0_0, .int .i64 a0_1, .int .i64 a0_2, .int .i64 a0_3, .int .i64 a0_4] 37 (0, 0)) (by (with_reducible repeat (first | refine blk_drewN ?_ _ | refine blk_drew ?_ | refine blk_alloc ?_ _)); exact BK270.out) hb); have n1_ := Aside0.mk (below_step (by repeat (first | (with_reducible first | exact HB.out | apply below_alloc | apply pw_below_drewN | apply below_drew1 | refine below_set ?_ GE270.out) | exact HB.out)) hb); clear BK270; clear HB; have BK270 := n0_; have HB := n1_; clear n0_ n1_; (try clear hb); (try clear hb2); (try clear hk); (try clear hi)) | ((with_reducible refine gate_dst (N := 3) rfl ?_); refine box_event ?hg (N := 3) ?hd (cs := #[.string (⟨#[]⟩ : ByteArray), .int .i64 0, .int .i64 0, .string (⟨#[]⟩ : ByteArray), .string (⟨#[]⟩ : ByteArray)]) (t := 86) ?hr ?_; (case hd => rfl); (case hg => rfl); (case hr => first | (go_simp; done) | (go_simp; rfl)); intro gb277 hg w23 hbox hb; have n0_ := Aside0.mk (blk_below (g := gb270) (o := .cells #[.int .i64 a0_0, .int .i64 a0_1, .int .i64 a0_2, .int .i64 a0_3, .int .i64 a0_4] 37 (0, 0)) (by (with_reducible repeat (first | refine blk_drewN ?_ _ | refine blk_drew ?_ | refine blk_alloc ?_ _)); exact BK270.out) hb); have n1_ := Aside0.mk (below_step (by repeat (first | (with_reducible first | exact HB.out | apply below_alloc | apply pw_below_drewN | apply below_drew1 | refine below_set ?_ GE270.out) | exact HB.out)) hb); have n2_ := Aside0.mk (hbox); have n3_ := Aside0.mk ((by rw [hg]; exact (below_size (by repeat (first | (with_reducible first | exact HB.out | apply below_alloc | apply pw_below_drewN | apply below_drew1 | refine below_set ?_ GE270.out) | exact HB.out))) : w.heap.size ≤ gb277)); have n4_ := Aside0.mk ((by rw [hg]; exact (below_size (by repeat (first | (with_reducible first | exact HB.out | apply below_alloc | apply pw_below_drewN | apply below_drew1 | refine below_set ?_ GE270.out) | exact HB.out))) : w.heap.size ≤ gb277)); have n5_ := Aside0.mk ((by rw [hg]; exact Nat.ne_of_lt (blk_lt (g := gb270) (o := .cells #[.int .i64 a0_0, .int .i64 a0_1, .int .i64 a0_2, .int .i64 a0_3, .int .i64 a0_4] 37 (0, 0)) (by (with_reducible repeat (first | refine blk_drewN ?_ _ | refine blk_drew ?_ | refine blk_alloc ?_ _)); exact BK270.out)) : gb270 ≠ gb277)); have n6_ := Aside0.mk ((by rw [hg]; exact Nat.ne_of_gt (blk_lt (g := gb270) (o := .cells #[.int .i64 a0_0, .int .i64 a0_1, .int .i64 a0_2, .int .i64 a0_3, .int .i64 a0_4] 37 (0, 0)) (by (with_reducible repeat (first | refine blk_drewN ?_ _ | refine blk_drew ?_ | refine blk_alloc ?_ _)); exact BK270.out)) : gb277 ≠ gb270)); clear BK270; clear HB; have BK270 := n0_; have HB := n1_; have BK277 := n2_; have GW277 := n3_; have GE277 := n4_; have NB270_277 := n5_; have NB277_270 := n6_; clear n0_ n1_ n2_ n3_ n4_ n5_ n6_; clear hb hbox hg; have hnb24 := NB277_270.out; have hnc24 := NB270_277.out; have hcz25_0 : w23.cell? ⟨gb277, 0, none⟩ = some (.string (⟨#[]⟩ : ByteArray)) := (blk_cell BK277.out 0).trans rfl; have hcz25_1 : w23.cell? ⟨gb277, 1, none⟩ = some (.int .i64 0) := (blk_cell BK277.out 1).trans rfl; have hcz25_2 : w23.cell? ⟨gb277, 2, none⟩ = some (.int .i64 0) := (blk_cell BK277.out 2).trans rfl; have hcz25_3 : w23.cell? ⟨gb277, 3, none⟩ = some (.string (⟨#[]⟩ : ByteArray)) := (blk_cell BK277.out 3).trans rfl; have hcz25_4 : w23.cell? ⟨gb277, 4, none⟩ = some (.string (⟨#[]⟩ : ByteArray)) := (blk_cell BK277.out 4).trans rfl; have hfz25_0 := blk_frozen BK277.out 0; have hfz25_1 := blk_frozen BK277.out 1; have hfz25_2 := blk_frozen BK277.out 2; have hfz25_3 := blk_frozen BK277.out 3; have hfz25_4 := blk_frozen BK277.out 4) | ((with_reducible refine gate_callee (f := 41) rfl ?_); refine goesL_ (some 21) rfl rfl Try.func41 (by kernel_rfl) rfl #[.int .i64 t272] rfl (by (try simp only [List.map_toArray, List.map_cons, List.map_nil]); first | done | rfl | (simp only [List.length_drop, List.length_take]; rfl)) ?_; (with_reducible refine (rotaref06_Has.calls t272 t278 t279 t280 t281 t282 _ A4.out).mono ?_); rintro e w' ⟨rfl, ⟨nd, rfl⟩⟩; refine ⟨_, rfl, ?_⟩; have hcz26_0 : w23.cell? ⟨gb270, 0, none⟩ = some (.int .i64 a0_0) := (blk_cell BK270.out 0).trans rfl; have hcz26_1 : w23.cell? ⟨gb270, 1, none⟩ = some (.int .i64 a0_1) := (blk_cell BK270.out 1).trans rfl; have hcz26_2 : w23.cell? ⟨gb270, 2, none⟩ = some (.int .i64 a0_2) := (blk_cell BK270.out 2).trans rfl; have hcz26_3 : w23.cell? ⟨gb270, 3, none⟩ = some (.int .i64 a0_3) := (blk_cell BK270.out 3).trans rfl; have hcz26_4 : w23.cell? ⟨gb270, 4, none⟩ = some (.int .i64 a0_4) := (blk_cell BK270.out 4).trans rfl; have hfz26_0 := blk_frozen BK270.out 0; have hfz26_1 := blk_frozen BK270.out 1; have hfz26_2 := blk_frozen BK270.out 2; have hfz26_3 := blk_frozen BK270.out 3; have hfz26_4 := blk_frozen BK270.out 4) | ((with_reducible refine gate_callee (f := 42) rfl ?_); refine goesL_ (some 30) rfl rfl Try.func42 (by kernel_rfl) rfl #[.int .i64 a0_1, .bool t278] rfl (by (try simp only [List.map_toArray, List.map_cons, List.map_nil]); first | done | rfl | (simp only [List.length_drop, List.length_take]; rfl)) ?_; (with_reducible refine (rotaref06_fits.calls a0_1 t278 true _ A5.out).mono ?_); rintro e w' ⟨rfl, ⟨nd, rfl⟩⟩; refine ⟨_, rfl, ?_⟩) | (go_at_call 42; (with_reducible refine (rotaref06_fits.calls a0_2 t279 true _ A7.out).mono ?_); rintro e w' ⟨rfl, ⟨nd, rfl⟩⟩) | (go_at_call 42; (with_reducible refine (rotaref06_fits.calls a0_3 t280 true _ A9.out).mono ?_); rintro e w' ⟨rfl, ⟨nd, rfl⟩⟩))
              go_ret
              exact ⟨by first | rfl | (simp [errW_none, errW_some] <;> rfl) | (simp [*, errW_none, errW_some] <;> rfl), by repeat (first | (with_reducible first | exact HB.out | apply below_alloc | apply pw_below_drewN | apply below_drew1 | refine below_set ?_ GE270.out | refine below_set ?_ GE277.out) | exact HB.out)⟩
            · rw [if_neg c19] at H
              have c19b0 : decide (t282 < a0_4) = false := decide_eq_false c19
              clear c19
              obtain rfl := Option.some.inj H
              go_enter Try.func43, Try.ntmps43
              go_wp2_with (first | ((with_reducible refine gate_dst (N := 1) rfl ?_); refine box_event ?hg (N := 1) ?hd (cs := #[.int .i64 a0_0, .int .i64 a0_1, .int .i64 a0_2, .int .i64 a0_3, .int .i64 a0_4]) (t := 37) ?hr ?_; (case hd => rfl); (case hg => rfl); (case hr => first | (go_simp; done) | (go_simp; rfl)); intro gb270 hg w27 hbox hb; have n0_ := Aside0.mk (below_step (by repeat (first | (with_reducible first | exact HB.out | apply below_alloc | apply pw_below_drewN | apply below_drew1) | exact HB.out)) hb); have n1_ := Aside0.mk (hbox); have n2_ := Aside0.mk ((by rw [hg]; exact (below_size (by repeat (first | (with_reducible first | exact HB.out | apply below_alloc | apply pw_below_drewN | apply below_drew1) | exact HB.out))) : w.heap.size ≤ gb270)); have n3_ := Aside0.mk ((by rw [hg]; exact (below_size (by repeat (first | (with_reducible first | exact HB.out | apply below_alloc | apply pw_below_drewN | apply below_drew1) | exact HB.out))) : w.heap.size ≤ gb270)); clear HB; have HB := n0_; have BK270 := n1_; have GW270 := n2_; have GE270 := n3_; clear n0_ n1_ n2_ n3_; clear hb hbox hg; have hcz28_0 : w27.cell? ⟨gb270, 0, none⟩ = some (.int .i64 a0_0) := (blk_cell BK270.out 0).trans rfl; have hcz28_1 : w27.cell? ⟨gb270, 1, none⟩ = some (.int .i64 a0_1) := (blk_cell BK270.out 1).trans rfl; have hcz28_2 : w27.cell? ⟨gb270, 2, none⟩ = some (.int .i64 a0_2) := (blk_cell BK270.out 2).trans rfl; have hcz28_3 : w27.cell? ⟨gb270, 3, none⟩ = some (.int .i64 a0_3) := (blk_cell BK270.out 3).trans rfl; have hcz28_4 : w27.cell? ⟨gb270, 4, none⟩ = some (.int .i64 a0_4) := (blk_cell BK270.out 4).trans rfl; have hfz28_0 := blk_frozen BK270.out 0; have hfz28_1 := blk_frozen BK270.out 1; have hfz28_2 := blk_frozen BK270.out 2; have hfz28_3 := blk_frozen BK270.out 3; have hfz28_4 := blk_frozen BK270.out 4) | ((with_reducible refine gate_callee (f := 40) rfl ?_); refine goesL_ (some 13) rfl rfl Try.func40 (by kernel_rfl) rfl #[.int .i64 a0_0] rfl (by (try simp only [List.map_toArray, List.map_cons, List.map_nil]); first | done | rfl | (simp only [List.length_drop, List.length_take]; rfl)) ?_; (with_reducible refine (rotaref06_table.calls a0_0 t271 t272 t273 t274 t275 true _ A2.out).mono ?_); rintro e w29 ⟨rfl, hb⟩; refine ⟨_, rfl, ?_⟩; have n0_ := Aside0.mk (blk_below (g := gb270) (o := .cells #[.int .i64 a0_0, .int .i64 a0_1, .int .i64 a0_2, .int .i64 a0_3, .int .i64 a0_4] 37 (0, 0)) (by (with_reducible repeat (first | refine blk_drewN ?_ _ | refine blk_drew ?_ | refine blk_alloc ?_ _)); exact BK270.out) hb); have n1_ := Aside0.mk (below_step (by repeat (first | (with_reducible first | exact HB.out | apply below_alloc | apply pw_below_drewN | apply below_drew1 | refine below_set ?_ GE270.out) | exact HB.out)) hb); clear BK270; clear HB; have BK270 := n0_; have HB := n1_; clear n0_ n1_; (try clear hb); (try clear hb2); (try clear hk); (try clear hi)) | ((with_reducible refine gate_dst (N := 3) rfl ?_); refine box_event ?hg (N := 3) ?hd (cs := #[.string (⟨#[]⟩ : ByteArray), .int .i64 0, .int .i64 0, .string (⟨#[]⟩ : ByteArray), .string (⟨#[]⟩ : ByteArray)]) (t := 86) ?hr ?_; (case hd => rfl); (case hg => rfl); (case hr => first | (go_simp; done) | (go_simp; rfl)); intro gb277 hg w30 hbox hb; have n0_ := Aside0.mk (blk_below (g := gb270) (o := .cells #[.int .i64 a0_0, .int .i64 a0_1, .int .i64 a0_2, .int .i64 a0_3, .int .i64 a0_4] 37 (0, 0)) (by (with_reducible repeat (first | refine blk_drewN ?_ _ | refine blk_drew ?_ | refine blk_alloc ?_ _)); exact BK270.out) hb); have n1_ := Aside0.mk (below_step (by repeat (first | (with_reducible first | exact HB.out | apply below_alloc | apply pw_below_drewN | apply below_drew1 | refine below_set ?_ GE270.out) | exact HB.out)) hb); have n2_ := Aside0.mk (hbox); have n3_ := Aside0.mk ((by rw [hg]; exact (below_size (by repeat (first | (with_reducible first | exact HB.out | apply below_alloc | apply pw_below_drewN | apply below_drew1 | refine below_set ?_ GE270.out) | exact HB.out))) : w.heap.size ≤ gb277)); have n4_ := Aside0.mk ((by rw [hg]; exact (below_size (by repeat (first | (with_reducible first | exact HB.out | apply below_alloc | apply pw_below_drewN | apply below_drew1 | refine below_set ?_ GE270.out) | exact HB.out))) : w.heap.size ≤ gb277)); have n5_ := Aside0.mk ((by rw [hg]; exact Nat.ne_of_lt (blk_lt (g := gb270) (o := .cells #[.int .i64 a0_0, .int .i64 a0_1, .int .i64 a0_2, .int .i64 a0_3, .int .i64 a0_4] 37 (0, 0)) (by (with_reducible repeat (first | refine blk_drewN ?_ _ | refine blk_drew ?_ | refine blk_alloc ?_ _)); exact BK270.out)) : gb270 ≠ gb277)); have n6_ := Aside0.mk ((by rw [hg]; exact Nat.ne_of_gt (blk_lt (g := gb270) (o := .cells #[.int .i64 a0_0, .int .i64 a0_1, .int .i64 a0_2, .int .i64 a0_3, .int .i64 a0_4] 37 (0, 0)) (by (with_reducible repeat (first | refine blk_drewN ?_ _ | refine blk_drew ?_ | refine blk_alloc ?_ _)); exact BK270.out)) : gb277 ≠ gb270)); clear BK270; clear HB; have BK270 := n0_; have HB := n1_; have BK277 := n2_; have GW277 := n3_; have GE277 := n4_; have NB270_277 := n5_; have NB277_270 := n6_; clear n0_ n1_ n2_ n3_ n4_ n5_ n6_; clear hb hbox hg; have hnb31 := NB277_270.out; have hnc31 := NB270_277.out; have hcz32_0 : w30.cell? ⟨gb277, 0, none⟩ = some (.string (⟨#[]⟩ : ByteArray)) := (blk_cell BK277.out 0).trans rfl; have hcz32_1 : w30.cell? ⟨gb277, 1, none⟩ = some (.int .i64 0) := (blk_cell BK277.out 1).trans rfl; have hcz32_2 : w30.cell? ⟨gb277, 2, none⟩ = some (.int .i64 0) := (blk_cell BK277.out 2).trans rfl; have hcz32_3 : w30.cell? ⟨gb277, 3, none⟩ = some (.string (⟨#[]⟩ : ByteArray)) := (blk_cell BK277.out 3).trans rfl; have hcz32_4 : w30.cell? ⟨gb277, 4, none⟩ = some (.string (⟨#[]⟩ : ByteArray)) := (blk_cell BK277.out 4).trans rfl; have hfz32_0 := blk_frozen BK277.out 0; have hfz32_1 := blk_frozen BK277.out 1; have hfz32_2 := blk_frozen BK277.out 2; have hfz32_3 := blk_frozen BK277.out 3; have hfz32_4 := blk_frozen BK277.out 4) | ((with_reducible refine gate_callee (f := 41) rfl ?_); refine goesL_ (some 21) rfl rfl Try.func41 (by kernel_rfl) rfl #[.int .i64 t272] rfl (by (try simp only [List.map_toArray, List.map_cons, List.map_nil]); first | done | rfl | (simp only [List.length_drop, List.length_take]; rfl)) ?_; (with_reducible refine (rotaref06_Has.calls t272 t278 t279 t280 t281 t282 _ A4.out).mono ?_); rintro e w' ⟨rfl, ⟨nd, rfl⟩⟩; refine ⟨_, rfl, ?_⟩; have hcz33_0 : w30.cell? ⟨gb270, 0, none⟩ = some (.int .i64 a0_0) := (blk_cell BK270.out 0).trans rfl; have hcz33_1 : w30.cell? ⟨gb270, 1, none⟩ = some (.int .i64 a0_1) := (blk_cell BK270.out 1).trans rfl; have hcz33_2 : w30.cell? ⟨gb270, 2, none⟩ = some (.int .i64 a0_2) := (blk_cell BK270.out 2).trans rfl; have hcz33_3 : w30.cell? ⟨gb270, 3, none⟩ = some (.int .i64 a0_3) := (blk_cell BK270.out 3).trans rfl; have hcz33_4 : w30.cell? ⟨gb270, 4, none⟩ = some (.int .i64 a0_4) := (blk_cell BK270.out 4).trans rfl; have hfz33_0 := blk_frozen BK270.out 0; have hfz33_1 := blk_frozen BK270.out 1; have hfz33_2 := blk_frozen BK270.out 2; have hfz33_3 := blk_frozen BK270.out 3; have hfz33_4 := blk_frozen BK270.out 4) | ((with_reducible refine gate_callee (f := 42) rfl ?_); refine goesL_ (some 30) rfl rfl Try.func42 (by kernel_rfl) rfl #[.int .i64 a0_1, .bool t278] rfl (by (try simp only [List.map_toArray, List.map_cons, List.map_nil]); first | done | rfl | (simp only [List.length_drop, List.length_take]; rfl)) ?_; (with_reducible refine (rotaref06_fits.calls a0_1 t278 true _ A5.out).mono ?_); rintro e w' ⟨rfl, ⟨nd, rfl⟩⟩; refine ⟨_, rfl, ?_⟩) | (go_at_call 42; (with_reducible refine (rotaref06_fits.calls a0_2 t279 true _ A7.out).mono ?_); rintro e w' ⟨rfl, ⟨nd, rfl⟩⟩) | (go_at_call 42; (with_reducible refine (rotaref06_fits.calls a0_3 t280 true _ A9.out).mono ?_); rintro e w' ⟨rfl, ⟨nd, rfl⟩⟩))
              go_ret
              exact ⟨by first | rfl | (simp [errW_none, errW_some] <;> rfl) | (simp [*, errW_none, errW_some] <;> rfl), by repeat (first | (with_reducible first | exact HB.out | apply below_alloc | apply pw_below_drewN | apply below_drew1 | refine below_set ?_ GE270.out | refine below_set ?_ GE277.out) | exact HB.out)⟩
        · replace c10 := Bool.eq_false_iff.mpr c10
          subst c10
          have H1 : (some 61) = some r := by rw [if_neg (show ¬ (false = true) by decide)] at H; exact H
          clear H
          have H := H1
          clear H1
          obtain rfl := Option.some.inj H
          go_enter Try.func43, Try.ntmps43
          go_wp2_with (first | ((with_reducible refine gate_dst (N := 1) rfl ?_); refine box_event ?hg (N := 1) ?hd (cs := #[.int .i64 a0_0, .int .i64 a0_1, .int .i64 a0_2, .int .i64 a0_3, .int .i64 a0_4]) (t := 37) ?hr ?_; (case hd => rfl); (case hg => rfl); (case hr => first | (go_simp; done) | (go_simp; rfl)); intro gb270 hg w34 hbox hb; have n0_ := Aside0.mk (below_step (by repeat (first | (with_reducible first | exact HB.out | apply below_alloc | apply pw_below_drewN | apply below_drew1) | exact HB.out)) hb); have n1_ := Aside0.mk (hbox); have n2_ := Aside0.mk ((by rw [hg]; exact (below_size (by repeat (first | (with_reducible first | exact HB.out | apply below_alloc | apply pw_below_drewN | apply below_drew1) | exact HB.out))) : w.heap.size ≤ gb270)); have n3_ := Aside0.mk ((by rw [hg]; exact (below_size (by repeat (first | (with_reducible first | exact HB.out | apply below_alloc | apply pw_below_drewN | apply below_drew1) | exact HB.out))) : w.heap.size ≤ gb270)); clear HB; have HB := n0_; have BK270 := n1_; have GW270 := n2_; have GE270 := n3_; clear n0_ n1_ n2_ n3_; clear hb hbox hg; have hcz35_0 : w34.cell? ⟨gb270, 0, none⟩ = some (.int .i64 a0_0) := (blk_cell BK270.out 0).trans rfl; have hcz35_1 : w34.cell? ⟨gb270, 1, none⟩ = some (.int .i64 a0_1) := (blk_cell BK270.out 1).trans rfl; have hcz35_2 : w34.cell? ⟨gb270, 2, none⟩ = some (.int .i64 a0_2) := (blk_cell BK270.out 2).trans rfl; have hcz35_3 : w34.cell? ⟨gb270, 3, none⟩ = some (.int .i64 a0_3) := (blk_cell BK270.out 3).trans rfl; have hcz35_4 : w34.cell? ⟨gb270, 4, none⟩ = some (.int .i64 a0_4) := (blk_cell BK270.out 4).trans rfl; have hfz35_0 := blk_frozen BK270.out 0; have hfz35_1 := blk_frozen BK270.out 1; have hfz35_2 := blk_frozen BK270.out 2; have hfz35_3 := blk_frozen BK270.out 3; have hfz35_4 := blk_frozen BK270.out 4) | ((with_reducible refine gate_callee (f := 40) rfl ?_); refine goesL_ (some 13) rfl rfl Try.func40 (by kernel_rfl) rfl #[.int .i64 a0_0] rfl (by (try simp only [List.map_toArray, List.map_cons, List.map_nil]); first | done | rfl | (simp only [List.length_drop, List.length_take]; rfl)) ?_; (with_reducible refine (rotaref06_table.calls a0_0 t271 t272 t273 t274 t275 true _ A2.out).mono ?_); rintro e w36 ⟨rfl, hb⟩; refine ⟨_, rfl, ?_⟩; have n0_ := Aside0.mk (blk_below (g := gb270) (o := .cells #[.int .i64 a0_0, .int .i64 a0_1, .int .i64 a0_2, .int .i64 a0_3, .int .i64 a0_4] 37 (0, 0)) (by (with_reducible repeat (first | refine blk_drewN ?_ _ | refine blk_drew ?_ | refine blk_alloc ?_ _)); exact BK270.out) hb); have n1_ := Aside0.mk (below_step (by repeat (first | (with_reducible first | exact HB.out | apply below_alloc | apply pw_below_drewN | apply below_drew1 | refine below_set ?_ GE270.out) | exact HB.out)) hb); clear BK270; clear HB; have BK270 := n0_; have HB := n1_; clear n0_ n1_; (try clear hb); (try clear hb2); (try clear hk); (try clear hi)) | ((with_reducible refine gate_dst (N := 3) rfl ?_); refine box_event ?hg (N := 3) ?hd (cs := #[.string (⟨#[]⟩ : ByteArray), .int .i64 0, .int .i64 0, .string (⟨#[]⟩ : ByteArray), .string (⟨#[]⟩ : ByteArray)]) (t := 86) ?hr ?_; (case hd => rfl); (case hg => rfl); (case hr => first | (go_simp; done) | (go_simp; rfl)); intro gb277 hg w37 hbox hb; have n0_ := Aside0.mk (blk_below (g := gb270) (o := .cells #[.int .i64 a0_0, .int .i64 a0_1, .int .i64 a0_2, .int .i64 a0_3, .int .i64 a0_4] 37 (0, 0)) (by (with_reducible repeat (first | refine blk_drewN ?_ _ | refine blk_drew ?_ | refine blk_alloc ?_ _)); exact BK270.out) hb); have n1_ := Aside0.mk (below_step (by repeat (first | (with_reducible first | exact HB.out | apply below_alloc | apply pw_below_drewN | apply below_drew1 | refine below_set ?_ GE270.out) | exact HB.out)) hb); have n2_ := Aside0.mk (hbox); have n3_ := Aside0.mk ((by rw [hg]; exact (below_size (by repeat (first | (with_reducible first | exact HB.out | apply below_alloc | apply pw_below_drewN | apply below_drew1 | refine below_set ?_ GE270.out) | exact HB.out))) : w.heap.size ≤ gb277)); have n4_ := Aside0.mk ((by rw [hg]; exact (below_size (by repeat (first | (with_reducible first | exact HB.out | apply below_alloc | apply pw_below_drewN | apply below_drew1 | refine below_set ?_ GE270.out) | exact HB.out))) : w.heap.size ≤ gb277)); have n5_ := Aside0.mk ((by rw [hg]; exact Nat.ne_of_lt (blk_lt (g := gb270) (o := .cells #[.int .i64 a0_0, .int .i64 a0_1, .int .i64 a0_2, .int .i64 a0_3, .int .i64 a0_4] 37 (0, 0)) (by (with_reducible repeat (first | refine blk_drewN ?_ _ | refine blk_drew ?_ | refine blk_alloc ?_ _)); exact BK270.out)) : gb270 ≠ gb277)); have n6_ := Aside0.mk ((by rw [hg]; exact Nat.ne_of_gt (blk_lt (g := gb270) (o := .cells #[.int .i64 a0_0, .int .i64 a0_1, .int .i64 a0_2, .int .i64 a0_3, .int .i64 a0_4] 37 (0, 0)) (by (with_reducible repeat (first | refine blk_drewN ?_ _ | refine blk_drew ?_ | refine blk_alloc ?_ _)); exact BK270.out)) : gb277 ≠ gb270)); clear BK270; clear HB; have BK270 := n0_; have HB := n1_; have BK277 := n2_; have GW277 := n3_; have GE277 := n4_; have NB270_277 := n5_; have NB277_270 := n6_; clear n0_ n1_ n2_ n3_ n4_ n5_ n6_; clear hb hbox hg; have hnb38 := NB277_270.out; have hnc38 := NB270_277.out; have hcz39_0 : w37.cell? ⟨gb277, 0, none⟩ = some (.string (⟨#[]⟩ : ByteArray)) := (blk_cell BK277.out 0).trans rfl; have hcz39_1 : w37.cell? ⟨gb277, 1, none⟩ = some (.int .i64 0) := (blk_cell BK277.out 1).trans rfl; have hcz39_2 : w37.cell? ⟨gb277, 2, none⟩ = some (.int .i64 0) := (blk_cell BK277.out 2).trans rfl; have hcz39_3 : w37.cell? ⟨gb277, 3, none⟩ = some (.string (⟨#[]⟩ : ByteArray)) := (blk_cell BK277.out 3).trans rfl; have hcz39_4 : w37.cell? ⟨gb277, 4, none⟩ = some (.string (⟨#[]⟩ : ByteArray)) := (blk_cell BK277.out 4).trans rfl; have hfz39_0 := blk_frozen BK277.out 0; have hfz39_1 := blk_frozen BK277.out 1; have hfz39_2 := blk_frozen BK277.out 2; have hfz39_3 := blk_frozen BK277.out 3; have hfz39_4 := blk_frozen BK277.out 4) | ((with_reducible refine gate_callee (f := 41) rfl ?_); refine goesL_ (some 21) rfl rfl Try.func41 (by kernel_rfl) rfl #[.int .i64 t272] rfl (by (try simp only [List.map_toArray, List.map_cons, List.map_nil]); first | done | rfl | (simp only [List.length_drop, List.length_take]; rfl)) ?_; (with_reducible refine (rotaref06_Has.calls t272 t278 t279 t280 t281 t282 _ A4.out).mono ?_); rintro e w' ⟨rfl, ⟨nd, rfl⟩⟩; refine ⟨_, rfl, ?_⟩; have hcz40_0 : w37.cell? ⟨gb270, 0, none⟩ = some (.int .i64 a0_0) := (blk_cell BK270.out 0).trans rfl; have hcz40_1 : w37.cell? ⟨gb270, 1, none⟩ = some (.int .i64 a0_1) := (blk_cell BK270.out 1).trans rfl; have hcz40_2 : w37.cell? ⟨gb270, 2, none⟩ = some (.int .i64 a0_2) := (blk_cell BK270.out 2).trans rfl; have hcz40_3 : w37.cell? ⟨gb270, 3, none⟩ = some (.int .i64 a0_3) := (blk_cell BK270.out 3).trans rfl; have hcz40_4 : w37.cell? ⟨gb270, 4, none⟩ = some (.int .i64 a0_4) := (blk_cell BK270.out 4).trans rfl; have hfz40_0 := blk_frozen BK270.out 0; have hfz40_1 := blk_frozen BK270.out 1; have hfz40_2 := blk_frozen BK270.out 2; have hfz40_3 := blk_frozen BK270.out 3; have hfz40_4 := blk_frozen BK270.out 4) | ((with_reducible refine gate_callee (f := 42) rfl ?_); refine goesL_ (some 30) rfl rfl Try.func42 (by kernel_rfl) rfl #[.int .i64 a0_1, .bool t278] rfl (by (try simp only [List.map_toArray, List.map_cons, List.map_nil]); first | done | rfl | (simp only [List.length_drop, List.length_take]; rfl)) ?_; (with_reducible refine (rotaref06_fits.calls a0_1 t278 true _ A5.out).mono ?_); rintro e w' ⟨rfl, ⟨nd, rfl⟩⟩; refine ⟨_, rfl, ?_⟩) | (go_at_call 42; (with_reducible refine (rotaref06_fits.calls a0_2 t279 true _ A7.out).mono ?_); rintro e w' ⟨rfl, ⟨nd, rfl⟩⟩) | (go_at_call 42; (with_reducible refine (rotaref06_fits.calls a0_3 t280 false _ A9.out).mono ?_); rintro e w' ⟨rfl, ⟨nd, rfl⟩⟩))
          go_ret
          exact ⟨by first | rfl | (simp [errW_none, errW_some] <;> rfl) | (simp [*, errW_none, errW_some] <;> rfl), by repeat (first | (with_reducible first | exact HB.out | apply below_alloc | apply pw_below_drewN | apply below_drew1 | refine below_set ?_ GE270.out | refine below_set ?_ GE277.out) | exact HB.out)⟩
      · replace c8 := Bool.eq_false_iff.mpr c8
        subst c8
        have H1 : (some 61) = some r := by rw [if_neg (show ¬ (false = true) by decide)] at H; exact H
        clear H
        have H := H1
        clear H1
        obtain rfl := Option.some.inj H
        go_enter Try.func43, Try.ntmps43
        go_wp2_with (first | ((with_reducible refine gate_dst (N := 1) rfl ?_); refine box_event ?hg (N := 1) ?hd (cs := #[.int .i64 a0_0, .int .i64 a0_1, .int .i64 a0_2, .int .i64 a0_3, .int .i64 a0_4]) (t := 37) ?hr ?_; (case hd => rfl); (case hg => rfl); (case hr => first | (go_simp; done) | (go_simp; rfl)); intro gb270 hg w41 hbox hb; have n0_ := Aside0.mk (below_step (by repeat (first | (with_reducible first | exact HB.out | apply below_alloc | apply pw_below_drewN | apply below_drew1) | exact HB.out)) hb); have n1_ := Aside0.mk (hbox); have n2_ := Aside0.mk ((by rw [hg]; exact (below_size (by repeat (first | (with_reducible first | exact HB.out | apply below_alloc | apply pw_below_drewN | apply below_drew1) | exact HB.out))) : w.heap.size ≤ gb270)); have n3_ := Aside0.mk ((by rw [hg]; exact (below_size (by repeat (first | (with_reducible first | exact HB.out | apply below_alloc | apply pw_below_drewN | apply below_drew1) | exact HB.out))) : w.heap.size ≤ gb270)); clear HB; have HB := n0_; have BK270 := n1_; have GW270 := n2_; have GE270 := n3_; clear n0_ n1_ n2_ n3_; clear hb hbox hg; have hcz42_0 : w41.cell? ⟨gb270, 0, none⟩ = some (.int .i64 a0_0) := (blk_cell BK270.out 0).trans rfl; have hcz42_1 : w41.cell? ⟨gb270, 1, none⟩ = some (.int .i64 a0_1) := (blk_cell BK270.out 1).trans rfl; have hcz42_2 : w41.cell? ⟨gb270, 2, none⟩ = some (.int .i64 a0_2) := (blk_cell BK270.out 2).trans rfl; have hcz42_3 : w41.cell? ⟨gb270, 3, none⟩ = some (.int .i64 a0_3) := (blk_cell BK270.out 3).trans rfl; have hcz42_4 : w41.cell? ⟨gb270, 4, none⟩ = some (.int .i64 a0_4) := (blk_cell BK270.out 4).trans rfl; have hfz42_0 := blk_frozen BK270.out 0; have hfz42_1 := blk_frozen BK270.out 1; have hfz42_2 := blk_frozen BK270.out 2; have hfz42_3 := blk_frozen BK270.out 3; have hfz42_4 := blk_frozen BK270.out 4) | ((with_reducible refine gate_callee (f := 40) rfl ?_); refine goesL_ (some 13) rfl rfl Try.func40 (by kernel_rfl) rfl #[.int .i64 a0_0] rfl (by (try simp only [List.map_toArray, List.map_cons, List.map_nil]); first | done | rfl | (simp only [List.length_drop, List.length_take]; rfl)) ?_; (with_reducible refine (rotaref06_table.calls a0_0 t271 t272 t273 t274 t275 true _ A2.out).mono ?_); rintro e w43 ⟨rfl, hb⟩; refine ⟨_, rfl, ?_⟩; have n0_ := Aside0.mk (blk_below (g := gb270) (o := .cells #[.int .i64 a0_0, .int .i64 a0_1, .int .i64 a0_2, .int .i64 a0_3, .int .i64 a0_4] 37 (0, 0)) (by (with_reducible repeat (first | refine blk_drewN ?_ _ | refine blk_drew ?_ | refine blk_alloc ?_ _)); exact BK270.out) hb); have n1_ := Aside0.mk (below_step (by repeat (first | (with_reducible first | exact HB.out | apply below_alloc | apply pw_below_drewN | apply below_drew1 | refine below_set ?_ GE270.out) | exact HB.out)) hb); clear BK270; clear HB; have BK270 := n0_; have HB := n1_; clear n0_ n1_; (try clear hb); (try clear hb2); (try clear hk); (try clear hi)) | ((with_reducible refine gate_dst (N := 3) rfl ?_); refine box_event ?hg (N := 3) ?hd (cs := #[.string (⟨#[]⟩ : ByteArray), .int .i64 0, .int .i64 0, .string (⟨#[]⟩ : ByteArray), .string (⟨#[]⟩ : ByteArray)]) (t := 86) ?hr ?_; (case hd => rfl); (case hg => rfl); (case hr => first | (go_simp; done) | (go_simp; rfl)); intro gb277 hg w44 hbox hb; have n0_ := Aside0.mk (blk_below (g := gb270) (o := .cells #[.int .i64 a0_0, .int .i64 a0_1, .int .i64 a0_2, .int .i64 a0_3, .int .i64 a0_4] 37 (0, 0)) (by (with_reducible repeat (first | refine blk_drewN ?_ _ | refine blk_drew ?_ | refine blk_alloc ?_ _)); exact BK270.out) hb); have n1_ := Aside0.mk (below_step (by repeat (first | (with_reducible first | exact HB.out | apply below_alloc | apply pw_below_drewN | apply below_drew1 | refine below_set ?_ GE270.out) | exact HB.out)) hb); have n2_ := Aside0.mk (hbox); have n3_ := Aside0.mk ((by rw [hg]; exact (below_size (by repeat (first | (with_reducible first | exact HB.out | apply below_alloc | apply pw_below_drewN | apply below_drew1 | refine below_set ?_ GE270.out) | exact HB.out))) : w.heap.size ≤ gb277)); have n4_ := Aside0.mk ((by rw [hg]; exact (below_size (by repeat (first | (with_reducible first | exact HB.out | apply below_alloc | apply pw_below_drewN | apply below_drew1 | refine below_set ?_ GE270.out) | exact HB.out))) : w.heap.size ≤ gb277)); have n5_ := Aside0.mk ((by rw [hg]; exact Nat.ne_of_lt (blk_lt (g := gb270) (o := .cells #[.int .i64 a0_0, .int .i64 a0_1, .int .i64 a0_2, .int .i64 a0_3, .int .i64 a0_4] 37 (0, 0)) (by (with_reducible repeat (first | refine blk_drewN ?_ _ | refine blk_drew ?_ | refine blk_alloc ?_ _)); exact BK270.out)) : gb270 ≠ gb277)); have n6_ := Aside0.mk ((by rw [hg]; exact Nat.ne_of_gt (blk_lt (g := gb270) (o := .cells #[.int .i64 a0_0, .int .i64 a0_1, .int .i64 a0_2, .int .i64 a0_3, .int .i64 a0_4] 37 (0, 0)) (by (with_reducible repeat (first | refine blk_drewN ?_ _ | refine blk_drew ?_ | refine blk_alloc ?_ _)); exact BK270.out)) : gb277 ≠ gb270)); clear BK270; clear HB; have BK270 := n0_; have HB := n1_; have BK277 := n2_; have GW277 := n3_; have GE277 := n4_; have NB270_277 := n5_; have NB277_270 := n6_; clear n0_ n1_ n2_ n3_ n4_ n5_ n6_; clear hb hbox hg; have hnb45 := NB277_270.out; have hnc45 := NB270_277.out; have hcz46_0 : w44.cell? ⟨gb277, 0, none⟩ = some (.string (⟨#[]⟩ : ByteArray)) := (blk_cell BK277.out 0).trans rfl; have hcz46_1 : w44.cell? ⟨gb277, 1, none⟩ = some (.int .i64 0) := (blk_cell BK277.out 1).trans rfl; have hcz46_2 : w44.cell? ⟨gb277, 2, none⟩ = some (.int .i64 0) := (blk_cell BK277.out 2).trans rfl; have hcz46_3 : w44.cell? ⟨gb277, 3, none⟩ = some (.string (⟨#[]⟩ : ByteArray)) := (blk_cell BK277.out 3).trans rfl; have hcz46_4 : w44.cell? ⟨gb277, 4, none⟩ = some (.string (⟨#[]⟩ : ByteArray)) := (blk_cell BK277.out 4).trans rfl; have hfz46_0 := blk_frozen BK277.out 0; have hfz46_1 := blk_frozen BK277.out 1; have hfz46_2 := blk_frozen BK277.out 2; have hfz46_3 := blk_frozen BK277.out 3; have hfz46_4 := blk_frozen BK277.out 4) | ((with_reducible refine gate_callee (f := 41) rfl ?_); refine goesL_ (some 21) rfl rfl Try.func41 (by kernel_rfl) rfl #[.int .i64 t272] rfl (by (try simp only [List.map_toArray, List.map_cons, List.map_nil]); first | done | rfl | (simp only [List.length_drop, List.length_take]; rfl)) ?_; (with_reducible refine (rotaref06_Has.calls t272 t278 t279 t280 t281 t282 _ A4.out).mono ?_); rintro e w' ⟨rfl, ⟨nd, rfl⟩⟩; refine ⟨_, rfl, ?_⟩; have hcz47_0 : w44.cell? ⟨gb270, 0, none⟩ = some (.int .i64 a0_0) := (blk_cell BK270.out 0).trans rfl; have hcz47_1 : w44.cell? ⟨gb270, 1, none⟩ = some (.int .i64 a0_1) := (blk_cell BK270.out 1).trans rfl; have hcz47_2 : w44.cell? ⟨gb270, 2, none⟩ = some (.int .i64 a0_2) := (blk_cell BK270.out 2).trans rfl; have hcz47_3 : w44.cell? ⟨gb270, 3, none⟩ = some (.int .i64 a0_3) := (blk_cell BK270.out 3).trans rfl; have hcz47_4 : w44.cell? ⟨gb270, 4, none⟩ = some (.int .i64 a0_4) := (blk_cell BK270.out 4).trans rfl; have hfz47_0 := blk_frozen BK270.out 0; have hfz47_1 := blk_frozen BK270.out 1; have hfz47_2 := blk_frozen BK270.out 2; have hfz47_3 := blk_frozen BK270.out 3; have hfz47_4 := blk_frozen BK270.out 4) | ((with_reducible refine gate_callee (f := 42) rfl ?_); refine goesL_ (some 30) rfl rfl Try.func42 (by kernel_rfl) rfl #[.int .i64 a0_1, .bool t278] rfl (by (try simp only [List.map_toArray, List.map_cons, List.map_nil]); first | done | rfl | (simp only [List.length_drop, List.length_take]; rfl)) ?_; (with_reducible refine (rotaref06_fits.calls a0_1 t278 true _ A5.out).mono ?_); rintro e w' ⟨rfl, ⟨nd, rfl⟩⟩; refine ⟨_, rfl, ?_⟩) | (go_at_call 42; (with_reducible refine (rotaref06_fits.calls a0_2 t279 false _ A7.out).mono ?_); rintro e w' ⟨rfl, ⟨nd, rfl⟩⟩))
        go_ret
        exact ⟨by first | rfl | (simp [errW_none, errW_some] <;> rfl) | (simp [*, errW_none, errW_some] <;> rfl), by repeat (first | (with_reducible first | exact HB.out | apply below_alloc | apply pw_below_drewN | apply below_drew1 | refine below_set ?_ GE270.out | refine below_set ?_ GE277.out) | exact HB.out)⟩
    · replace c6 := Bool.eq_false_iff.mpr c6
      subst c6
      have H1 : (some 61) = some r := by rw [if_neg (show ¬ (false = true) by decide)] at H; exact H
      clear H
      have H := H1
      clear H1
      obtain rfl := Option.some.inj H
      go_enter Try.func43, Try.ntmps43
      go_wp2_with (first | ((with_reducible refine gate_dst (N := 1) rfl ?_); refine box_event ?hg (N := 1) ?hd (cs := #[.int .i64 a0_0, .int .i64 a0_1, .int .i64 a0_2, .int .i64 a0_3, .int .i64 a0_4]) (t := 37) ?hr ?_; (case hd => rfl); (case hg => rfl); (case hr => first | (go_simp; done) | (go_simp; rfl)); intro gb270 hg w48 hbox hb; have n0_ := Aside0.mk (below_step (by repeat (first | (with_reducible first | exact HB.out | apply below_alloc | apply pw_below_drewN | apply below_drew1) | exact HB.out)) hb); have n1_ := Aside0.mk (hbox); have n2_ := Aside0.mk ((by rw [hg]; exact (below_size (by repeat (first | (with_reducible first | exact HB.out | apply below_alloc | apply pw_below_drewN | apply below_drew1) | exact HB.out))) : w.heap.size ≤ gb270)); have n3_ := Aside0.mk ((by rw [hg]; exact (below_size (by repeat (first | (with_reducible first | exact HB.out | apply below_alloc | apply pw_below_drewN | apply below_drew1) | exact HB.out))) : w.heap.size ≤ gb270)); clear HB; have HB := n0_; have BK270 := n1_; have GW270 := n2_; have GE270 := n3_; clear n0_ n1_ n2_ n3_; clear hb hbox hg; have hcz49_0 : w48.cell? ⟨gb270, 0, none⟩ = some (.int .i64 a0_0) := (blk_cell BK270.out 0).trans rfl; have hcz49_1 : w48.cell? ⟨gb270, 1, none⟩ = some (.int .i64 a0_1) := (blk_cell BK270.out 1).trans rfl; have hcz49_2 : w48.cell? ⟨gb270, 2, none⟩ = some (.int .i64 a0_2) := (blk_cell BK270.out 2).trans rfl; have hcz49_3 : w48.cell? ⟨gb270, 3, none⟩ = some (.int .i64 a0_3) := (blk_cell BK270.out 3).trans rfl; have hcz49_4 : w48.cell? ⟨gb270, 4, none⟩ = some (.int .i64 a0_4) := (blk_cell BK270.out 4).trans rfl; have hfz49_0 := blk_frozen BK270.out 0; have hfz49_1 := blk_frozen BK270.out 1; have hfz49_2 := blk_frozen BK270.out 2; have hfz49_3 := blk_frozen BK270.out 3; have hfz49_4 := blk_frozen BK270.out 4) | ((with_reducible refine gate_callee (f := 40) rfl ?_); refine goesL_ (some 13) rfl rfl Try.func40 (by kernel_rfl) rfl #[.int .i64 a0_0] rfl (by (try simp only [List.map_toArray, List.map_cons, List.map_nil]); first | done | rfl | (simp only [List.length_drop, List.length_take]; rfl)) ?_; (with_reducible refine (rotaref06_table.calls a0_0 t271 t272 t273 t274 t275 true _ A2.out).mono ?_); rintro e w50 ⟨rfl, hb⟩; refine ⟨_, rfl, ?_⟩; have n0_ := Aside0.mk (blk_below (g := gb270) (o := .cells #[.int .i64 a0_0, .int .i64 a0_1, .int .i64 a0_2, .int .i64 a0_3, .int .i64 a0_4] 37 (0, 0)) (by (with_reducible repeat (first | refine blk_drewN ?_ _ | refine blk_drew ?_ | refine blk_alloc ?_ _)); exact BK270.out) hb); have n1_ := Aside0.mk (below_step (by repeat (first | (with_reducible first | exact HB.out | apply below_alloc | apply pw_below_drewN | apply below_drew1 | refine below_set ?_ GE270.out) | exact HB.out)) hb); clear BK270; clear HB; have BK270 := n0_; have HB := n1_; clear n0_ n1_; (try clear hb); (try clear hb2); (try clear hk); (try clear hi)) | ((with_reducible refine gate_dst (N := 3) rfl ?_); refine box_event ?hg (N := 3) ?hd (cs := #[.string (⟨#[]⟩ : ByteArray), .int .i64 0, .int .i64 0, .string (⟨#[]⟩ : ByteArray), .string (⟨#[]⟩ : ByteArray)]) (t := 86) ?hr ?_; (case hd => rfl); (case hg => rfl); (case hr => first | (go_simp; done) | (go_simp; rfl)); intro gb277 hg w51 hbox hb; have n0_ := Aside0.mk (blk_below (g := gb270) (o := .cells #[.int .i64 a0_0, .int .i64 a0_1, .int .i64 a0_2, .int .i64 a0_3, .int .i64 a0_4] 37 (0, 0)) (by (with_reducible repeat (first | refine blk_drewN ?_ _ | refine blk_drew ?_ | refine blk_alloc ?_ _)); exact BK270.out) hb); have n1_ := Aside0.mk (below_step (by repeat (first | (with_reducible first | exact HB.out | apply below_alloc | apply pw_below_drewN | apply below_drew1 | refine below_set ?_ GE270.out) | exact HB.out)) hb); have n2_ := Aside0.mk (hbox); have n3_ := Aside0.mk ((by rw [hg]; exact (below_size (by repeat (first | (with_reducible first | exact HB.out | apply below_alloc | apply pw_below_drewN | apply below_drew1 | refine below_set ?_ GE270.out) | exact HB.out))) : w.heap.size ≤ gb277)); have n4_ := Aside0.mk ((by rw [hg]; exact (below_size (by repeat (first | (with_reducible first | exact HB.out | apply below_alloc | apply pw_below_drewN | apply below_drew1 | refine below_set ?_ GE270.out) | exact HB.out))) : w.heap.size ≤ gb277)); have n5_ := Aside0.mk ((by rw [hg]; exact Nat.ne_of_lt (blk_lt (g := gb270) (o := .cells #[.int .i64 a0_0, .int .i64 a0_1, .int .i64 a0_2, .int .i64 a0_3, .int .i64 a0_4] 37 (0, 0)) (by (with_reducible repeat (first | refine blk_drewN ?_ _ | refine blk_drew ?_ | refine blk_alloc ?_ _)); exact BK270.out)) : gb270 ≠ gb277)); have n6_ := Aside0.mk ((by rw [hg]; exact Nat.ne_of_gt (blk_lt (g := gb270) (o := .cells #[.int .i64 a0_0, .int .i64 a0_1, .int .i64 a0_2, .int .i64 a0_3, .int .i64 a0_4] 37 (0, 0)) (by (with_reducible repeat (first | refine blk_drewN ?_ _ | refine blk_drew ?_ | refine blk_alloc ?_ _)); exact BK270.out)) : gb277 ≠ gb270)); clear BK270; clear HB; have BK270 := n0_; have HB := n1_; have BK277 := n2_; have GW277 := n3_; have GE277 := n4_; have NB270_277 := n5_; have NB277_270 := n6_; clear n0_ n1_ n2_ n3_ n4_ n5_ n6_; clear hb hbox hg; have hnb52 := NB277_270.out; have hnc52 := NB270_277.out; have hcz53_0 : w51.cell? ⟨gb277, 0, none⟩ = some (.string (⟨#[]⟩ : ByteArray)) := (blk_cell BK277.out 0).trans rfl; have hcz53_1 : w51.cell? ⟨gb277, 1, none⟩ = some (.int .i64 0) := (blk_cell BK277.out 1).trans rfl; have hcz53_2 : w51.cell? ⟨gb277, 2, none⟩ = some (.int .i64 0) := (blk_cell BK277.out 2).trans rfl; have hcz53_3 : w51.cell? ⟨gb277, 3, none⟩ = some (.string (⟨#[]⟩ : ByteArray)) := (blk_cell BK277.out 3).trans rfl; have hcz53_4 : w51.cell? ⟨gb277, 4, none⟩ = some (.string (⟨#[]⟩ : ByteArray)) := (blk_cell BK277.out 4).trans rfl; have hfz53_0 := blk_frozen BK277.out 0; have hfz53_1 := blk_frozen BK277.out 1; have hfz53_2 := blk_frozen BK277.out 2; have hfz53_3 := blk_frozen BK277.out 3; have hfz53_4 := blk_frozen BK277.out 4) | ((with_reducible refine gate_callee (f := 41) rfl ?_); refine goesL_ (some 21) rfl rfl Try.func41 (by kernel_rfl) rfl #[.int .i64 t272] rfl (by (try simp only [List.map_toArray, List.map_cons, List.map_nil]); first | done | rfl | (simp only [List.length_drop, List.length_take]; rfl)) ?_; (with_reducible refine (rotaref06_Has.calls t272 t278 t279 t280 t281 t282 _ A4.out).mono ?_); rintro e w' ⟨rfl, ⟨nd, rfl⟩⟩; refine ⟨_, rfl, ?_⟩; have hcz54_0 : w51.cell? ⟨gb270, 0, none⟩ = some (.int .i64 a0_0) := (blk_cell BK270.out 0).trans rfl; have hcz54_1 : w51.cell? ⟨gb270, 1, none⟩ = some (.int .i64 a0_1) := (blk_cell BK270.out 1).trans rfl; have hcz54_2 : w51.cell? ⟨gb270, 2, none⟩ = some (.int .i64 a0_2) := (blk_cell BK270.out 2).trans rfl; have hcz54_3 : w51.cell? ⟨gb270, 3, none⟩ = some (.int .i64 a0_3) := (blk_cell BK270.out 3).trans rfl; have hcz54_4 : w51.cell? ⟨gb270, 4, none⟩ = some (.int .i64 a0_4) := (blk_cell BK270.out 4).trans rfl; have hfz54_0 := blk_frozen BK270.out 0; have hfz54_1 := blk_frozen BK270.out 1; have hfz54_2 := blk_frozen BK270.out 2; have hfz54_3 := blk_frozen BK270.out 3; have hfz54_4 := blk_frozen BK270.out 4) | ((with_reducible refine gate_callee (f := 42) rfl ?_); refine goesL_ (some 30) rfl rfl Try.func42 (by kernel_rfl) rfl #[.int .i64 a0_1, .bool t278] rfl (by (try simp only [List.map_toArray, List.map_cons, List.map_nil]); first | done | rfl | (simp only [List.length_drop, List.length_take]; rfl)) ?_; (with_reducible refine (rotaref06_fits.calls a0_1 t278 false _ A5.out).mono ?_); rintro e w' ⟨rfl, ⟨nd, rfl⟩⟩; refine ⟨_, rfl, ?_⟩))
      go_ret
      exact ⟨by first | rfl | (simp [errW_none, errW_some] <;> rfl) | (simp [*, errW_none, errW_some] <;> rfl), by repeat (first | (with_reducible first | exact HB.out | apply below_alloc | apply pw_below_drewN | apply below_drew1 | refine below_set ?_ GE270.out | refine below_set ?_ GE277.out) | exact HB.out)⟩
  · replace c3 := Bool.eq_false_iff.mpr c3
    subst c3
    have H1 : (some 60) = some r := by rw [if_neg (show ¬ (false = true) by decide)] at H; exact H
    clear H
    have H := H1
    clear H1
    obtain rfl := Option.some.inj H
    go_enter Try.func43, Try.ntmps43
    go_wp2_with (first | ((with_reducible refine gate_dst (N := 1) rfl ?_); refine box_event ?hg (N := 1) ?hd (cs := #[.int .i64 a0_0, .int .i64 a0_1, .int .i64 a0_2, .int .i64 a0_3, .int .i64 a0_4]) (t := 37) ?hr ?_; (case hd => rfl); (case hg => rfl); (case hr => first | (go_simp; done) | (go_simp; rfl)); intro gb270 hg w55 hbox hb; have n0_ := Aside0.mk (below_step (by repeat (first | (with_reducible first | exact HB.out | apply below_alloc | apply pw_below_drewN | apply below_drew1) | exact HB.out)) hb); have n1_ := Aside0.mk (hbox); have n2_ := Aside0.mk ((by rw [hg]; exact (below_size (by repeat (first | (with_reducible first | exact HB.out | apply below_alloc | apply pw_below_drewN | apply below_drew1) | exact HB.out))) : w.heap.size ≤ gb270)); have n3_ := Aside0.mk ((by rw [hg]; exact (below_size (by repeat (first | (with_reducible first | exact HB.out | apply below_alloc | apply pw_below_drewN | apply below_drew1) | exact HB.out))) : w.heap.size ≤ gb270)); clear HB; have HB := n0_; have BK270 := n1_; have GW270 := n2_; have GE270 := n3_; clear n0_ n1_ n2_ n3_; clear hb hbox hg; have hcz56_0 : w55.cell? ⟨gb270, 0, none⟩ = some (.int .i64 a0_0) := (blk_cell BK270.out 0).trans rfl; have hcz56_1 : w55.cell? ⟨gb270, 1, none⟩ = some (.int .i64 a0_1) := (blk_cell BK270.out 1).trans rfl; have hcz56_2 : w55.cell? ⟨gb270, 2, none⟩ = some (.int .i64 a0_2) := (blk_cell BK270.out 2).trans rfl; have hcz56_3 : w55.cell? ⟨gb270, 3, none⟩ = some (.int .i64 a0_3) := (blk_cell BK270.out 3).trans rfl; have hcz56_4 : w55.cell? ⟨gb270, 4, none⟩ = some (.int .i64 a0_4) := (blk_cell BK270.out 4).trans rfl; have hfz56_0 := blk_frozen BK270.out 0; have hfz56_1 := blk_frozen BK270.out 1; have hfz56_2 := blk_frozen BK270.out 2; have hfz56_3 := blk_frozen BK270.out 3; have hfz56_4 := blk_frozen BK270.out 4) | ((with_reducible refine gate_callee (f := 40) rfl ?_); refine goesL_ (some 13) rfl rfl Try.func40 (by kernel_rfl) rfl #[.int .i64 a0_0] rfl (by (try simp only [List.map_toArray, List.map_cons, List.map_nil]); first | done | rfl | (simp only [List.length_drop, List.length_take]; rfl)) ?_; (with_reducible refine (rotaref06_table.calls a0_0 t271 t272 t273 t274 t275 false _ A2.out).mono ?_); rintro e w57 ⟨rfl, hb⟩; refine ⟨_, rfl, ?_⟩; have n0_ := Aside0.mk (blk_below (g := gb270) (o := .cells #[.int .i64 a0_0, .int .i64 a0_1, .int .i64 a0_2, .int .i64 a0_3, .int .i64 a0_4] 37 (0, 0)) (by (with_reducible repeat (first | refine blk_drewN ?_ _ | refine blk_drew ?_ | refine blk_alloc ?_ _)); exact BK270.out) hb); have n1_ := Aside0.mk (below_step (by repeat (first | (with_reducible first | exact HB.out | apply below_alloc | apply pw_below_drewN | apply below_drew1 | refine below_set ?_ GE270.out) | exact HB.out)) hb); clear BK270; clear HB; have BK270 := n0_; have HB := n1_; clear n0_ n1_; (try clear hb); (try clear hb2); (try clear hk); (try clear hi)) | ((with_reducible refine gate_dst (N := 3) rfl ?_); refine box_event ?hg (N := 3) ?hd (cs := #[.string (⟨#[]⟩ : ByteArray), .int .i64 0, .int .i64 0, .string (⟨#[]⟩ : ByteArray), .string (⟨#[]⟩ : ByteArray)]) (t := 86) ?hr ?_; (case hd => rfl); (case hg => rfl); (case hr => first | (go_simp; done) | (go_simp; rfl)); intro gb277 hg w58 hbox hb; have n0_ := Aside0.mk (blk_below (g := gb270) (o := .cells #[.int .i64 a0_0, .int .i64 a0_1, .int .i64 a0_2, .int .i64 a0_3, .int .i64 a0_4] 37 (0, 0)) (by (with_reducible repeat (first | refine blk_drewN ?_ _ | refine blk_drew ?_ | refine blk_alloc ?_ _)); exact BK270.out) hb); have n1_ := Aside0.mk (below_step (by repeat (first | (with_reducible first | exact HB.out | apply below_alloc | apply pw_below_drewN | apply below_drew1 | refine below_set ?_ GE270.out) | exact HB.out)) hb); have n2_ := Aside0.mk (hbox); have n3_ := Aside0.mk ((by rw [hg]; exact (below_size (by repeat (first | (with_reducible first | exact HB.out | apply below_alloc | apply pw_below_drewN | apply below_drew1 | refine below_set ?_ GE270.out) | exact HB.out))) : w.heap.size ≤ gb277)); have n4_ := Aside0.mk ((by rw [hg]; exact (below_size (by repeat (first | (with_reducible first | exact HB.out | apply below_alloc | apply pw_below_drewN | apply below_drew1 | refine below_set ?_ GE270.out) | exact HB.out))) : w.heap.size ≤ gb277)); have n5_ := Aside0.mk ((by rw [hg]; exact Nat.ne_of_lt (blk_lt (g := gb270) (o := .cells #[.int .i64 a0_0, .int .i64 a0_1, .int .i64 a0_2, .int .i64 a0_3, .int .i64 a0_4] 37 (0, 0)) (by (with_reducible repeat (first | refine blk_drewN ?_ _ | refine blk_drew ?_ | refine blk_alloc ?_ _)); exact BK270.out)) : gb270 ≠ gb277)); have n6_ := Aside0.mk ((by rw [hg]; exact Nat.ne_of_gt (blk_lt (g := gb270) (o := .cells #[.int .i64 a0_0, .int .i64 a0_1, .int .i64 a0_2, .int .i64 a0_3, .int .i64 a0_4] 37 (0, 0)) (by (with_reducible repeat (first | refine blk_drewN ?_ _ | refine blk_drew ?_ | refine blk_alloc ?_ _)); exact BK270.out)) : gb277 ≠ gb270)); clear BK270; clear HB; have BK270 := n0_; have HB := n1_; have BK277 := n2_; have GW277 := n3_; have GE277 := n4_; have NB270_277 := n5_; have NB277_270 := n6_; clear n0_ n1_ n2_ n3_ n4_ n5_ n6_; clear hb hbox hg; have hnb59 := NB277_270.out; have hnc59 := NB270_277.out; have hcz60_0 : w58.cell? ⟨gb277, 0, none⟩ = some (.string (⟨#[]⟩ : ByteArray)) := (blk_cell BK277.out 0).trans rfl; have hcz60_1 : w58.cell? ⟨gb277, 1, none⟩ = some (.int .i64 0) := (blk_cell BK277.out 1).trans rfl; have hcz60_2 : w58.cell? ⟨gb277, 2, none⟩ = some (.int .i64 0) := (blk_cell BK277.out 2).trans rfl; have hcz60_3 : w58.cell? ⟨gb277, 3, none⟩ = some (.string (⟨#[]⟩ : ByteArray)) := (blk_cell BK277.out 3).trans rfl; have hcz60_4 : w58.cell? ⟨gb277, 4, none⟩ = some (.string (⟨#[]⟩ : ByteArray)) := (blk_cell BK277.out 4).trans rfl; have hfz60_0 := blk_frozen BK277.out 0; have hfz60_1 := blk_frozen BK277.out 1; have hfz60_2 := blk_frozen BK277.out 2; have hfz60_3 := blk_frozen BK277.out 3; have hfz60_4 := blk_frozen BK277.out 4))
    go_ret
    exact ⟨by first | rfl | (simp [errW_none, errW_some] <;> rfl) | (simp [*, errW_none, errW_some] <;> rfl), by repeat (first | (with_reducible first | exact HB.out | apply below_alloc | apply pw_below_drewN | apply below_drew1 | refine below_set ?_ GE270.out | refine below_set ?_ GE277.out) | exact HB.out)⟩

end Go.Proofs.Ythjfmlehkcccfaa.GA
end

section
-- laid by a program of this session (wip/gp.sh)
namespace Go.Proofs.Ythjfmlehkcccfaa.GA
open Go.RowKit Go.Proofs.YthjfmlehkcccfaaW.PrintWords Go.Proofs.YthjfmlehkcccfaaW.PrintLast Go.Proofs.YthjfmlehkcccfaaW.PrintMore
attribute [local go_sem] max2_int min2_int max_two min_two max_three min_three max_four min_four   -- for this text's walks alone
set_option linter.unusedVariables false
set_option linter.unusedSimpArgs false

/-! ### rotaref06_Encode: function 37 -/
def rotaref06_Encode.f (a0_0 : Int) (a0_1 : Int) (a0_2 : Int) (a0_3 : Int) (a0_4 : Int) : Option (Int × Int) := (rotaref06_Check.f a0_0 a0_1 a0_2 a0_3 a0_4).bind fun t287 => (if t287 = 0 then (if a0_4 < 0 then (some ((((((((((((a0_0) % 4294967296) * 16777216) % 4294967296) + ((((a0_1) % 4294967296) * 1048576) % 4294967296)) % 4294967296) + ((((a0_2) % 4294967296) * 65536) % 4294967296)) % 4294967296) + ((wrap64 (a0_4 + 65536)) % 4294967296)) % 4294967296) + ((a0_3) % 4294967296)) % 4294967296, 0)) else (some ((((((((((((a0_0) % 4294967296) * 16777216) % 4294967296) + ((((a0_1) % 4294967296) * 1048576) % 4294967296)) % 4294967296) + ((((a0_2) % 4294967296) * 65536) % 4294967296)) % 4294967296) + ((a0_4) % 4294967296)) % 4294967296) + ((a0_3) % 4294967296)) % 4294967296, 0))) else (some (0, t287)))
set_option maxHeartbeats 8000000 in
set_option maxRecDepth 100000 in
theorem rotaref06_Encode.calls (a0_0 : Int) (a0_1 : Int) (a0_2 : Int) (a0_3 : Int) (a0_4 : Int) (r1 : Int) (r2 : Int) (w : World) (h : rotaref06_Encode.f a0_0 a0_1 a0_2 a0_3 a0_4 = some (r1, r2)) :
    Calls Try.prog 37 #[.agg #[.int .i64 a0_0, .int .i64 a0_1, .int .i64 a0_2, .int .i64 a0_3, .int .i64 a0_4]] w fun e w' => e = .returned (.tuple #[.int .u32 r1, .int .i64 r2]) ∧ Below w.heap.size w w' := by
  have hu37 := Try.underlying37
  have HB := Aside0.mk (Below.refl w.heap.size w)
  have H : ((rotaref06_Check.f a0_0 a0_1 a0_2 a0_3 a0_4).bind fun t287 => (if t287 = 0 then (if a0_4 < 0 then (some ((((((((((((a0_0) % 4294967296) * 16777216) % 4294967296) + ((((a0_1) % 4294967296) * 1048576) % 4294967296)) % 4294967296) + ((((a0_2) % 4294967296) * 65536) % 4294967296)) % 4294967296) + ((wrap64 (a0_4 + 65536)) % 4294967296)) % 4294967296) + ((a0_3) % 4294967296)) % 4294967296, 0)) else (some ((((((((((((a0_0) % 4294967296) * 16777216) % 4294967296) + ((((a0_1) % 4294967296) * 1048576) % 4294967296)) % 4294967296) + ((((a0_2) % 4294967296) * 65536) % 4294967296)) % 4294967296) + ((a0_4) % 4294967296)) % 4294967296) + ((a0_3) % 4294967296)) % 4294967296, 0))) else (some (0, t287)))) = some (r1, r2) := h
  clear h
  replace H := Option.bind_eq_some_iff.mp H
  obtain ⟨t287, A20, H⟩ := H
  replace H : (if t287 = 0 then (if a0_4 < 0 then (some ((((((((((((a0_0) % 4294967296) * 16777216) % 4294967296) + ((((a0_1) % 4294967296) * 1048576) % 4294967296)) % 4294967296) + ((((a0_2) % 4294967296) * 65536) % 4294967296)) % 4294967296) + ((wrap64 (a0_4 + 65536)) % 4294967296)) % 4294967296) + ((a0_3) % 4294967296)) % 4294967296, 0)) else (some ((((((((((((a0_0) % 4294967296) * 16777216) % 4294967296) + ((((a0_1) % 4294967296) * 1048576) % 4294967296)) % 4294967296) + ((((a0_2) % 4294967296) * 65536) % 4294967296)) % 4294967296) + ((a0_4) % 4294967296)) % 4294967296) + ((a0_3) % 4294967296)) % 4294967296, 0))) else (some (0, t287))) = some (r1, r2) := H
  have A2 := Aside0.mk A20
  clear A20
  by_cases c3 : t287 = 0
  · rw [if_pos c3] at H
    have c3b0 : (t287 == 0) = true := beq_iff_eq.mpr c3
    have c3b1 : (t287 != 0) = false := bne_eq_false_iff_eq.mpr c3
    clear c3
    by_cases c4 : a0_4 < 0
    · rw [if_pos c4] at H
      have c4b0 : decide (a0_4 < 0) = true := decide_eq_true c4
      clear c4
      simp only [Option.some.injEq, Prod.mk.injEq] at H
      obtain ⟨rfl, rfl⟩ := H
      go_enter Try.func37, Try.ntmps37
      go_wp2_with (first | ((with_reducible refine gate_dst (N := 1) rfl ?_); refine box_event ?hg (N := 1) ?hd (cs := #[.int .i64 a0_0, .int .i64 a0_1, .int .i64 a0_2, .int .i64 a0_3, .int .i64 a0_4]) (t := 37) ?hr ?_; (case hd => rfl); (case hg => rfl); (case hr => first | (go_simp; done) | (go_simp; rfl)); intro gb286 hg w5 hbox hb; have n0_ := Aside0.mk (below_step (by repeat (first | (with_reducible first | exact HB.out | apply below_alloc | apply pw_below_drewN | apply below_drew1) | exact HB.out)) hb); have n1_ := Aside0.mk (hbox); have n2_ := Aside0.mk ((by rw [hg]; exact (below_size (by repeat (first | (with_reducible first | exact HB.out | apply below_alloc | apply pw_below_drewN | apply below_drew1) | exact HB.out))) : w.heap.size ≤ gb286)); have n3_ := Aside0.mk ((by rw [hg]; exact (below_size (by repeat (first | (with_reducible first | exact HB.out | apply below_alloc | apply pw_below_drewN | apply below_drew1) | exact HB.out))) : w.heap.size ≤ gb286)); clear HB; have HB := n0_; have BK286 := n1_; have GW286 := n2_; have GE286 := n3_; clear n0_ n1_ n2_ n3_; clear hb hbox hg; have hcz6_0 : w5.cell? ⟨gb286, 0, none⟩ = some (.int .i64 a0_0) := (blk_cell BK286.out 0).trans rfl; have hcz6_1 : w5.cell? ⟨gb286, 1, none⟩ = some (.int .i64 a0_1) := (blk_cell BK286.out 1).trans rfl; have hcz6_2 : w5.cell? ⟨gb286, 2, none⟩ = some (.int .i64 a0_2) := (blk_cell BK286.out 2).trans rfl; have hcz6_3 : w5.cell? ⟨gb286, 3, none⟩ = some (.int .i64 a0_3) := (blk_cell BK286.out 3).trans rfl; have hcz6_4 : w5.cell? ⟨gb286, 4, none⟩ = some (.int .i64 a0_4) := (blk_cell BK286.out 4).trans rfl; have hfz6_0 := blk_frozen BK286.out 0; have hfz6_1 := blk_frozen BK286.out 1; have hfz6_2 := blk_frozen BK286.out 2; have hfz6_3 := blk_frozen BK286.out 3; have hfz6_4 := blk_frozen BK286.out 4) | ((with_reducible refine gate_callee (f := 43) rfl ?_); refine goesL_ (some 7) rfl rfl Try.func43 (by kernel_rfl) rfl #[.agg #[.int .i64 a0_0, .int .i64 a0_1, .int .i64 a0_2, .int .i64 a0_3, .int .i64 a0_4]] rfl (by (try simp only [List.map_toArray, List.map_cons, List.map_nil]); first | done | rfl | (simp only [List.length_drop, List.length_take]; rfl)) ?_; (with_reducible refine (rotaref06_Check.calls a0_0 a0_1 a0_2 a0_3 a0_4 t287 _ A2.out).mono ?_); rintro e w7 ⟨rfl, hb⟩; refine ⟨_, rfl, ?_⟩; have n0_ := Aside0.mk (blk_below (g := gb286) (o := .cells #[.int .i64 a0_0, .int .i64 a0_1, .int .i64 a0_2, .int .i64 a0_3, .int .i64 a0_4] 37 (0, 0)) (by (with_reducible repeat (first | refine blk_drewN ?_ _ | refine blk_drew ?_ | refine blk_alloc ?_ _)); exact BK286.out) hb); have n1_ := Aside0.mk (below_step (by repeat (first | (with_reducible first | exact HB.out | apply below_alloc | apply pw_below_drewN | apply below_drew1 | refine below_set ?_ GE286.out) | exact HB.out)) hb); clear BK286; clear HB; have BK286 := n0_; have HB := n1_; clear n0_ n1_; (try clear hb); (try clear hb2); (try clear hk); (try clear hi); have hcz8_0 : w7.cell? ⟨gb286, 0, none⟩ = some (.int .i64 a0_0) := (blk_cell BK286.out 0).trans rfl; have hcz8_1 : w7.cell? ⟨gb286, 1, none⟩ = some (.int .i64 a0_1) := (blk_cell BK286.out 1).trans rfl; have hcz8_2 : w7.cell? ⟨gb286, 2, none⟩ = some (.int .i64 a0_2) := (blk_cell BK286.out 2).trans rfl; have hcz8_3 : w7.cell? ⟨gb286, 3, none⟩ = some (.int .i64 a0_3) := (blk_cell BK286.out 3).trans rfl; have hcz8_4 : w7.cell? ⟨gb286, 4, none⟩ = some (.int .i64 a0_4) := (blk_cell BK286.out 4).trans rfl; have hfz8_0 := blk_frozen BK286.out 0; have hfz8_1 := blk_frozen BK286.out 1; have hfz8_2 := blk_frozen BK286.out 2; have hfz8_3 := blk_frozen BK286.out 3; have hfz8_4 := blk_frozen BK286.out 4))
      go_ret2
      exact ⟨by first | rfl | (simp [errW_none, errW_some] <;> rfl) | (simp [*, errW_none, errW_some] <;> rfl), by repeat (first | (with_reducible first | exact HB.out | apply below_alloc | apply pw_below_drewN | apply below_drew1 | refine below_set ?_ GE286.out) | exact HB.out)⟩
    · rw [if_neg c4] at H
      have c4b0 : decide (a0_4 < 0) = false := decide_eq_false c4
      clear c4
      simp only [Option.some.injEq, Prod.mk.injEq] at H
      obtain ⟨rfl, rfl⟩ := H
      go_enter Try.func37, Try.ntmps37
      go_wp2_with (first | ((with_reducible refine gate_dst (N := 1) rfl ?_); refine box_event ?hg (N := 1) ?hd (cs := #[.int .i64 a0_0, .int .i64 a0_1, .int .i64 a0_2, .int .i64 a0_3, .int .i64 a0_4]) (t := 37) ?hr ?_; (case hd => rfl); (case hg => rfl); (case hr => first | (go_simp; done) | (go_simp; rfl)); intro gb286 hg w9 hbox hb; have n0_ := Aside0.mk (below_step (by repeat (first | (with_reducible first | exact HB.out | apply below_alloc | apply pw_below_drewN | apply below_drew1) | exact HB.out)) hb); have n1_ := Aside0.mk (hbox); have n2_ := Aside0.mk ((by rw [hg]; exact (below_size (by repeat (first | (with_reducible first | exact HB.out | apply below_alloc | apply pw_below_drewN | apply below_drew1) | exact HB.out))) : w.heap.size ≤ gb286)); have n3_ := Aside0.mk ((by rw [hg]; exact (below_size (by repeat (first | (with_reducible first | exact HB.out | apply below_alloc | apply pw_below_drewN | apply below_drew1) | exact HB.out))) : w.heap.size ≤ gb286)); clear HB; have HB := n0_; have BK286 := n1_; have GW286 := n2_; have GE286 := n3_; clear n0_ n1_ n2_ n3_; clear hb hbox hg; have hcz10_0 : w9.cell? ⟨gb286, 0, none⟩ = some (.int .i64 a0_0) := (blk_cell BK286.out 0).trans rfl; have hcz10_1 : w9.cell? ⟨gb286, 1, none⟩ = some (.int .i64 a0_1) := (blk_cell BK286.out 1).trans rfl; have hcz10_2 : w9.cell? ⟨gb286, 2, none⟩ = some (.int .i64 a0_2) := (blk_cell BK286.out 2).trans rfl; have hcz10_3 : w9.cell? ⟨gb286, 3, none⟩ = some (.int .i64 a0_3) := (blk_cell BK286.out 3).trans rfl; have hcz10_4 : w9.cell? ⟨gb286, 4, none⟩ = some (.int .i64 a0_4) := (blk_cell BK286.out 4).trans rfl; have hfz10_0 := blk_frozen BK286.out 0; have hfz10_1 := blk_frozen BK286.out 1; have hfz10_2 := blk_frozen BK286.out 2; have hfz10_3 := blk_frozen BK286.out 3; have hfz10_4 := blk_frozen BK286.out 4) | ((with_reducible refine gate_callee (f := 43) rfl ?_); refine goesL_ (some 7) rfl rfl Try.func43 (by kernel_rfl) rfl #[.agg #[.int .i64 a0_0, .int .i64 a0_1, .int .i64 a0_2, .int .i64 a0_3, .int .i64 a0_4]] rfl (by (try simp only [List.map_toArray, List.map_cons, List.map_nil]); first | done | rfl | (simp only [List.length_drop, List.length_take]; rfl)) ?_; (with_reducible refine (rotaref06_Check.calls a0_0 a0_1 a0_2 a0_3 a0_4 t287 _ A2.out).mono ?_); rintro e w11 ⟨rfl, hb⟩; refine ⟨_, rfl, ?_⟩; have n0_ := Aside0.mk (blk_below (g := gb286) (o := .cells #[.int .i64 a0_0, .int .i64 a0_1, .int .i64 a0_2, .int .i64 a0_3, .int .i64 a0_4] 37 (0, 0)) (by (with_reducible repeat (first | refine blk_drewN ?_ _ | refine blk_drew ?_ | refine blk_alloc ?_ _)); exact BK286.out) hb); have n1_ := Aside0.mk (below_step (by repeat (first | (with_reducible first | exact HB.out | apply below_alloc | apply pw_below_drewN | apply below_drew1 | refine below_set ?_ GE286.out) | exact HB.out)) hb); clear BK286; clear HB; have BK286 := n0_; have HB := n1_; clear n0_ n1_; (try clear hb); (try clear hb2); (try clear hk); (try clear hi); have hcz12_0 : w11.cell? ⟨gb286, 0, none⟩ = some (.int .i64 a0_0) := (blk_cell BK286.out 0).trans rfl; have hcz12_1 : w11.cell? ⟨gb286, 1, none⟩ = some (.int .i64 a0_1) := (blk_cell BK286.out 1).trans rfl; have hcz12_2 : w11.cell? ⟨gb286, 2, none⟩ = some (.int .i64 a0_2) := (blk_cell BK286.out 2).trans rfl; have hcz12_3 : w11.cell? ⟨gb286, 3, none⟩ = some (.int .i64 a0_3) := (blk_cell BK286.out 3).trans rfl; have hcz12_4 : w11.cell? ⟨gb286, 4, none⟩ = some (.int .i64 a0_4) := (blk_cell BK286.out 4).trans rfl; have hfz12_0 := blk_frozen BK286.out 0; have hfz12_1 := blk_frozen BK286.out 1; have hfz12_2 := blk_frozen BK286.out 2; have hfz12_3 := blk_frozen BK286.out 3; have hfz12_4 := blk_frozen BK286.out 4))
      go_ret2
      exact ⟨by first | rfl | (simp [errW_none, errW_some] <;> rfl) | (simp [*, errW_none, errW_some] <;> rfl), by repeat (first | (with_reducible first | exact HB.out | apply below_alloc | apply pw_below_drewN | apply below_drew1 | refine below_set ?_ GE286.out) | exact HB.out)⟩
  · rw [if_neg c3] at H
    have c3b0 : (t287 == 0) = false := beq_eq_false_iff_ne.mpr c3
    have c3b1 : (t287 != 0) = true := bne_iff_ne.mpr c3
    simp only [Option.some.injEq, Prod.mk.injEq] at H
    obtain ⟨rfl, rfl⟩ := H
    go_enter Try.func37, Try.ntmps37
    go_wp2_with (first | ((with_reducible refine gate_dst (N := 1) rfl ?_); refine box_event ?hg (N := 1) ?hd (cs := #[.int .i64 a0_0, .int .i64 a0_1, .int .i64 a0_2, .int .i64 a0_3, .int .i64 a0_4]) (t := 37) ?hr ?_; (case hd => rfl); (case hg => rfl); (case hr => first | (go_simp; done) | (go_simp; rfl)); intro gb286 hg w13 hbox hb; have n0_ := Aside0.mk (below_step (by repeat (first | (with_reducible first | exact HB.out | apply below_alloc | apply pw_below_drewN | apply below_drew1) | exact HB.out)) hb); have n1_ := Aside0.mk (hbox); have n2_ := Aside0.mk ((by rw [hg]; exact (below_size (by repeat (first | (with_reducible first | exact HB.out | apply below_alloc | apply pw_below_drewN | apply below_drew1) | exact HB.out))) : w.heap.size ≤ gb286)); have n3_ := Aside0.mk ((by rw [hg]; exact (below_size (by repeat (first | (with_reducible first | exact HB.out | apply below_alloc | apply pw_below_drewN | apply below_drew1) | exact HB.out))) : w.heap.size ≤ gb286)); clear HB; have HB := n0_; have BK286 := n1_; have GW286 := n2_; have GE286 := n3_; clear n0_ n1_ n2_ n3_; clear hb hbox hg; have hcz14_0 : w13.cell? ⟨gb286, 0, none⟩ = some (.int .i64 a0_0) := (blk_cell BK286.out 0).trans rfl; have hcz14_1 : w13.cell? ⟨gb286, 1, none⟩ = some (.int .i64 a0_1) := (blk_cell BK286.out 1).trans rfl; have hcz14_2 : w13.cell? ⟨gb286, 2, none⟩ = some (.int .i64 a0_2) := (blk_cell BK286.out 2).trans rfl; have hcz14_3 : w13.cell? ⟨gb286, 3, none⟩ = some (.int .i64 a0_3) := (blk_cell BK286.out 3).trans rfl; have hcz14_4 : w13.cell? ⟨gb286, 4, none⟩ = some (.int .i64 a0_4) := (blk_cell BK286.out 4).trans rfl; have hfz14_0 := blk_frozen BK286.out 0; have hfz14_1 := blk_frozen BK286.out 1; have hfz14_2 := blk_frozen BK286.out 2; have hfz14_3 := blk_frozen BK286.out 3; have hfz14_4 := blk_frozen BK286.out 4) | ((with_reducible refine gate_callee (f := 43) rfl ?_); refine goesL_ (some 7) rfl rfl Try.func43 (by kernel_rfl) rfl #[.agg #[.int .i64 a0_0, .int .i64 a0_1, .int .i64 a0_2, .int .i64 a0_3, .int .i64 a0_4]] rfl (by (try simp only [List.map_toArray, List.map_cons, List.map_nil]); first | done | rfl | (simp only [List.length_drop, List.length_take]; rfl)) ?_; (with_reducible refine (rotaref06_Check.calls a0_0 a0_1 a0_2 a0_3 a0_4 t287 _ A2.out).mono ?_); rintro e w15 ⟨rfl, hb⟩; refine ⟨_, rfl, ?_⟩; have n0_ := Aside0.mk (blk_below (g := gb286) (o := .cells #[.int .i64 a0_0, .int .i64 a0_1, .int .i64 a0_2, .int .i64 a0_3, .int .i64 a0_4] 37 (0, 0)) (by (with_reducible repeat (first | refine blk_drewN ?_ _ | refine blk_drew ?_ | refine blk_alloc ?_ _)); exact BK286.out) hb); have n1_ := Aside0.mk (below_step (by repeat (first | (with_reducible first | exact HB.out | apply below_alloc | apply pw_below_drewN | apply below_drew1 | refine below_set ?_ GE286.out) | exact HB.out)) hb); clear BK286; clear HB; have BK286 := n0_; have HB := n1_; clear n0_ n1_; (try clear hb); (try clear hb2); (try clear hk); (try clear hi)))
    go_ret2
    exact ⟨by first | rfl | (simp [errW_none, errW_some] <;> rfl) | (simp [*, errW_none, errW_some] <;> rfl), by repeat (first | (with_reducible first | exact HB.out | apply below_alloc | apply pw_below_drewN | apply below_drew1 | refine below_set ?_ GE286.out) | exact HB.out)⟩

end Go.Proofs.Ythjfmlehkcccfaa.GA
end

section
/-
  rotalaw09.lives: true.
-/
set_option linter.unusedVariables false
set_option linter.unusedSimpArgs false
namespace Go.Proofs.Ythjfmlehkcccfaa.Hlives
open Go.RowKit Go.Proofs.YthjfmlehkcccfaaW.PrintWords Go.Proofs.YthjfmlehkcccfaaW.PrintLast Go.Proofs.YthjfmlehkcccfaaW.PrintMore GA Hctx Hsmall Hone Heq

theorem mem_fresh {e : TypeId} {w W : World} (hB : Below w.heap.size w W) : Mem e w W [] (.slice none 0 0) [] := ⟨hB, (fun x hx => by cases hx), List.Pairwise.nil, Kd.R_nil _ _ _ _ _⟩
theorem reps_one_ (w : World) (base : Nat) : Reps ((Kd.int .u32).M w base (fun _ => True)) (Kd.int .u32).sz [(36700167 : Int)] [Value.int .u32 36700167] := by
  exact Reps.one rfl (Reps.none _ _)

set_option maxHeartbeats 2000000 in
set_option maxRecDepth 100000 in
theorem lives_calls (w : World) : Calls Try.prog 14 #[] w fun e w' => e = .returned (.bool true) ∧ Below w.heap.size w w' := by
  have hg := Try.eqGuardType40
  have hq2 : ∀ W, (binOp .eql 40 (.agg want0) (.agg #[.int .i64 0, .int .i64 0, .int .i64 0, .int .i64 0, .int .i64 0, .int .i64 0, .int .i64 0, .int .i64 0, .int .i64 0, .int .i64 0, .int .i64 0])).run Try.prog W = .ok (.bool true) W := fun W => eq_want W 0 0 0 0 0 0 0 0 0 0 0
  have hq : ∀ W, (binOp .eql 40 (.agg want0) (.agg want0)).run Try.prog W = .ok (.bool true) W := fun W => eq_want W 0 0 0 0 0 0 0 0 0 0 0
  have hu40 := Try.underlying40
  have M0 := Aside0.mk (Mem.start 3 w)
  go_enter Try.func14, Try.ntmps14
  go_wp2_with fail
  refine (rotaref06_Encode.calls 2 3 0 0 7 36700167 0 _ (by kernel_rfl)).mono ?_
  rintro e W7 ⟨rfl, hb⟩
  have M1 := Aside0.mk (Mem.call M0.out hb)
  clear M0 hb
  go_wp2_with (first
    | ((with_reducible refine gate_dst (N := 12) rfl ?_); refine Kd.R_lit (Kd.int .u32) (w0 := w) w.heap.size 61 ?hg (N := 12) ?hd (xs := [36700167]) (inner := [.int .u32 36700167]) (ok := fun _ => True) (okp := fun _ => True) ?hr ?hp (fun _ hk => hk) trivial M1.out.below M1.out.below.size (by simp) ?_; (case hd => rfl); (case hg => rfl); (case hr => first | (go_simp; done) | (go_simp; rfl)); (case hp => exact reps_one_ _ _); intro v12 W12 hR hB hg _; obtain ⟨A12, c12, hv_⟩ := Kd.R_slice hR; simp only [List.length_cons, List.length_nil, Nat.zero_add] at hv_; subst hv_; have HC := Aside0.mk (Kd.R_reads' hR); have M2 := Aside0.mk (mem_fresh (e := 3) hB); clear M1 hR hB hg))
  refine (p_set [36700167] [] [] A12 none none c12 0 0 0 zeroR none 0 [] 0 0 0 _ HC.out.2.2 HC.out.2.1 (Kd.C_nil _ _) (Nat.le_refl _) (Kd.C_nil _ _) (Nat.le_refl _) (Kd.C_nil _ _) (Nat.le_refl _) (by decide) 3 0 0 7 (by decide) (by decide) (by decide) (by decide) (by decide) (by kernel_rfl)).mono ?_
  rintro e W16 ⟨v16, rfl, hR, hb⟩
  obtain ⟨A16, c16, hv_⟩ := Kd.R_slice hR
  simp only [List.length_nil] at hv_
  subst hv_
  have M3 := Aside0.mk (Mem.row M2.out hb hR)
  clear M2 hR hb
  skip
  go_wp2_with (first
    | (refine eB M3 3 (ctx 0 zeroR (.slice none 0 0)) 30 ?_; clear M3; intro g3 w3 M4)
    | (refine eB M4 4 want0 40 ?_; clear M4; intro g4 w4 M5)
    | (refine eR M5 30 3 0 (ctx 1 (zeroR.set 3 7) (.slice A16 0 c16)) ?_; clear M5; intro w_ M6)
    | (refine eR M6 40 4 1 want0 ?_; clear M6; intro w_ M7)
    | ((with_reducible refine gate_dst (N := 21) rfl ?_); refine load_event rfl (N := 21) rfl (t := 2) (p := 20) rfl ⟨g3, 4, none⟩ (.int .i64 7) ?hp (fun _ => by kernel_rfl) ((M7.out.cell 0 rfl 4).trans rfl) ?_; (case hp => first | rfl | (go_simp; done) | (go_simp; rfl)))
    | ((with_reducible refine gate_dst (N := 25) rfl ?_); (refine gate_guard (by rfl) ?_; dsimp only); refine eC M7 25 0 0 (.int .i64 1) ?_)
    | ((with_reducible refine gate_dst (N := 29) rfl ?_); (refine gate_guard (by rfl) ?_; dsimp only); refine eL M7 29 1 hu40 ?_))
  go_ret
  exact ⟨rfl, M7.out.below⟩
end Go.Proofs.Ythjfmlehkcccfaa.Hlives
end

section
/-
  rotaref09.Same, walked.
-/
set_option linter.unusedVariables false
set_option linter.unusedSimpArgs false
namespace Go.Proofs.Ythjfmlehkcccfaa.Hsame
open Go.RowKit Go.Proofs.YthjfmlehkcccfaaW.PrintWords Go.Proofs.YthjfmlehkcccfaaW.PrintLast Go.Proofs.YthjfmlehkcccfaaW.PrintMore GA Hctx Hsmall Heq

theorem mem_regs {e : TypeId} {w0 W : World} {L : List (Nat × Array Value × TypeId)} {v : Value} {xs : List Int} (M : Mem e w0 W L v xs) (i : Nat) {g : Nat} {pc : Int} {r : Regs} {u : Value} {t : TypeId} (h : L[i]? = some (g, ctx pc r u, t)) : W.rangeAt g 1 (arr r).toList := fun j x hx => by
  have hj : j < 16 := by
    have := (List.getElem?_eq_some_iff.1 hx).1
    simpa [arr] using this
  rw [M.cell i h (1 + j), ctx_reg _ _ _ _ hj, ← arr_at r j hj]
  simpa using hx

set_option maxHeartbeats 2000000 in
set_option maxRecDepth 100000 in
theorem same_calls (pc : Int) (r : Regs) (A B : Option Addr) (c cb : Nat) (l : List Int) (w : World) (hl : Kd.C (Kd.int .i64) w A l.length l) (hm : Kd.C (Kd.int .i64) w B l.length l) (hlim : l.length < 17592186044416) :
    Calls Try.prog 15 #[.agg (ctx pc r (.slice A l.length c)), .agg (ctx pc r (.slice B l.length cb))] w fun e w' => e = .returned (.bool true) ∧ Below w.heap.size w w' := by
  have hg := Try.eqGuardType27
  have hne : ∀ W, (binOp .neq 27 (.agg (arr r)) (.agg (arr r))).run Try.prog W = .ok (.bool false) W := fun W => by rw [neq_regs, Regs.eqb_self]; rfl
  have hu27 := Try.underlying27
  have HL := Aside0.mk hl
  have HM := Aside0.mk hm
  clear hl hm
  have M0 := Aside0.mk (Mem.start 3 w)
  go_enter Try.func15, Try.ntmps15
  go_wp2_with (first
    | (refine eB M0 2 (ctx pc r (.slice A l.length c)) 30 ?_; clear M0; intro g2 w2 M1)
    | (refine eB M1 3 (ctx pc r (.slice B l.length cb)) 30 ?_; clear M1; intro g3 w3 M2)
    | (refine eC M2 7 0 0 (.int .i64 pc) ?_)
    | (refine eC M2 9 1 0 (.int .i64 pc) ?_)
    | ((with_reducible refine gate_dst (N := 13) rfl ?_); (refine gate_guard (by rfl) ?_; dsimp only); refine wpList_load_mid rfl 27 (.tmp 12) rfl g2 1 rfl (arr r).toList _ (mem_regs M2.out 0 rfl) hu27 rfl (by kernel_rfl) ?_)
    | ((with_reducible refine gate_dst (N := 15) rfl ?_); (refine gate_guard (by rfl) ?_; dsimp only); refine wpList_load_mid rfl 27 (.tmp 14) rfl g3 1 rfl (arr r).toList _ (mem_regs M2.out 1 rfl) hu27 rfl (by kernel_rfl) ?_)
    | ((with_reducible refine gate_dst (N := 20) rfl ?_); (refine gate_guard (by rfl) ?_; dsimp only); refine eC M2 20 0 17 (.slice A l.length c) ?_)
    | ((with_reducible refine gate_dst (N := 23) rfl ?_); (refine gate_guard (by rfl) ?_; dsimp only); refine eC M2 23 1 17 (.slice B l.length cb) ?_))
  go_loopw [5] (fun v5 wr => ∃ k : Nat, k ≤ l.length ∧ v5 = .int .i64 k ∧ Mem 3 w wr [(g2, ctx pc r (.slice A l.length c), 30), (g3, ctx pc r (.slice B l.length cb), 30)] (.slice none 0 0) []) (fun v5 _ => l.length - (intOf v5).toNat)
  case atStart => exact ⟨0, by omega, rfl, M2.out⟩
  case round =>
    obtain ⟨k, hk, rfl, M⟩ := hrel
    have M3 := Aside0.mk M
    clear M M2
    have y1 := (M3.out.cell 0 rfl 17).trans (show _ = some (Value.slice A l.length c) from rfl)
    have y2 := (M3.out.cell 1 rfl 17).trans (show _ = some (Value.slice B l.length cb) from rfl)
    by_cases hlt : k < l.length
    · obtain ⟨ad, rfl, hx⟩ := Kd.at_int (Kd.C_below HL.out M3.out.below) (k : Int) (by omega) (by omega)
      obtain ⟨bd, rfl, hy⟩ := Kd.at_int (Kd.C_below HM.out M3.out.below) (k : Int) (by omega) (by omega)
      rw [Int.toNat_natCast] at hx hy
      have p1 : (0 : Int) ≤ (k : Int) := by omega
      have p2 : (k : Int) < (l.length : Int) := by omega
      go_wp2
      go_quiet (fail)
      go_wp2
      go_roundw
      case rel => exact ⟨k + 1, by omega, by go_num, M3.out.drewN _⟩
      case measure => simp [intOf]; omega
    · go_wp2
      go_ret
      exact ⟨rfl, M3.out.below⟩
end Go.Proofs.Ythjfmlehkcccfaa.Hsame
end

section
/-
  Regions that draw their order, over a call's own memory: each operation as one short lemma.
-/
set_option linter.unusedVariables false
set_option linter.unusedSimpArgs false
namespace Go.Proofs.Ythjfmlehkcccfaa.Hctx
open Go.RowKit Go.Proofs.YthjfmlehkcccfaaW.PrintWords Go.Proofs.YthjfmlehkcccfaaW.PrintLast Go.Proofs.YthjfmlehkcccfaaW.PrintMore
/-- The boxes that a region reads, as they are. -/
def Held (L : List (Nat × Array Value × TypeId)) (w : World) : Prop := ∀ x ∈ L, w.heap[x.1]? = some (.cells x.2.1 x.2.2 (0, 0))
section
variable {P : Program} {ops : Array Oper} {md : Region.Mode} {o : Oper} {a : Act} {Q : Exit → Act → World → Prop} {e : TypeId} {w0 w W : World} {l L : List (Nat × Array Value × TypeId)} {v : Value} {xs : List Int} {fuel : Nat} {listed : Array Bool}
theorem Mem.perm {l' : List (Nat × Array Value × TypeId)} (M : Mem e w0 W l v xs) (h : l.Perm l') : Mem e w0 W l' v xs :=
  ⟨M.below, fun x hx => M.blk x (h.mem_iff.2 hx), h.pairwise M.apart (fun hxy => Ne.symm hxy), M.own⟩
theorem Mem.held (M : Mem e w0 W l v xs) (h : l.take L.length = L := by rfl) : Held L W := fun x hx => by
  rw [← h] at hx
  exact (M.blk x (List.mem_of_mem_take hx)).1
theorem Held.at (H : Held L W) (i : Nat) {g : Nat} {cs : Array Value} {t : TypeId} (h : L[i]? = some (g, cs, t)) : W.heap[g]? = some (.cells cs t (0, 0)) := H _ (List.mem_of_getElem? h)
theorem dStart {id : Nat} (M : Aside0 (Mem e w0 W l v xs))
    (h : ∀ W', Aside0 (Mem e w0 W' l v xs) → wpAnyH P .any ops (NoPanic Q) (Held l) ops.size (Array.replicate ops.size false) a W')
    (hm : P.follows .mixedOrders = true := by kernel_rfl) : (Code.region id ops true).wp P Q a W := by
  refine wp_region_noPanic ?_
  exact wp_region_held_drew hm ((Mem.drew M.out).held (List.take_of_length_le (Nat.le_refl _))) (fun _ => h _ ⟨Mem.drew M.out⟩)
/-- An operation that yields v in every world that holds L. -/
theorem dY (M : Aside0 (Mem e w0 w l v xs)) (i : Nat) (N : Tmp) (u : Value) (hy : YieldsIf P ops (Held L) o u a)
    (h : wpAnyH P md ops (NoPanic Q) (Held L) fuel (listed.setIfInBounds i true) (a.put (some N) u) w) (hoi : ops[i]? = some o) (hN : o.dst = some N)
    (hs : Region.noSelect ops = true) (hf : Region.free md ops listed i = true) (hr : (Region.ready md ops listed).contains i = true) (hl : l.take L.length = L) : wpAnyH P md ops (NoPanic Q) (Held L) (fuel + 1) listed a w :=
  wpAnyH_take hoi hs hf hr (fun _ _ _ h => h) hy (M.out.held hl) (by rw [hN]; exact h)
/-- A whole box is loaded. -/
theorem dL {ty : TypeId} {d : TypeDesc} (M : Aside0 (Mem e w0 w l v xs)) (i : Nat) (N : Tmp) (k : Nat) (hu : P.underlying ty = some d) {p : Tmp} {g : Nat} {cs : Array Value} {tb : TypeId}
    (h : wpAnyH P md ops (NoPanic Q) (Held L) fuel (listed.setIfInBounds i true) (a.put (some N) (.agg cs)) w)
    (hoi : ops[i]? = some o := by rfl) (hN : o.dst = some N := by rfl) (ho : o.op = .load ty (.tmp p) := by rfl) (hw : Region.wanted o (yielded ops a.tmps) = true := by rfl)
    (hk : L[k]? = some (g, cs, tb) := by rfl) (hx : a.eval (.tmp p) = .pointer (some ⟨g, 0, none⟩) := by rfl) (hd : (match d with | .struct _ | .array _ _ => true | _ => false) = true := by rfl) (hi : (P.info? ty).map (·.size) = some cs.size := by kernel_rfl)
    (hs : Region.noSelect ops = true := by kernel_rfl) (hf : Region.free md ops listed i = true := by kernel_rfl) (hr : (Region.ready md ops listed).contains i = true := by kernel_rfl) (hl : l.take L.length = L := by rfl) :
    wpAnyH P md ops (NoPanic Q) (Held L) (fuel + 1) listed a w :=
  dY M i N _ (.inl ⟨hw, fun w' hw' => by
    unfold execOp
    simp only [ho, hx, Instr.loadAt, Instr.sureAddr, Sem.run_bind, Sem.run_pure, Result.andThen_ok, run_loadVar_row w' g tb ty cs (0, 0) d (hw'.at k hk) hu hd hi]⟩) h hoi hN hs hf hr hl
/-- A cell of a box is loaded. -/
theorem dC {ty : TypeId} (M : Aside0 (Mem e w0 w l v xs)) (i : Nat) (N : Tmp) (k j : Nat) (u : Value) {p : Tmp} {g : Nat} {cs : Array Value} {tb : TypeId}
    (h : wpAnyH P md ops (NoPanic Q) (Held L) fuel (listed.setIfInBounds i true) (a.put (some N) u) w)
    (hoi : ops[i]? = some o := by rfl) (hN : o.dst = some N := by rfl) (ho : o.op = .load ty (.tmp p) := by rfl) (hw : Region.wanted o (yielded ops a.tmps) = true := by rfl)
    (hk : L[k]? = some (g, cs, tb) := by rfl) (hv : cs[j]? = some u := by rfl) (hx : a.eval (.tmp p) = .pointer (some ⟨g, j, none⟩) := by rfl) (hna : ∀ w, (isAgg ty).run P w = .ok false w := by intro _; kernel_rfl)
    (hs : Region.noSelect ops = true := by kernel_rfl) (hf : Region.free md ops listed i = true := by kernel_rfl) (hr : (Region.ready md ops listed).contains i = true := by kernel_rfl) (hl : l.take L.length = L := by rfl) :
    wpAnyH P md ops (NoPanic Q) (Held L) (fuel + 1) listed a w :=
  dY M i N _ (.inl ⟨hw, fun w' hw' => by
    have hc : w'.cell? ⟨g, j, none⟩ = some u := (blk_cell (hw'.at k hk) j).trans hv
    have hl : (loadVar ty ⟨g, j, none⟩).run P w' = .ok u w' := by
      unfold loadVar
      rw [Sem.run_bind, hna w']
      show (load ⟨g, j, none⟩).run P w' = _
      rw [run_load, hc]
    unfold execOp
    simp only [ho, hx, Instr.loadAt, Instr.sureAddr, Sem.run_bind, Sem.run_pure, Result.andThen_ok, hl]⟩) h hoi hN hs hf hr hl
/-- Some cells of a box are loaded (a struct within). -/
theorem dM {ty : TypeId} {d : TypeDesc} (M : Aside0 (Mem e w0 w l v xs)) (i : Nat) (N : Tmp) (k off : Nat) (us : List Value) (hu : P.underlying ty = some d) {p : Tmp} {g : Nat} {cs : Array Value} {tb : TypeId}
    (h : wpAnyH P md ops (NoPanic Q) (Held L) fuel (listed.setIfInBounds i true) (a.put (some N) (.agg us.toArray)) w)
    (hoi : ops[i]? = some o := by rfl) (hN : o.dst = some N := by rfl) (ho : o.op = .load ty (.tmp p) := by rfl) (hw : Region.wanted o (yielded ops a.tmps) = true := by rfl)
    (hk : L[k]? = some (g, cs, tb) := by rfl) (hv : (cs.toList.drop off).take us.length = us := by rfl) (hx : a.eval (.tmp p) = .pointer (some ⟨g, off, none⟩) := by rfl) (hd : d.isRow = true := by rfl) (hi : (P.info? ty).map (·.size) = some us.length := by kernel_rfl)
    (hs : Region.noSelect ops = true := by kernel_rfl) (hf : Region.free md ops listed i = true := by kernel_rfl) (hr : (Region.ready md ops listed).contains i = true := by kernel_rfl) (hl : l.take L.length = L := by rfl) :
    wpAnyH P md ops (NoPanic Q) (Held L) (fuel + 1) listed a w :=
  dY M i N _ (yieldsIf_load_mid hw ty _ ho g off hx us d (fun w' hw' j u hu' => by
    rw [blk_cell (hw'.at k hk) (off + j)]
    rw [← hv, List.getElem?_take] at hu'
    split at hu'
    · rw [List.getElem?_drop] at hu'
      simpa using hu'
    · cases hu') hu hd hi) h hoi hN hs hf hr hl
/-- An operation that no world matters to. -/
theorem dP (M : Aside0 (Mem e w0 w l v xs)) (i : Nat) (N : Tmp) (u : Value)
    (h : wpAnyH P md ops (NoPanic Q) (Held L) fuel (listed.setIfInBounds i true) (a.put (some N) u) w)
    (hoi : ops[i]? = some o := by rfl) (hN : o.dst = some N := by rfl) (hw : Region.wanted o (yielded ops a.tmps) = true := by rfl)
    (hy : ∀ w, (execOp a.eval o).run P w = .ok (.value u) w := by intro _; first | rfl | (go_simp; done) | (go_simp; rfl))
    (hs : Region.noSelect ops = true := by kernel_rfl) (hf : Region.free md ops listed i = true := by kernel_rfl) (hr : (Region.ready md ops listed).contains i = true := by kernel_rfl) (hl : l.take L.length = L := by rfl) :
    wpAnyH P md ops (NoPanic Q) (Held L) (fuel + 1) listed a w :=
  dY M i N _ (.inl ⟨hw, fun w' _ => hy w'⟩) h hoi hN hs hf hr hl
/-- One whose guard does not want it. -/
theorem dN (M : Aside0 (Mem e w0 w l v xs)) (i : Nat) (N : Tmp)
    (h : wpAnyH P md ops (NoPanic Q) (Held L) fuel (listed.setIfInBounds i true) (a.put (some N) undef) w)
    (hoi : ops[i]? = some o := by rfl) (hN : o.dst = some N := by rfl) (hw : Region.wanted o (yielded ops a.tmps) = false := by rfl)
    (hs : Region.noSelect ops = true := by kernel_rfl) (hf : Region.free md ops listed i = true := by kernel_rfl) (hr : (Region.ready md ops listed).contains i = true := by kernel_rfl) (hl : l.take L.length = L := by rfl) :
    wpAnyH P md ops (NoPanic Q) (Held L) (fuel + 1) listed a w :=
  dY M i N _ (.inr ⟨hw, rfl⟩) h hoi hN hs hf hr hl
/-- Those that may come up now. -/
theorem dR (rs : List Nat) (h : AllReadyH P md ops Q (Held L) fuel listed a w rs) (hr : Region.ready md ops listed = rs := by kernel_rfl) (hne : rs ≠ [] := by simp) : wpAnyH P md ops Q (Held L) (fuel + 1) listed a w :=
  wpAnyH_ready hr hne h
/-- A call of a Go function. -/
theorem qK (i : Nat) (N : Tmp) {f : FuncId} {fn : Func} (hfn : P.funcs[f]? = some fn) (args : Array Value) {az : Array Operand} {ts : Array TypeId} {rs : List Nat}
    (h : Calls P f args w fun e w' => ∃ u, e = .returned u ∧ Held L w' ∧ wpAnyH P md ops Q (Held L) fuel (listed.setIfInBounds i true) (a.put (some N) u) w')
    (hrest : AllReadyH P md ops Q (Held L) fuel listed a w rs)
    (hoi : ops[i]? = some o := by rfl) (hN : o.dst = some N := by rfl) (hw : Region.wanted o (yielded ops a.tmps) = true := by rfl)
    (hop : o.op = .call { callee := .value (.func f), args := az, argTypes := ts } := by rfl) (hname : (fn.name == "runtime.NumGoroutine") = false := by kernel_rfl) (hb : fn.body.isSome = true := by rfl)
    (hargs : az.map a.eval = args := by first | rfl | (simp only [List.map_toArray, List.map_cons, List.map_nil]; done) | (simp only [List.map_toArray, List.map_cons, List.map_nil]; rfl) | simp) : AllReadyH P md ops Q (Held L) fuel listed a w (i :: rs) := by
  refine AllReadyH.cons hoi (fun K hK => ?_) hrest
  rw [if_pos hw]
  have hg := goes_ (K := K) (Q := Q) hfn hname hb args hw hN hop hargs (h.mono (by
    rintro e w' ⟨u, rfl, hS, hh⟩
    exact ⟨u, rfl, hK.out _ _ hS (fun _ => hh)⟩))
  rw [if_pos hw] at hg
  exact hg
/-- A variable of its own. -/
theorem qA (M : Aside0 (Mem e w0 w l v xs)) (i : Nat) (N : Tmp) (t : TypeId) (cs : Array Value) {rs : List Nat}
    (h : ∀ g w', Aside0 (Mem e w0 w' (l ++ [(g, cs, t)]) v xs) → wpAnyH P md ops Q (Held L) fuel (listed.setIfInBounds i true) (a.put (some N) (.pointer (some ⟨g, 0, none⟩))) w')
    (hrest : AllReadyH P md ops Q (Held L) fuel listed a w rs)
    (hoi : ops[i]? = some o := by rfl) (hN : o.dst = some N := by rfl) (hw : Region.wanted o (yielded ops a.tmps) = true := by rfl) (he : e ≠ t := by decide)
    (hrun : (execOp a.eval o).run P w = .ok (.value (.pointer (some ⟨w.heap.size, 0, none⟩))) (w.alloc (.cells cs t (0, 0))) := by first | (go_simp; done) | (go_simp; rfl))
    (hl : ∀ g, (l ++ [(g, cs, t)]).take L.length = L := by intro _; rfl) : AllReadyH P md ops Q (Held L) fuel listed a w (i :: rs) := by
  refine AllReadyH.cons hoi (fun K hK => ?_) hrest
  rw [if_pos hw]
  unfold Oper.wp
  rw [hrun]
  show K (a.put o.dst _) _
  rw [hN]
  have M1 := Aside0.mk (Mem.box (cs := cs) M.out rfl (blk_new w (.cells cs t (0, 0))) (below_alloc (Below.refl _ _) _) he)
  exact hK.out _ _ (M1.out.held (hl _)) (fun _ => h _ _ M1)
/-- A whole box is stored. -/
theorem qS (M : Aside0 (Mem e w0 w l v xs)) (i : Nat) (t : TypeId) (p : Tmp) (k : Nat) (new : Array Value) {g : Nat} {old : Array Value} {tb : TypeId} {x : Operand} {rs : List Nat}
    (h : ∀ w', Aside0 (Mem e w0 w' (l.set k (g, new, tb)) v xs) → wpAnyH P md ops Q (Held L) fuel (listed.setIfInBounds i true) a w')
    (hrest : AllReadyH P md ops Q (Held L) fuel listed a w rs)
    (hoi : ops[i]? = some o := by rfl) (hn : o.dst = none := by rfl) (hw : Region.wanted o (yielded ops a.tmps) = true := by rfl) (ho : o.op = .store t (.tmp p) x := by rfl)
    (hk : l[k]? = some (g, old, tb) := by rfl) (hx : a.eval (.tmp p) = .pointer (some ⟨g, 0, none⟩) := by rfl) (hv : a.eval x = .agg new := by rfl)
    (hs : (P.info? t).map (·.size) = some new.size := by kernel_rfl) (hso : old.size = new.size := by rfl) (h1 : new.all (·.oneCell') = true := by kernel_rfl)
    (hl : (l.set k (g, new, tb)).take L.length = L := by rfl) : AllReadyH P md ops Q (Held L) fuel listed a w (i :: rs) := by
  refine AllReadyH.cons hoi (fun K hK => ?_) hrest
  rw [if_pos hw]
  refine wp_store_row t (.tmp p) x ho g new hx hv tb old (M.out.at k hk) hs hso h1 ?_
  rw [hn]
  have M1 := Aside0.mk (Mem.keep M.out k hk (setRow_heap _ _ _ _ _ _ (M.out.at k hk)) (keepBut_setRow w g new) (below_setRow' M.out.below (M.out.ge k hk) new))
  exact hK.out _ _ (M1.out.held hl) (fun _ => h _ M1)
theorem dDone (h : Q .normal a w) (hr : Region.ready md ops listed = [] := by kernel_rfl) : wpAnyH P md ops (NoPanic Q) (Held L) fuel listed a w := wpAnyH_done hr (NoPanic.normal h) _
/-- What follows a region, once. -/
theorem dJoin {id : Nat} {b : Bool} {σ : Type} (act : σ → Act) (R : σ → World → Prop) (hcont : ∀ s w', R s w' → Q .normal (act s) w')
    (h : (∀ s w', R s w' → Q .normal (act s) w') → (Code.region id ops b).wp P Q a W) : (Code.region id ops b).wp P Q a W := h hcont
end
end Go.Proofs.Ythjfmlehkcccfaa.Hctx
end

section
/-
  StepAnswers, walked.
-/
set_option linter.unusedVariables false
set_option linter.unusedSimpArgs false
namespace Go.Proofs.Ythjfmlehkcccfaa.Hlaw6
open Go.RowKit Go.Proofs.YthjfmlehkcccfaaW.PrintWords Go.Proofs.YthjfmlehkcccfaaW.PrintLast Go.Proofs.YthjfmlehkcccfaaW.PrintMore GA Hctx Hsmall Hans Hlives Hsame

set_option maxHeartbeats 2000000 in
set_option maxRecDepth 100000 in
theorem law_answers (pc : Int) (r : Regs) (A : Option Addr) (c : Nat) (l : List Int) (op a b c' m v ok : Int) (w : World) (hl : Kd.C (Kd.int .i64) w A l.length l) (kl : l.length ≤ c) (hlim : l.length < 17592186044416) :
    Calls Try.prog 6 #[.agg (ctx pc r (.slice A l.length c)), .agg #[.int .i64 op, .int .i64 a, .int .i64 b, .int .i64 c', .int .i64 m, .int .i64 v, .int .i64 ok]] w fun e w' => e = .returned (.bool true) ∧ Below w.heap.size w w' := by
  have hu30 := Try.underlying30
  have hu37 := Try.underlying37
  have HL := Aside0.mk hl
  clear hl
  have M0 := Aside0.mk (Mem.start 3 w)
  go_enter Try.func6, Try.ntmps6
  go_wp2_with (first
    | (refine eB M0 2 (ctx pc r (.slice A l.length c)) 30 ?_; clear M0; intro g2 w2 M1)
    | (refine eB M1 3 #[.int .i64 op, .int .i64 a, .int .i64 b, .int .i64 c', .int .i64 m, .int .i64 v, .int .i64 ok] 54 ?_; clear M1; intro g3 w3 M2))
  refine dJoin (σ := (Nat) × (Option Addr) × (Nat) × (Option Addr) × (Nat)) (fun s => ⟨#[.agg (ctx pc r (.slice A l.length c)), .agg #[.int .i64 op, .int .i64 a, .int .i64 b, .int .i64 c', .int .i64 m, .int .i64 v, .int .i64 ok], .pointer (some ⟨g2, 0, none⟩), .pointer (some ⟨g3, 0, none⟩), .bool false, .pointer (some ⟨s.1, 0, none⟩), .agg (ctx pc r (.slice A l.length c)), .agg (ctx pc r (.slice s.2.1 l.length s.2.2.1)), .pointer (some ⟨g3, 0, none⟩), .agg #[.int .i64 op, .int .i64 a, .int .i64 b, .int .i64 c', .int .i64 m], .pointer (some ⟨g3, 5, none⟩), .int .i64 v, .pointer (some ⟨g3, 6, none⟩), .int .i64 ok, .agg (ctx pc (ansR op a b c' v ok r) (.slice s.2.2.2.1 l.length s.2.2.2.2)), undef, undef, undef, undef, undef, undef, undef, undef, undef, undef, undef, undef, undef], []⟩) (fun s w' => Aside0 (Mem 3 w w' [(g2, (ctx pc r (.slice A l.length c)), 30), (g3, #[.int .i64 op, .int .i64 a, .int .i64 b, .int .i64 c', .int .i64 m, .int .i64 v, .int .i64 ok], 54), (s.1, (ctx pc (ansR op a b c' v ok r) (.slice s.2.2.2.1 l.length s.2.2.2.2)), 30)] (.slice s.2.2.2.1 l.length s.2.2.2.2) l)) ?_ (fun hK => ?_)
  rotate_left
  · refine dStart M2 (fun w' M => ?_)
    clear M2
    have M3 := M
    clear M
    refine dL M3 0 6 0 hu30 ?_
    simp only [Act.put, List.setIfInBounds_toArray, List.set_cons_zero, List.set_cons_succ]
    refine dP M3 2 8 (.pointer (some ⟨g3, 0, none⟩)) ?_
    simp only [Act.put, List.setIfInBounds_toArray, List.set_cons_zero, List.set_cons_succ]
    refine dM M3 3 9 1 0 [.int .i64 op, .int .i64 a, .int .i64 b, .int .i64 c', .int .i64 m] hu37 ?_
    simp only [Act.put, List.setIfInBounds_toArray, List.set_cons_zero, List.set_cons_succ]
    refine dP M3 4 10 (.pointer (some ⟨g3, 5, none⟩)) ?_
    simp only [Act.put, List.setIfInBounds_toArray, List.set_cons_zero, List.set_cons_succ]
    refine dC M3 5 11 1 5 (.int .i64 v) ?_
    simp only [Act.put, List.setIfInBounds_toArray, List.set_cons_zero, List.set_cons_succ]
    refine dP M3 6 12 (.pointer (some ⟨g3, 6, none⟩)) ?_
    simp only [Act.put, List.setIfInBounds_toArray, List.set_cons_zero, List.set_cons_succ]
    refine dC M3 7 13 1 6 (.int .i64 ok) ?_
    simp only [Act.put, List.setIfInBounds_toArray, List.set_cons_zero, List.set_cons_succ]
    refine dR [1, 9] ?_
    refine qK 1 7 Try.func12 #[.agg (ctx pc r (.slice A l.length c))] ?_ ?_
    · refine (twin_calls pc r A c l _ (Kd.C_below HL.out M3.out.below) kl hlim).mono ?_
      rintro e W7 ⟨v7, rfl, hR, hb⟩
      obtain ⟨A7, c7, rfl⟩ := Kd.R_slice hR
      have M4 := Aside0.mk (Mem.row M3.out hb hR)
      clear M3 hb hR
      refine ⟨_, rfl, M4.out.held, ?_⟩
      simp only [Act.put, List.setIfInBounds_toArray, List.set_cons_zero, List.set_cons_succ]
      refine dR [8, 9] ?_
      refine qK 8 14 Try.func20 #[.agg (ctx pc r (.slice A7 l.length c7)), .agg #[.int .i64 op, .int .i64 a, .int .i64 b, .int .i64 c', .int .i64 m], .int .i64 v, .int .i64 ok] ?_ ?_
      · refine (answer20 op a b c' m v ok pc r A7 c7 l _ (Kd.R_reads' M4.out.own).2.2 (Kd.R_reads' M4.out.own).2.1 hlim).mono ?_
        rintro e W14 ⟨v14, rfl, hR, hb⟩
        obtain ⟨A14, c14, rfl⟩ := Kd.R_slice hR
        have M5 := Aside0.mk (Mem.row M4.out hb hR)
        clear M4 hb hR
        refine ⟨_, rfl, M5.out.held, ?_⟩
        simp only [Act.put, List.setIfInBounds_toArray, List.set_cons_zero, List.set_cons_succ]
        refine dR [9] ?_
        refine qA M5 9 5 30 (ctx 0 zeroR (.slice none 0 0)) ?_ ?_
        · clear M5
          intro g5 w5 M6
          simp only [Act.put, List.setIfInBounds_toArray, List.set_cons_zero, List.set_cons_succ]
          refine dR [10] ?_
          refine qS M6 10 30 5 2 (ctx pc (ansR op a b c' v ok r) (.slice A14 l.length c14)) ?_ ?_
          · clear M6
            intro w_ M7
            refine dDone ?_
            exact hK (g5, A7, c7, A14, c14) _ M7
          exact AllReadyH.nil
        exact AllReadyH.nil
      refine qA M4 9 5 30 (ctx 0 zeroR (.slice none 0 0)) ?_ ?_
      · clear M4
        intro g5 w5 M5
        simp only [Act.put, List.setIfInBounds_toArray, List.set_cons_zero, List.set_cons_succ]
        refine dR [8] ?_
        refine qK 8 14 Try.func20 #[.agg (ctx pc r (.slice A7 l.length c7)), .agg #[.int .i64 op, .int .i64 a, .int .i64 b, .int .i64 c', .int .i64 m], .int .i64 v, .int .i64 ok] ?_ ?_
        · refine (answer20 op a b c' m v ok pc r A7 c7 l _ (Kd.R_reads' M5.out.own).2.2 (Kd.R_reads' M5.out.own).2.1 hlim).mono ?_
          rintro e W14 ⟨v14, rfl, hR, hb⟩
          obtain ⟨A14, c14, rfl⟩ := Kd.R_slice hR
          have M6 := Aside0.mk (Mem.row M5.out hb hR)
          clear M5 hb hR
          refine ⟨_, rfl, M6.out.held, ?_⟩
          simp only [Act.put, List.setIfInBounds_toArray, List.set_cons_zero, List.set_cons_succ]
          refine dR [10] ?_
          refine qS M6 10 30 5 2 (ctx pc (ansR op a b c' v ok r) (.slice A14 l.length c14)) ?_ ?_
          · clear M6
            intro w_ M7
            refine dDone ?_
            exact hK (g5, A7, c7, A14, c14) _ M7
          exact AllReadyH.nil
        exact AllReadyH.nil
      exact AllReadyH.nil
    refine qA M3 9 5 30 (ctx 0 zeroR (.slice none 0 0)) ?_ ?_
    · clear M3
      intro g5 w5 M4
      simp only [Act.put, List.setIfInBounds_toArray, List.set_cons_zero, List.set_cons_succ]
      refine dR [1] ?_
      refine qK 1 7 Try.func12 #[.agg (ctx pc r (.slice A l.length c))] ?_ ?_
      · refine (twin_calls pc r A c l _ (Kd.C_below HL.out M4.out.below) kl hlim).mono ?_
        rintro e W7 ⟨v7, rfl, hR, hb⟩
        obtain ⟨A7, c7, rfl⟩ := Kd.R_slice hR
        have M5 := Aside0.mk (Mem.row M4.out hb hR)
        clear M4 hb hR
        refine ⟨_, rfl, M5.out.held, ?_⟩
        simp only [Act.put, List.setIfInBounds_toArray, List.set_cons_zero, List.set_cons_succ]
        refine dR [8] ?_
        refine qK 8 14 Try.func20 #[.agg (ctx pc r (.slice A7 l.length c7)), .agg #[.int .i64 op, .int .i64 a, .int .i64 b, .int .i64 c', .int .i64 m], .int .i64 v, .int .i64 ok] ?_ ?_
        · refine (answer20 op a b c' m v ok pc r A7 c7 l _ (Kd.R_reads' M5.out.own).2.2 (Kd.R_reads' M5.out.own).2.1 hlim).mono ?_
          rintro e W14 ⟨v14, rfl, hR, hb⟩
          obtain ⟨A14, c14, rfl⟩ := Kd.R_slice hR
          have M6 := Aside0.mk (Mem.row M5.out hb hR)
          clear M5 hb hR
          refine ⟨_, rfl, M6.out.held, ?_⟩
          simp only [Act.put, List.setIfInBounds_toArray, List.set_cons_zero, List.set_cons_succ]
          refine dR [10] ?_
          refine qS M6 10 30 5 2 (ctx pc (ansR op a b c' v ok r) (.slice A14 l.length c14)) ?_ ?_
          · clear M6
            intro w_ M7
            refine dDone ?_
            exact hK (g5, A7, c7, A14, c14) _ M7
          exact AllReadyH.nil
        exact AllReadyH.nil
      exact AllReadyH.nil
    exact AllReadyH.nil
  rintro ⟨g5, A7, c7, A14, c14⟩ W_1 M8
  dsimp only at M8 ⊢
  go_wp2_with fail
  refine dJoin (σ := (Option Addr) × (Nat)) (fun s => ⟨#[.agg (ctx pc r (.slice A l.length c)), .agg #[.int .i64 op, .int .i64 a, .int .i64 b, .int .i64 c', .int .i64 m, .int .i64 v, .int .i64 ok], .pointer (some ⟨g2, 0, none⟩), .pointer (some ⟨g3, 0, none⟩), .bool true, .pointer (some ⟨g5, 0, none⟩), .agg (ctx pc r (.slice A l.length c)), .agg (ctx pc r (.slice A7 l.length c7)), .pointer (some ⟨g3, 0, none⟩), .agg #[.int .i64 op, .int .i64 a, .int .i64 b, .int .i64 c', .int .i64 m], .pointer (some ⟨g3, 5, none⟩), .int .i64 v, .pointer (some ⟨g3, 6, none⟩), .int .i64 ok, .agg (ctx pc (ansR op a b c' v ok r) (.slice A14 l.length c14)), .bool true, .bool true, .agg (ctx pc (ansR op a b c' v ok r) (.slice A14 l.length c14)), .agg (ctx pc r (.slice A l.length c)), .pointer (some ⟨g3, 0, none⟩), .agg #[.int .i64 op, .int .i64 a, .int .i64 b, .int .i64 c', .int .i64 m], .pointer (some ⟨g3, 5, none⟩), .int .i64 v, .pointer (some ⟨g3, 6, none⟩), .int .i64 ok, .agg (ctx pc (ansR op a b c' v ok r) (.slice s.1 l.length s.2)), .bool true, .bool true], []⟩) (fun s w' => Aside0 (Mem 3 w w' [(g2, (ctx pc r (.slice A l.length c)), 30), (g3, #[.int .i64 op, .int .i64 a, .int .i64 b, .int .i64 c', .int .i64 m, .int .i64 v, .int .i64 ok], 54), (g5, (ctx pc (ansR op a b c' v ok r) (.slice A14 l.length c14)), 30)] (.slice A14 l.length c14) l)) ?_ (fun hK => ?_)
  rotate_left
  · refine dStart M8 (fun w' M => ?_)
    clear M8
    have M9 := M
    clear M
    refine dR [0] ?_
    refine qK 0 15 Try.func14 #[] ?_ ?_
    · refine (lives_calls _).mono ?_
      rintro e W15 ⟨rfl, hb⟩
      have M10 := Aside0.mk (Mem.call M9.out hb)
      clear M9 hb
      refine ⟨_, rfl, M10.out.held, ?_⟩
      simp only [Act.put, List.setIfInBounds_toArray, List.set_cons_zero, List.set_cons_succ]
      refine dP M10 1 16 (.bool true) ?_
      simp only [Act.put, List.setIfInBounds_toArray, List.set_cons_zero, List.set_cons_succ]
      refine dL M10 2 17 2 hu30 ?_
      simp only [Act.put, List.setIfInBounds_toArray, List.set_cons_zero, List.set_cons_succ]
      refine dL M10 3 18 0 hu30 ?_
      simp only [Act.put, List.setIfInBounds_toArray, List.set_cons_zero, List.set_cons_succ]
      refine dP M10 4 19 (.pointer (some ⟨g3, 0, none⟩)) ?_
      simp only [Act.put, List.setIfInBounds_toArray, List.set_cons_zero, List.set_cons_succ]
      refine dM M10 5 20 1 0 [.int .i64 op, .int .i64 a, .int .i64 b, .int .i64 c', .int .i64 m] hu37 ?_
      simp only [Act.put, List.setIfInBounds_toArray, List.set_cons_zero, List.set_cons_succ]
      refine dP M10 6 21 (.pointer (some ⟨g3, 5, none⟩)) ?_
      simp only [Act.put, List.setIfInBounds_toArray, List.set_cons_zero, List.set_cons_succ]
      refine dC M10 7 22 1 5 (.int .i64 v) ?_
      simp only [Act.put, List.setIfInBounds_toArray, List.set_cons_zero, List.set_cons_succ]
      refine dP M10 8 23 (.pointer (some ⟨g3, 6, none⟩)) ?_
      simp only [Act.put, List.setIfInBounds_toArray, List.set_cons_zero, List.set_cons_succ]
      refine dC M10 9 24 1 6 (.int .i64 ok) ?_
      simp only [Act.put, List.setIfInBounds_toArray, List.set_cons_zero, List.set_cons_succ]
      refine dR [10] ?_
      refine qK 10 25 Try.func21 #[.agg (ctx pc r (.slice A l.length c)), .agg #[.int .i64 op, .int .i64 a, .int .i64 b, .int .i64 c', .int .i64 m], .int .i64 v, .int .i64 ok] ?_ ?_
      · refine (answer21 op a b c' m v ok pc r A c l _ (Kd.C_below HL.out M10.out.below) kl hlim).mono ?_
        rintro e W25 ⟨v25, rfl, hR, hb⟩
        obtain ⟨A25, c25, rfl⟩ := Kd.R_slice hR
        have HR := Aside0.mk (Kd.R_reads' hR)
        have M11 := Aside0.mk (Mem.call M10.out hb)
        clear M10 hb hR
        refine ⟨_, rfl, M11.out.held, ?_⟩
        simp only [Act.put, List.setIfInBounds_toArray, List.set_cons_zero, List.set_cons_succ]
        refine dR [11] ?_
        refine qK 11 26 Try.func15 #[.agg (ctx pc (ansR op a b c' v ok r) (.slice A14 l.length c14)), .agg (ctx pc (ansR op a b c' v ok r) (.slice A25 l.length c25))] ?_ ?_
        · refine (same_calls pc (ansR op a b c' v ok r) A14 A25 c14 c25 l _ (Kd.R_reads' M11.out.own).2.2 HR.out.2.2 hlim).mono ?_
          rintro e W26 ⟨rfl, hb⟩
          have M12 := Aside0.mk (Mem.call M11.out hb)
          clear M11 hb
          refine ⟨_, rfl, M12.out.held, ?_⟩
          simp only [Act.put, List.setIfInBounds_toArray, List.set_cons_zero, List.set_cons_succ]
          refine dP M12 12 27 (.bool true) ?_
          simp only [Act.put, List.setIfInBounds_toArray, List.set_cons_zero, List.set_cons_succ]
          refine dP M12 13 4 (.bool true) ?_
          simp only [Act.put, List.setIfInBounds_toArray, List.set_cons_zero, List.set_cons_succ]
          refine dDone ?_
          exact hK (A25, c25) _ M12
        exact AllReadyH.nil
      exact AllReadyH.nil
    exact AllReadyH.nil
  rintro ⟨A25, c25⟩ W_2 M13
  dsimp only at M13 ⊢
  go_wp2_with fail
  go_ret
  exact ⟨rfl, M13.out.below⟩
end Go.Proofs.Ythjfmlehkcccfaa.Hlaw6
end

section
/-
  From what an argument reads as (the row's words) to the kinds in which the contracts speak: one law a make of type.
-/
set_option linter.unusedVariables false
set_option linter.unusedSimpArgs false
namespace Go.Proofs.Ythjfmlehkcccfaa.Opn
open Go.Proofs.YthjfmlehkcccfaaW.PrintWords

/-- Whatever reads as data at type t is of kind d, and G says what is known of its size. -/
structure Opens {α : Type} (P : Program) (t : TypeId) (d : Kd α) (G : α → Nat → Prop) : Prop where
  size : P.cellsOf t = d.sz
  mono : ∀ x m n, m ≤ n → G x m → G x n
  opens : ∀ {H : Type} (enc : TypeId × Value → H) (w : World) (base : Nat) (spare : Nat → Bool) (held : Bool) (fuel : Nat) (cs : List Value) (x : DataW H × List MemPlace),
    DataW.trod enc P w base spare held fuel t cs = some x → (∀ n ∈ x.1.weights P t, n ≤ reachBytes) → ∃ v, d.K w v cs ∧ G v (Rows.uptoBulk x.1)

variable {P : Program} {t e : TypeId}
def GInt (k : IntKind) (v : Int) (_ : Nat) : Prop := (Lit.int k v).wf = true
def GBool (_ : Bool) (_ : Nat) : Prop := True
def GStr (s : ByteArray) (n : Nat) : Prop := s.size ≤ 140737488351232 ∧ s.size < n
def GSl {α : Type} (B : Nat) (G : α → Nat → Prop) (xs : List α) (n : Nat) : Prop := xs.length * B ≤ 140737488351232 ∧ xs.length ≤ maxLen ∧ xs.length < n ∧ ∀ x ∈ xs, G x n

theorem opens_int {k : IntKind} (ht : P.underlying t = some (.int k)) (hc : P.cellsOf t = 1) : Opens P t (Kd.int k) (GInt k) where
  size := hc
  mono := fun _ _ _ _ h => h
  opens := by
    intro H enc w base spare held fuel cs x h _
    obtain ⟨n, rfl, rfl, hw⟩ := DataW.trod_int ht h
    exact ⟨n, rfl, hw⟩
theorem opens_bool (ht : P.underlying t = some .bool) (hc : P.cellsOf t = 1) : Opens P t Kd.bool GBool where
  size := hc
  mono := fun _ _ _ _ h => h
  opens := by
    intro H enc w base spare held fuel cs x h _
    obtain ⟨b, rfl, rfl⟩ := DataW.trod_bool ht h
    exact ⟨b, rfl, trivial⟩
theorem opens_string (ht : P.underlying t = some .string) (hc : P.cellsOf t = 1) : Opens P t Kd.string GStr where
  size := hc
  mono := fun _ _ _ hmn h => ⟨h.1, Nat.lt_of_lt_of_le h.2 hmn⟩
  opens := by
    intro H enc w base spare held fuel cs x h hw
    obtain ⟨s, rfl, rfl, _⟩ := DataW.trod_string ht h
    have h1 := hw s.data.toList.length (by simp [DataW.weights])
    refine ⟨s, rfl, ?_, ?_⟩
    · simpa [reachBytes] using h1
    · simp [Rows.uptoBulk]
theorem weights_all {H : Type} {P : Program} {e : TypeId} : ∀ {l : List (DataW H)} {d : DataW H}, d ∈ l → ∀ n ∈ d.weights P e, n ∈ DataW.weightsAll P e l
  | a :: l, d, hd, n, hn => by
    rw [DataW.weightsAll]
    rcases List.mem_cons.1 hd with rfl | hd
    · exact List.mem_append_left _ hn
    · exact List.mem_append_right _ (weights_all hd n hn)
theorem bulk_all {H : Type} : ∀ {l : List (DataW H)} {d : DataW H}, d ∈ l → Rows.uptoBulk d ≤ Rows.uptoBulkAll l
  | a :: l, d, hd => by
    rw [Rows.uptoBulkAll]
    rcases List.mem_cons.1 hd with rfl | hd
    · omega
    · have := bulk_all hd; omega
theorem bulk_pos {H : Type} (d : DataW H) : 1 ≤ Rows.uptoBulk d := by
  cases d with
  | lit l => cases l <;> simp [Rows.uptoBulk]
  | _ => simp [Rows.uptoBulk]
theorem bulk_len {H : Type} : ∀ l : List (DataW H), l.length ≤ Rows.uptoBulkAll l
  | [] => by simp
  | a :: l => by rw [Rows.uptoBulkAll]; have := bulk_len l; have := bulk_pos a; simp; omega
theorem choice_list {α : Type} {R : Nat → α → Prop} : ∀ (n : Nat), (∀ i < n, ∃ v, R i v) → ∃ l : List α, l.length = n ∧ ∀ i v, l[i]? = some v → R i v
  | 0, _ => ⟨[], rfl, fun i v h => by simp at h⟩
  | n + 1, h => by
    obtain ⟨l, hl, hr⟩ := choice_list n (fun i hi => h i (by omega))
    obtain ⟨v, hv⟩ := h n (by omega)
    refine ⟨l ++ [v], by simp [hl], fun i u hu => ?_⟩
    rcases Nat.lt_or_ge i l.length with hi | hi
    · rw [List.getElem?_append_left hi] at hu
      exact hr i u hu
    · rw [List.getElem?_append_right hi] at hu
      have h0 : i - l.length = 0 := by
        rcases Nat.eq_zero_or_pos (i - l.length) with h0 | h0
        · exact h0
        · rw [List.getElem?_eq_none (by simp; omega)] at hu; cases hu
      rw [h0] at hu
      obtain rfl : v = u := by simpa using hu
      obtain rfl : i = n := by omega
      exact hv
theorem opens_slice {α : Type} {d : Kd α} {G : α → Nat → Prop} {B : Nat} (he : Opens P e d G) (ht : P.underlying t = some (.slice e)) (hc : P.cellsOf t = 1) (hB : P.bytesOf e = B) : Opens P t (Kd.slice e d) (GSl B G) where
  size := hc
  mono := fun _ _ _ hmn h => ⟨h.1, h.2.1, Nat.lt_of_lt_of_le h.2.2.1 hmn, fun x hx => he.mono _ _ _ hmn (h.2.2.2 x hx)⟩
  opens := by
    intro H enc w base spare held fuel cs x h hw
    rcases DataW.trod_slice ht h with ⟨rfl, rfl⟩ | ⟨a, len, cap, elems, rest, n, rfl, rfl, rfl, hb, hl, hm, hlen, hel, _, _⟩
    · exact ⟨[], ⟨none, 0, rfl, Nat.le_refl _, Kd.C_nil d w⟩, by simp, by simp, by simp [Rows.uptoBulk], by simp⟩
    · simp only [DataW.weights, ht] at hw
      have hbulk : Rows.uptoBulkAll (elems.map (·.1)) < Rows.uptoBulk (DataW.slice (elems.map (·.1)) (rest.map (·.1))) := by rw [Rows.uptoBulk]; omega
      have each : ∀ i < len, ∃ v, ∃ c, d.K w v c ∧ G v (Rows.uptoBulk (DataW.slice (elems.map (·.1)) (rest.map (·.1)))) ∧ w.cells? base (a.add (i * P.cellsOf e)) (P.cellsOf e) = some c := by
        intro i hi
        have h1 := hel i hi
        rw [List.getElem?_eq_getElem (by omega)] at h1
        obtain ⟨c, hc1, hc2⟩ := Option.bind_eq_some_iff.1 h1
        have hmem : elems[i].1 ∈ elems.map (·.1) := List.mem_map.2 ⟨_, List.getElem_mem _, rfl⟩
        obtain ⟨v, hv1, hv2⟩ := he.opens enc w base spare held n c _ hc2 (fun q hq => hw q (List.mem_cons_of_mem _ (List.mem_append_left _ (weights_all hmem q hq))))
        exact ⟨v, c, hv1, he.mono _ _ _ (by have := bulk_all hmem; omega) hv2, hc1⟩
      obtain ⟨l, hl1, hl2⟩ := choice_list len each
      refine ⟨l, ⟨some a, cap, by rw [hl1], by omega, ?_⟩, ?_, by rw [hl1]; omega, ?_, ?_⟩
      · rw [hl1]
        refine ⟨hl1, by unfold maxLen at hm; omega, fun _ => ⟨a, rfl, fun j p hj => ?_⟩⟩
        obtain ⟨c, hc1, _, hc3⟩ := hl2 j p hj
        obtain ⟨_, hc4, hc5⟩ := World.cells?_some hc3
        refine ⟨c, by rw [hc4, he.size], hc1, fun i u hu => ?_⟩
        have hi : i < P.cellsOf e := by
          rcases Nat.lt_or_ge i c.length with h | h
          · omega
          · rw [List.getElem?_eq_none h] at hu; cases hu
        have := hc5 i hi
        rw [hu] at this
        rw [← this, ← he.size]
        rw [Addr.add_add]
      · have h1 := hw _ (List.mem_cons_self)
        rw [hl1, ← hB, ← hlen]
        have h2 : elems.length * P.bytesOf e ≤ ((elems.map (·.1)).length + (rest.map (·.1)).length) * P.bytesOf e := Nat.mul_le_mul_right _ (by simp)
        exact Nat.le_trans h2 (by simpa [reachBytes] using h1)
      · rw [hl1, ← hlen]
        have := bulk_len (elems.map (·.1))
        simp at this ⊢
        simp at hbulk
        omega
      · intro x hx
        obtain ⟨i, hi, rfl⟩ := List.getElem_of_mem hx
        exact (hl2 i _ (List.getElem?_eq_getElem hi)).choose_spec.2.1

/-! ### structs: their fields in line -/
structure OpensSeq {α : Type} (P : Program) (ts : List TypeId) (d : Kd α) (G : α → Nat → Prop) : Prop where
  size : (ts.map P.cellsOf).sum = d.sz
  mono : ∀ x m n, m ≤ n → G x m → G x n
  opens : ∀ {H : Type} (enc : TypeId × Value → H) (w : World) (base : Nat) (spare : Nat → Bool) (held : Bool) (fuel : Nat) (cs : List Value) (xs : List (DataW H × List MemPlace)),
    cs.length = d.sz → xs.length = ts.length →
    (∀ i t, ts[i]? = some t → ∃ y, xs[i]? = some y ∧ DataW.trod enc P w base spare held fuel t ((cs.drop ((ts.take i).map P.cellsOf).sum).take (P.cellsOf t)) = some y ∧ ∀ n ∈ y.1.weights P t, n ≤ reachBytes) →
    ∃ v, d.K w v cs ∧ G v (Rows.uptoBulkAll (xs.map (·.1)))
theorem seq_one {α : Type} {d : Kd α} {G : α → Nat → Prop} (h : Opens P t d G) : OpensSeq P [t] d G where
  size := by simp [h.size]
  mono := h.mono
  opens := by
    intro H enc w base spare held fuel cs xs hl hx hf
    obtain ⟨y, hy, ht, hw⟩ := hf 0 t rfl
    have e : (cs.drop 0).take (P.cellsOf t) = cs := by rw [List.drop_zero, List.take_of_length_le (by rw [hl, h.size]; exact Nat.le_refl _)]
    simp only [List.take_zero, List.map_nil, List.sum_nil] at ht
    rw [e] at ht
    obtain ⟨v, h1, h2⟩ := h.opens enc w base spare held fuel cs y ht hw
    exact ⟨v, h1, h.mono _ _ _ (bulk_all (List.mem_map.2 ⟨y, List.mem_of_getElem? hy, rfl⟩)) h2⟩
def GPair {α β : Type} (G : α → Nat → Prop) (G' : β → Nat → Prop) (x : α × β) (n : Nat) : Prop := G x.1 n ∧ G' x.2 n
theorem seq_cons {α β : Type} {d : Kd α} {G : α → Nat → Prop} {ts : List TypeId} {d' : Kd β} {G' : β → Nat → Prop} (h : Opens P t d G) (h' : OpensSeq P ts d' G') : OpensSeq P (t :: ts) (Kd.pair d d') (GPair G G') where
  size := by show _ = d.sz + d'.sz; simp [h.size, ← h'.size]
  mono := fun x m n hmn hx => ⟨h.mono _ _ _ hmn hx.1, h'.mono _ _ _ hmn hx.2⟩
  opens := by
    intro H enc w base spare held fuel cs xs hl hx hf
    replace hl : cs.length = d.sz + d'.sz := hl
    obtain ⟨y, hy, ht, hw⟩ := hf 0 t rfl
    simp only [List.take_zero, List.map_nil, List.sum_nil, List.drop_zero] at ht
    obtain ⟨v, h1, h2⟩ := h.opens enc w base spare held fuel _ y ht hw
    match xs, hx with
    | [], hx => simp at hx
    | x0 :: xs, hx =>
      obtain rfl : x0 = y := by simpa using hy
      obtain ⟨v', h3, h4⟩ := h'.opens enc w base spare held fuel (cs.drop (P.cellsOf t)) xs (by rw [List.length_drop, hl, h.size]; omega) (by simpa using hx) (fun i t' hi => by
        obtain ⟨y', hy', ht', hw'⟩ := hf (i + 1) t' (by simpa using hi)
        refine ⟨y', by simpa using hy', ?_, hw'⟩
        rw [List.drop_drop]
        simpa [List.take_succ_cons] using ht')
      refine ⟨(v, v'), ⟨cs.take (P.cellsOf t), cs.drop (P.cellsOf t), (List.take_append_drop _ _).symm, h1, h3⟩, ?_, ?_⟩
      · refine h.mono _ _ _ ?_ h2
        rw [List.map_cons, Rows.uptoBulkAll]; omega
      · refine h'.mono _ _ _ ?_ h4
        rw [List.map_cons, Rows.uptoBulkAll]; omega
def offsB (P : Program) : Nat → List Field → Bool
  | _, [] => true
  | o, f :: r => (f.offset == o) && offsB P (o + P.cellsOf f.type) r
theorem offs_at : ∀ {l : List Field} {o : Nat}, offsB P o l = true → ∀ i f, l[i]? = some f → f.offset = o + (((l.map (·.type)).take i).map P.cellsOf).sum
  | [], o, _, i, f, hf => by simp at hf
  | a :: l, o, h, i, f, hf => by
    simp only [offsB, Bool.and_eq_true, beq_iff_eq] at h
    cases i with
    | zero => obtain rfl : a = f := by simpa using hf
              simp [h.1]
    | succ i =>
      have := offs_at h.2 i f (by simpa using hf)
      rw [this]
      simp [List.take_succ_cons]; omega
theorem weights_each {H : Type} : ∀ {ts : List TypeId} {ds : List (DataW H)} {i : Nat} {t : TypeId} {d : DataW H}, ts[i]? = some t → ds[i]? = some d → ∀ n ∈ d.weights P t, n ∈ DataW.weightsEach P ts ds :=
  fun ht hd n hn => DataW.weights_mem_each ht hd n hn
theorem opens_struct {α β : Type} {d : Kd α} {G : α → Nat → Prop} {fs : Array Field} {ts : List TypeId} (h : OpensSeq P ts d G) (ht : P.underlying t = some (.struct fs)) (hts : fs.toList.map (·.type) = ts) (ho : offsB P 0 fs.toList = true)
    (hc : P.cellsOf t = d.sz) (f : β → α) (g : α → β) (hfg : ∀ a, f (g a) = a) : Opens P t (Kd.iso d f) (fun x n => G (f x) n) where
  size := hc
  mono := fun x m n hmn hx => h.mono _ _ _ hmn hx
  opens := by
    intro H enc w base spare held fuel cs x hx hw
    obtain ⟨xs, n, _, rfl, hl, hlen, hf⟩ := DataW.trod_struct ht hx
    have hlen2 : xs.length = ts.length := by rw [hlen, ← hts]; simp
    simp only [DataW.weights, ht, hts] at hw
    obtain ⟨v, h1, h2⟩ := h.opens enc w base spare held n cs xs (hl.trans hc) hlen2 (fun i t' hi => by
      have hi2 : i < ts.length := by
        rcases Nat.lt_or_ge i ts.length with h | h
        · exact h
        · rw [List.getElem?_eq_none h] at hi; cases hi
      have hfi : ∃ fi : Field, fs[i]? = some fi ∧ fi.type = t' := by
        rw [← hts, List.getElem?_map] at hi
        obtain ⟨fi, h3, h4⟩ := Option.map_eq_some_iff.1 hi
        exact ⟨fi, by simpa using h3, h4⟩
      obtain ⟨fi, hfi1, rfl⟩ := hfi
      have h5 := hf i fi hfi1
      refine ⟨xs[i], List.getElem?_eq_getElem (by omega), ?_, ?_⟩
      · rw [List.getElem?_eq_getElem (by omega)] at h5
        have := offs_at ho i fi (by simpa using hfi1)
        rw [hts, Nat.zero_add] at this
        rw [← this]
        exact h5
      · intro q hq
        exact hw q (weights_each hi (by rw [List.getElem?_map, List.getElem?_eq_getElem (by omega)]; rfl) q hq))
    refine ⟨g v, by show d.K w (f (g v)) cs; rw [hfg]; exact h1, ?_⟩
    show G (f (g v)) _
    rw [hfg]
    exact h.mono _ _ _ (by rw [Rows.uptoBulk]; omega) h2
/-! ### arrays: their elements in line -/
theorem okWide_array {w : World} {r : Reach} {base : Nat} {v : Value} {k : Nat} (ht : P.underlying t = some (.array k e)) (h : Value.okWide P w r base t v) : ∃ cs, v = .agg cs ∧ cs.size = P.cellsOf t := by
  simp only [Value.okWide, ht] at h
  obtain ⟨cs, h1, h2, _⟩ := h
  exact ⟨cs, h1, h2⟩
theorem opens_array {α β : Type} {d : Kd α} {G : α → Nat → Prop} {k : Nat} (h : OpensSeq P (List.replicate k e) d G) (ht : P.underlying t = some (.array k e)) (hc : P.cellsOf t = d.sz) (f : β → α) (g : α → β) (hfg : ∀ a, f (g a) = a) : Opens P t (Kd.iso d f) (fun x n => G (f x) n) where
  size := hc
  mono := fun x m n hmn hx => h.mono _ _ _ hmn hx
  opens := by
    intro H enc w base spare held fuel cs x hx hw
    obtain ⟨xs, m, _, rfl, hl, hlen, hf⟩ := DataW.trod_array ht hx
    simp only [DataW.weights, ht] at hw
    obtain ⟨v, h1, h2⟩ := h.opens enc w base spare held m cs xs (hl.trans hc) (by simp [hlen]) (fun i t' hi => by
      obtain ⟨hi2, rfl⟩ : i < k ∧ e = t' := by
        rw [List.getElem?_replicate] at hi
        split at hi
        · rename_i h0; exact ⟨h0, Option.some.inj hi⟩
        · cases hi
      have h5 := hf i hi2
      refine ⟨xs[i], List.getElem?_eq_getElem (by omega), ?_, ?_⟩
      · rw [List.getElem?_eq_getElem (by omega)] at h5
        have h6 : (((List.replicate k e).take i).map P.cellsOf).sum = i * P.cellsOf e := by
          rw [List.take_replicate, List.map_replicate, Nat.min_eq_left (by omega)]
          clear h5 hi2 hf hi
          induction i with
          | zero => simp
          | succ i ih => rw [List.replicate_succ, List.sum_cons, ih]; rw [Nat.succ_mul]; omega
        rw [h6]
        exact h5
      · intro q hq
        exact hw q (weights_all (List.mem_map.2 ⟨xs[i], List.getElem_mem _, rfl⟩) q hq))
    refine ⟨g v, by show d.K w (f (g v)) cs; rw [hfg]; exact h1, ?_⟩
    show G (f (g v)) _
    rw [hfg]
    exact h.mono _ _ _ (by rw [Rows.uptoBulk]; omega) h2
end Go.Proofs.Ythjfmlehkcccfaa.Opn
end

section
/-
  What the arguments' types open to: a program (words, marks, tables) and a context (place, registers, calls).
-/
namespace Go.Proofs.Ythjfmlehkcccfaa.Kinds
open Go.Proofs.YthjfmlehkcccfaaW.PrintWords Go.Proofs.Ythjfmlehkcccfaa.Opn Go.Proofs.Ythjfmlehkcccfaa.GA Go.Proofs.Ythjfmlehkcccfaa.Hctx
theorem o3 : Opens Try.prog 3 (Kd.int .i64) (GInt .i64) := opens_int Try.underlying3 (by kernel_rfl)
theorem o2 : Opens Try.prog 2 (Kd.int .i64) (GInt .i64) := opens_int Try.underlying2 (by kernel_rfl)
theorem o4 : Opens Try.prog 4 Kd.bool GBool := opens_bool Try.underlying4 (by kernel_rfl)
theorem oW : Opens Try.prog 61 (Kd.int .u32) (GInt .u32) := opens_int Try.underlying61 (by kernel_rfl)
def G75 (x : S75) (n : Nat) : Prop := GPair (GInt .i64) (GInt .i64) (x.f0, x.f1) n
theorem o75 : Opens Try.prog 75 k75 G75 :=
  opens_struct (seq_cons o3 (seq_one o3)) Try.underlying75 (by kernel_rfl) (by kernel_rfl) (by kernel_rfl) _ (fun a => ⟨a.1, a.2⟩) (fun _ => rfl)
def G106 (x : S106) (n : Nat) : Prop := GPair GBool (GPair (GInt .i64) (GPair (GInt .i64) (GInt .i64))) (x.f0, x.f1, x.f2, x.f3) n
theorem o106 : Opens Try.prog 106 k106 G106 :=
  opens_struct (seq_cons o4 (seq_cons o3 (seq_cons o3 (seq_one o3)))) Try.underlying106 (by kernel_rfl) (by kernel_rfl) (by kernel_rfl) _ (fun a => ⟨a.1, a.2.1, a.2.2.1, a.2.2.2⟩) (fun _ => rfl)
theorem o96 : Opens Try.prog 96 (Kd.slice 106 k106) (GSl 32 G106) := opens_slice o106 Try.underlying96 (by kernel_rfl) (B := 32) (by kernel_rfl)
def G98 (x : S98) (n : Nat) : Prop := GPair (GSl 32 G106) GBool (x.f0, x.f1) n
theorem o98 : Opens Try.prog 98 k98 G98 :=
  opens_struct (seq_cons o96 (seq_one o4)) Try.underlying98 (by kernel_rfl) (by kernel_rfl) (by kernel_rfl) _ (fun a => ⟨a.1, a.2⟩) (fun _ => rfl)
theorem o22 : Opens Try.prog 22 (Kd.slice 61 (Kd.int .u32)) (GSl 4 (GInt .u32)) := opens_slice oW Try.underlying22 (by kernel_rfl) (B := 4) (by kernel_rfl)
theorem o23 : Opens Try.prog 23 (Kd.slice 75 k75) (GSl 16 G75) := opens_slice o75 Try.underlying23 (by kernel_rfl) (B := 16) (by kernel_rfl)
theorem o24 : Opens Try.prog 24 (Kd.slice 98 k98) (GSl 32 G98) := opens_slice o98 Try.underlying24 (by kernel_rfl) (B := 32) (by kernel_rfl)
theorem o28 : Opens Try.prog 28 (Kd.slice 3 (Kd.int .i64)) (GSl 8 (GInt .i64)) := opens_slice o3 Try.underlying28 (by kernel_rfl) (B := 8) (by kernel_rfl)
structure PrgD where
  (l0 : List Int) (l1 : List S75) (l2 : List S98)
def kPrg : Kd PrgD := Kd.iso (Kd.pair (Kd.slice 61 (Kd.int .u32)) (Kd.pair (Kd.slice 75 k75) (Kd.slice 98 k98))) (fun x : PrgD => (x.l0, x.l1, x.l2))
def GPrg (x : PrgD) (n : Nat) : Prop := GPair (GSl 4 (GInt .u32)) (GPair (GSl 16 G75) (GSl 32 G98)) (x.l0, x.l1, x.l2) n
theorem o26 : Opens Try.prog 26 kPrg GPrg :=
  opens_struct (seq_cons o22 (seq_cons o23 (seq_one o24))) Try.underlying26 (by kernel_rfl) (by kernel_rfl) (by kernel_rfl) _ (fun a => ⟨a.1, a.2.1, a.2.2⟩) (fun _ => rfl)
theorem kPrg_open {w : World} {x : PrgD} {cs : List Value} (h : kPrg.K w x cs) : ∃ A0 c0 A1 c1 A2 c2, cs = [.slice A0 x.l0.length c0, .slice A1 x.l1.length c1, .slice A2 x.l2.length c2] ∧ x.l0.length ≤ c0 ∧ Kd.C (Kd.int .u32) w A0 x.l0.length x.l0 ∧ x.l1.length ≤ c1 ∧ Kd.C k75 w A1 x.l1.length x.l1 ∧ x.l2.length ≤ c2 ∧ Kd.C k98 w A2 x.l2.length x.l2 := by
  obtain ⟨_, _, rfl, ⟨A0, c0, rfl, g0, h0⟩, ⟨_, _, rfl, ⟨A1, c1, rfl, g1, h1⟩, ⟨A2, c2, rfl, g2, h2⟩⟩⟩ := h
  exact ⟨A0, c0, A1, c1, A2, c2, rfl, g0, h0, g1, h1, g2, h2⟩
def kRegs : Kd Regs := Kd.iso (Kd.pair (Kd.int .i64) (Kd.pair (Kd.int .i64) (Kd.pair (Kd.int .i64) (Kd.pair (Kd.int .i64) (Kd.pair (Kd.int .i64) (Kd.pair (Kd.int .i64) (Kd.pair (Kd.int .i64) (Kd.pair (Kd.int .i64) (Kd.pair (Kd.int .i64) (Kd.pair (Kd.int .i64) (Kd.pair (Kd.int .i64) (Kd.pair (Kd.int .i64) (Kd.pair (Kd.int .i64) (Kd.pair (Kd.int .i64) (Kd.pair (Kd.int .i64) (Kd.int .i64)))))))))))))))) (fun r : Regs => (r.r0, r.r1, r.r2, r.r3, r.r4, r.r5, r.r6, r.r7, r.r8, r.r9, r.r10, r.r11, r.r12, r.r13, r.r14, r.r15))
def GRegs (r : Regs) (n : Nat) : Prop := (GPair (GInt .i64) (GPair (GInt .i64) (GPair (GInt .i64) (GPair (GInt .i64) (GPair (GInt .i64) (GPair (GInt .i64) (GPair (GInt .i64) (GPair (GInt .i64) (GPair (GInt .i64) (GPair (GInt .i64) (GPair (GInt .i64) (GPair (GInt .i64) (GPair (GInt .i64) (GPair (GInt .i64) (GPair (GInt .i64) (GInt .i64)))))))))))))))) (r.r0, r.r1, r.r2, r.r3, r.r4, r.r5, r.r6, r.r7, r.r8, r.r9, r.r10, r.r11, r.r12, r.r13, r.r14, r.r15) n
theorem o27 : Opens Try.prog 27 kRegs GRegs :=
  opens_array (k := 16) (e := 2) (seq_cons o2 (seq_cons o2 (seq_cons o2 (seq_cons o2 (seq_cons o2 (seq_cons o2 (seq_cons o2 (seq_cons o2 (seq_cons o2 (seq_cons o2 (seq_cons o2 (seq_cons o2 (seq_cons o2 (seq_cons o2 (seq_cons o2 (seq_one o2)))))))))))))))) Try.underlying27 (by kernel_rfl) _ (fun a => ⟨a.1, a.2.1, a.2.2.1, a.2.2.2.1, a.2.2.2.2.1, a.2.2.2.2.2.1, a.2.2.2.2.2.2.1, a.2.2.2.2.2.2.2.1, a.2.2.2.2.2.2.2.2.1, a.2.2.2.2.2.2.2.2.2.1, a.2.2.2.2.2.2.2.2.2.2.1, a.2.2.2.2.2.2.2.2.2.2.2.1, a.2.2.2.2.2.2.2.2.2.2.2.2.1, a.2.2.2.2.2.2.2.2.2.2.2.2.2.1, a.2.2.2.2.2.2.2.2.2.2.2.2.2.2.1, a.2.2.2.2.2.2.2.2.2.2.2.2.2.2.2⟩) (fun _ => rfl)
theorem kRegs_open {w : World} {r : Regs} {cs : List Value} (h : kRegs.K w r cs) : cs = [.int .i64 r.r0, .int .i64 r.r1, .int .i64 r.r2, .int .i64 r.r3, .int .i64 r.r4, .int .i64 r.r5, .int .i64 r.r6, .int .i64 r.r7, .int .i64 r.r8, .int .i64 r.r9, .int .i64 r.r10, .int .i64 r.r11, .int .i64 r.r12, .int .i64 r.r13, .int .i64 r.r14, .int .i64 r.r15] := by
  obtain ⟨_, _, rfl, rfl, ⟨_, _, rfl, rfl, ⟨_, _, rfl, rfl, ⟨_, _, rfl, rfl, ⟨_, _, rfl, rfl, ⟨_, _, rfl, rfl, ⟨_, _, rfl, rfl, ⟨_, _, rfl, rfl, ⟨_, _, rfl, rfl, ⟨_, _, rfl, rfl, ⟨_, _, rfl, rfl, ⟨_, _, rfl, rfl, ⟨_, _, rfl, rfl, ⟨_, _, rfl, rfl, ⟨_, _, rfl, rfl, rfl⟩⟩⟩⟩⟩⟩⟩⟩⟩⟩⟩⟩⟩⟩⟩ := h
  exact rfl
structure CtxD where
  (pc : Int) (r : Regs) (l : List Int)
def kCtx : Kd CtxD := Kd.iso (Kd.pair (Kd.int .i64) (Kd.pair kRegs (Kd.slice 3 (Kd.int .i64)))) (fun x : CtxD => (x.pc, x.r, x.l))
def GCtx (x : CtxD) (n : Nat) : Prop := GPair (GInt .i64) (GPair GRegs (GSl 8 (GInt .i64))) (x.pc, x.r, x.l) n
theorem o30 : Opens Try.prog 30 kCtx GCtx :=
  opens_struct (seq_cons o3 (seq_cons o27 (seq_one o28))) Try.underlying30 (by kernel_rfl) (by kernel_rfl) (by kernel_rfl) _ (fun a => ⟨a.1, a.2.1, a.2.2⟩) (fun _ => rfl)
theorem kCtx_open {w : World} {x : CtxD} {cs : List Value} (h : kCtx.K w x cs) : ∃ A c, cs = (ctx x.pc x.r (.slice A x.l.length c)).toList ∧ x.l.length ≤ c ∧ Kd.C (Kd.int .i64) w A x.l.length x.l := by
  obtain ⟨_, _, rfl, rfl, ⟨_, _, rfl, hr, ⟨A, c, rfl, g, h⟩⟩⟩ := h
  obtain rfl := kRegs_open hr
  exact ⟨A, c, rfl, g, h⟩
structure InstD where
  (op a b c m : Int)
def kInst : Kd InstD := Kd.iso (Kd.pair (Kd.int .i64) (Kd.pair (Kd.int .i64) (Kd.pair (Kd.int .i64) (Kd.pair (Kd.int .i64) (Kd.int .i64))))) (fun x : InstD => (x.op, x.a, x.b, x.c, x.m))
def GInst (x : InstD) (n : Nat) : Prop := (GPair (GInt .i64) (GPair (GInt .i64) (GPair (GInt .i64) (GPair (GInt .i64) (GInt .i64))))) (x.op, x.a, x.b, x.c, x.m) n
theorem o37 : Opens Try.prog 37 kInst GInst :=
  opens_struct (seq_cons o3 (seq_cons o3 (seq_cons o3 (seq_cons o3 (seq_one o3))))) Try.underlying37 (by kernel_rfl) (by kernel_rfl) (by kernel_rfl) _ (fun a => ⟨a.1, a.2.1, a.2.2.1, a.2.2.2.1, a.2.2.2.2⟩) (fun _ => rfl)
structure RepD where
  (i : InstD) (v ok : Int)
def kRep : Kd RepD := Kd.iso (Kd.pair kInst (Kd.pair (Kd.int .i64) (Kd.int .i64))) (fun x : RepD => (x.i, x.v, x.ok))
def GRep (x : RepD) (n : Nat) : Prop := GPair GInst (GPair (GInt .i64) (GInt .i64)) (x.i, x.v, x.ok) n
theorem o54 : Opens Try.prog 54 kRep GRep :=
  opens_struct (seq_cons o37 (seq_cons o2 (seq_one o2))) Try.underlying54 (by kernel_rfl) (by kernel_rfl) (by kernel_rfl) _ (fun a => ⟨a.1, a.2.1, a.2.2⟩) (fun _ => rfl)
theorem kRep_open {w : World} {x : RepD} {cs : List Value} (h : kRep.K w x cs) : cs = [.int .i64 x.i.op, .int .i64 x.i.a, .int .i64 x.i.b, .int .i64 x.i.c, .int .i64 x.i.m, .int .i64 x.v, .int .i64 x.ok] := by
  obtain ⟨_, _, rfl, ⟨_, _, rfl, rfl, ⟨_, _, rfl, rfl, ⟨_, _, rfl, rfl, ⟨_, _, rfl, rfl, rfl⟩⟩⟩⟩, ⟨_, _, rfl, rfl, rfl⟩⟩ := h
  exact rfl
theorem o31 : Opens Try.prog 31 (Kd.int .u64) (GInt .u64) := opens_int Try.underlying31 (by kernel_rfl)
structure EnvD where
  (clk slot gen : Int)
def kGid : Kd (Int × Int) := Kd.iso (Kd.pair (Kd.int .i64) (Kd.int .i64)) (fun x : Int × Int => (x.1, x.2))
def GGid (x : Int × Int) (n : Nat) : Prop := GPair (GInt .i64) (GInt .i64) (x.1, x.2) n
theorem o33 : Opens Try.prog 33 kGid GGid :=
  opens_struct (seq_cons o3 (seq_one o3)) Try.underlying33 (by kernel_rfl) (by kernel_rfl) (by kernel_rfl) _ (fun a => (a.1, a.2)) (fun _ => rfl)
def kEnv : Kd EnvD := Kd.iso (Kd.pair (Kd.int .u64) kGid) (fun x : EnvD => (x.clk, x.slot, x.gen))
def GEnv (x : EnvD) (n : Nat) : Prop := GPair (GInt .u64) GGid (x.clk, x.slot, x.gen) n
theorem o35 : Opens Try.prog 35 kEnv GEnv :=
  opens_struct (seq_cons o31 (seq_one o33)) Try.underlying35 (by kernel_rfl) (by kernel_rfl) (by kernel_rfl) _ (fun a => ⟨a.1, a.2.1, a.2.2⟩) (fun _ => rfl)
theorem kEnv_open {w : World} {x : EnvD} {cs : List Value} (h : kEnv.K w x cs) : cs = [.int .u64 x.clk, .int .i64 x.slot, .int .i64 x.gen] := by
  obtain ⟨_, _, rfl, rfl, ⟨_, _, rfl, rfl, rfl⟩⟩ := h
  exact rfl
theorem words_lt {l : List Int} {n : Nat} (h : GSl 4 (GInt .u32) l n) : ∀ x ∈ l, 0 ≤ x ∧ x < 4294967296 := by
  intro x hx
  have w0 : (Lit.int .u32 x).wf = true := h.2.2.2 x hx
  simp [Lit.wf, IntKind.min, IntKind.max, IntKind.signed, IntKind.bits] at w0
  omega
theorem calls_lt {l : List Int} {n : Nat} (h : GSl 8 (GInt .i64) l n) : l.length < 17592186044416 := by
  have := h.1
  omega
end Go.Proofs.Ythjfmlehkcccfaa.Kinds
end

section
/-
  Answer answers as its reference, whatever the context, the instruction and the answer.
-/
set_option linter.unusedVariables false
set_option linter.unusedSimpArgs false
namespace Go.Proofs.Ythjfmlehkcccfaa.stepAnswers
open Go.ChangeShapes Go.WideShapes Go.ChangeAt Go.RowKit Go.Proofs.YthjfmlehkcccfaaW.PrintWords Go.Proofs.Ythjfmlehkcccfaa.Opn
open Go.ChangeMaps (open_string shut_string)
theorem own : ownKnob Try.prog.godebug = none := by kernel_rfl
theorem laidOut : laidOutB Try.prog = true := by kernel_rfl
set_option maxRecDepth 100000 in
theorem lifted (os : Os) (started : os.Started) (H : Type) (enc : TypeId × Value → H) :
    ReturnsInHanded {} Try.checked os 6 .any (Rows.stepAnswersSpec.pre6 enc Try.prog Try.f6 Rows.stepAnswersRow.domain false) (Rows.stepAnswersSpec.post enc Try.prog Try.f6 false true false false) := by
  refine returnsInHanded_of_change_sized (C := Try.checked) own started (by kernel_rfl) Try.func6
    (ChangeSpec.witness6 (enc := enc) (C := Try.checked) false ⟨#[], #[.agg #[.int .i64 0, .int .i64 0, .int .i64 0, .int .i64 0, .int .i64 0, .int .i64 0, .int .i64 0, .int .i64 0, .int .i64 0, .int .i64 0, .int .i64 0, .int .i64 0, .int .i64 0, .int .i64 0, .int .i64 0, .int .i64 0, .int .i64 0, .slice none 0 0], .agg #[.int .i64 0, .int .i64 0, .int .i64 0, .int .i64 0, .int .i64 0, .int .i64 0, .int .i64 0]], []⟩ 8 (by kernel_rfl) (by kernel_rfl) (by kernel_rfl) (by kernel_rfl)) ?_
  intro W base args ds gs before hval0 hW hcnd hsz0 _
  have hsz : (DataW.weightsEach Try.prog (Try.f6.params.toList ++ Rows.stepAnswersSpec.plain.varTypes Try.prog) (ds ++ gs)).all (· ≤ reachBytes) = true := hsz0
  have hval : ∀ (j : Nat) t v, Try.f6.params[j]? = some t → args[j]? = some v → Value.okWide Try.prog W .any base t v := hval0
  have hW' := hW
  obtain ⟨p, q, hA0, hV, rfl, hfz, hnd⟩ := hW
  have hA : DataW.TrodAll enc Try.prog W 0 (fun _ => true) true Try.f6.params.toList args.toList ds p := hA0
  rw [Try.params6] at hA hval hsz
  obtain ⟨v0, vs0, d0, ds0, p0, q0, hargs, rfl, rfl, h0, r0⟩ := trodAll_cons hA
  obtain ⟨v1, vs1, d1, ds1, p1, q1, rfl, rfl, rfl, h1, r1⟩ := trodAll_cons r0
  obtain ⟨rfl, rfl, rfl⟩ := trodAll_nil r1
  obtain rfl : args = #[v0, v1] := by cases args; simp_all
  obtain ⟨rfl, rfl⟩ := trodVars_none hV
  have k0 := h0
  have lt0 : ∀ x ∈ p0, x.block < W.heap.size := by obtain ⟨m, hm⟩ := k0; exact DataW.trod_lt m _ _ _ hm
  have ws0 : ∀ n ∈ d0.weights Try.prog 30, n ≤ reachBytes := fun n hn => by simpa using List.all_eq_true.1 hsz n (DataW.weights_mem_each (j := 0) rfl rfl n hn)
  obtain ⟨x0, K0, G0⟩ : ∃ x, (Kinds.kCtx).K W x v0.cells.toList ∧ Kinds.GCtx x (Rows.uptoBulk d0) := by
    obtain ⟨fuel, hf⟩ := h0
    exact Kinds.o30.opens enc W 0 _ _ fuel _ _ hf ws0
  obtain ⟨cs0, rfl, _⟩ := Go.WideShapes.okWide_struct Try.underlying30 (hval 0 30 v0 rfl rfl)
  obtain ⟨A, c, E0, kk3, hh3⟩ := Kinds.kCtx_open K0
  obtain rfl := Array.toList_inj.1 E0
  have k1 := h1
  have lt1 : ∀ x ∈ p1, x.block < W.heap.size := by obtain ⟨m, hm⟩ := k1; exact DataW.trod_lt m _ _ _ hm
  have ws1 : ∀ n ∈ d1.weights Try.prog 54, n ≤ reachBytes := fun n hn => by simpa using List.all_eq_true.1 hsz n (DataW.weights_mem_each (j := 1) rfl rfl n hn)
  obtain ⟨x1, K1, G1⟩ : ∃ x, (Kinds.kRep).K W x v1.cells.toList ∧ Kinds.GRep x (Rows.uptoBulk d1) := by
    obtain ⟨fuel, hf⟩ := h1
    exact Kinds.o54.opens enc W 0 _ _ fuel _ _ hf ws1
  obtain ⟨cs1, rfl, _⟩ := Go.WideShapes.okWide_struct Try.underlying54 (hval 1 54 v1 rfl rfl)
  obtain rfl := Array.toList_inj.1 ((Kinds.kRep_open K1).trans (by rfl) : cs1.toList = (#[.int .i64 x1.i.op, .int .i64 x1.i.a, .int .i64 x1.i.b, .int .i64 x1.i.c, .int .i64 x1.i.m, .int .i64 x1.v, .int .i64 x1.ok] : Array Value).toList)
  clear hA0 hval hsz
  refine (Hlaw6.law_answers x0.pc x0.r A c x0.l x1.i.op x1.i.a x1.i.b x1.i.c x1.i.m x1.v x1.ok W hh3 kk3 (Kinds.calls_lt G0.2.2)).mono fun e W' ⟨he, bel⟩ => ?_
  subst he
  exact ⟨_, rfl, _, _, _, [], _, [], hW', trodAll_mk1 (shut_bool Try.underlying4 _), (trodAll_cons_mk (Below.trod laidOut (by kernel_rfl) (of_decide_eq_true (by kernel_rfl)) k0 bel lt0) (trodAll_cons_mk (Below.trod laidOut (by kernel_rfl) (of_decide_eq_true (by kernel_rfl)) k1 bel lt1) trodAll_mk0)), rfl, bel.frame _, fun h => by cases h⟩
theorem over : Rows.stepAnswersRow.holds Try.pinned (OpenSpec.ofChange Rows.stepAnswersSpec) :=
  OpenClaim.holds_of_wide 6 Try.f6 rfl rfl rfl rfl rfl rfl rfl ⟨rfl, rfl, rfl, rfl, rfl⟩ rfl rfl rfl rfl rfl (by kernel_rfl) Try.func6 (by kernel_rfl)
    (of_decide_eq_true (by kernel_rfl)) (by unfold Func.isWrapper; first | (rw [if_pos (by decide +kernel)]; kernel_rfl) | (rw [if_neg (by decide +kernel)]; exact ⟨rfl, rfl⟩))
    (fun os started H enc _ => lifted os started H enc)
theorem proved : Rows.StepAnswersSaid := over
end Go.Proofs.Ythjfmlehkcccfaa.stepAnswers
namespace Go.Proofs.Ythjfmlehkcccfaa
theorem stepAnswers_holds : Rows.StepAnswersSaid := stepAnswers.proved
end Go.Proofs.Ythjfmlehkcccfaa
end
