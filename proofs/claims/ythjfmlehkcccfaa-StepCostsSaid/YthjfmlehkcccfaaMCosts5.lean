import Derived.Test.YthjfmlehkcccfaaMCosts0
import Derived.Test.YthjfmlehkcccfaaMCosts4
import Derived.Test.YthjfmlehkcccfaaMCosts1
import Derived.Test.YthjfmlehkcccfaaWMore
import Derived.Outline
section
-- laid by a program of this session (wip/gp.sh)
namespace Go.Proofs.Ythjfmlehkcccfaa.GA
open Go.RowKit Go.Proofs.YthjfmlehkcccfaaW.PrintWords Go.Proofs.YthjfmlehkcccfaaW.PrintLast Go.Proofs.YthjfmlehkcccfaaW.PrintMore
attribute [local go_sem] max2_int min2_int max_two min_two max_three min_three max_four min_four   -- for this text's walks alone
set_option linter.unusedVariables false
set_option linter.unusedSimpArgs false

/-! ### rotaref06_Check: function 43 -/
def rotaref06_Check.f (a0_0 : Int) (a0_1 : Int) (a0_2 : Int) (a0_3 : Int) (a0_4 : Int) : Option (Int) := (rotaref06_table.f a0_0).bind fun bt271 => (if bt271.2.2.2.2.2 = true then ((rotaref06_Has.f bt271.2.1).bind fun bt278 => ((rotaref06_fits.f a0_1 bt278.1).bind fun t283 => (if t283 = true then ((rotaref06_fits.f a0_2 bt278.2.1).bind fun t284 => (if t284 = true then ((rotaref06_fits.f a0_3 bt278.2.2.1).bind fun t285 => (if t285 = true then (if a0_4 < bt278.2.2.2.1 then (some 61) else (if a0_4 > bt278.2.2.2.2 then (some 61) else (some 0))) else (some 61))) else (some 61))) else (some 61)))) else (some 60))
set_option maxHeartbeats 8000000 in
set_option maxRecDepth 100000 in
theorem rotaref06_Check.calls (a0_0 : Int) (a0_1 : Int) (a0_2 : Int) (a0_3 : Int) (a0_4 : Int) (r : Int) (w : World) (h : rotaref06_Check.f a0_0 a0_1 a0_2 a0_3 a0_4 = some r) :
    Calls Try.prog 43 #[.agg #[.int .i64 a0_0, .int .i64 a0_1, .int .i64 a0_2, .int .i64 a0_3, .int .i64 a0_4]] w fun e w' => e = .returned (.int .i64 r) ∧ Below w.heap.size w w' := by
  have hu37 := Try.underlying37
  have hu86 := Try.underlying86
  have HB := Aside0.mk (Below.refl w.heap.size w)
  have H : ((rotaref06_table.f a0_0).bind fun bt271 => (if bt271.2.2.2.2.2 = true then ((rotaref06_Has.f bt271.2.1).bind fun bt278 => ((rotaref06_fits.f a0_1 bt278.1).bind fun t283 => (if t283 = true then ((rotaref06_fits.f a0_2 bt278.2.1).bind fun t284 => (if t284 = true then ((rotaref06_fits.f a0_3 bt278.2.2.1).bind fun t285 => (if t285 = true then (if a0_4 < bt278.2.2.2.1 then (some 61) else (if a0_4 > bt278.2.2.2.2 then (some 61) else (some 0))) else (some 61))) else (some 61))) else (some 61)))) else (some 60))) = some r := h
  clear h
  replace H := Option.bind_eq_some_iff.mp H
  obtain ⟨⟨t271, t272, t273, t274, t275, t276⟩, A20, H⟩ := H
  replace H : (if t276 = true then ((rotaref06_Has.f t272).bind fun bt278 => ((rotaref06_fits.f a0_1 bt278.1).bind fun t283 => (if t283 = true then ((rotaref06_fits.f a0_2 bt278.2.1).bind fun t284 => (if t284 = true then ((rotaref06_fits.f a0_3 bt278.2.2.1).bind fun t285 => (if t285 = true then (if a0_4 < bt278.2.2.2.1 then (some 61) else (if a0_4 > bt278.2.2.2.2 then (some 61) else (some 0))) else (some 61))) else (some 61))) else (some 61)))) else (some 60)) = some r := H
  have A2 := Aside0.mk A20
  clear A20
  by_cases c3 : t276 = true
  · subst c3
    have H1 : ((rotaref06_Has.f t272).bind fun bt278 => ((rotaref06_fits.f a0_1 bt278.1).bind fun t283 => (if t283 = true then ((rotaref06_fits.f a0_2 bt278.2.1).bind fun t284 => (if t284 = true then ((rotaref06_fits.f a0_3 bt278.2.2.1).bind fun t285 => (if t285 = true then (if a0_4 < bt278.2.2.2.1 then (some 61) else (if a0_4 > bt278.2.2.2.2 then (some 61) else (some 0))) else (some 61))) else (some 61))) else (some 61)))) = some r := by rw [if_pos rfl] at H; exact H
    clear H
    have H := H1
    clear H1
    replace H := Option.bind_eq_some_iff.mp H
    obtain ⟨⟨t278, t279, t280, t281, t282⟩, A40, H⟩ := H
    replace H : ((rotaref06_fits.f a0_1 t278).bind fun t283 => (if t283 = true then ((rotaref06_fits.f a0_2 t279).bind fun t284 => (if t284 = true then ((rotaref06_fits.f a0_3 t280).bind fun t285 => (if t285 = true then (if a0_4 < t281 then (some 61) else (if a0_4 > t282 then (some 61) else (some 0))) else (some 61))) else (some 61))) else (some 61))) = some r := H
    have A4 := Aside0.mk A40
    clear A40
    replace H := Option.bind_eq_some_iff.mp H
    obtain ⟨t283, A50, H⟩ := H
    replace H : (if t283 = true then ((rotaref06_fits.f a0_2 t279).bind fun t284 => (if t284 = true then ((rotaref06_fits.f a0_3 t280).bind fun t285 => (if t285 = true then (if a0_4 < t281 then (some 61) else (if a0_4 > t282 then (some 61) else (some 0))) else (some 61))) else (some 61))) else (some 61)) = some r := H
    have A5 := Aside0.mk A50
    clear A50
    by_cases c6 : t283 = true
    · subst c6
      have H1 : ((rotaref06_fits.f a0_2 t279).bind fun t284 => (if t284 = true then ((rotaref06_fits.f a0_3 t280).bind fun t285 => (if t285 = true then (if a0_4 < t281 then (some 61) else (if a0_4 > t282 then (some 61) else (some 0))) else (some 61))) else (some 61))) = some r := by rw [if_pos rfl] at H; exact H
      clear H
      have H := H1
      clear H1
      replace H := Option.bind_eq_some_iff.mp H
      obtain ⟨t284, A70, H⟩ := H
      replace H : (if t284 = true then ((rotaref06_fits.f a0_3 t280).bind fun t285 => (if t285 = true then (if a0_4 < t281 then (some 61) else (if a0_4 > t282 then (some 61) else (some 0))) else (some 61))) else (some 61)) = some r := H
      have A7 := Aside0.mk A70
      clear A70
      by_cases c8 : t284 = true
      · subst c8
        have H1 : ((rotaref06_fits.f a0_3 t280).bind fun t285 => (if t285 = true then (if a0_4 < t281 then (some 61) else (if a0_4 > t282 then (some 61) else (some 0))) else (some 61))) = some r := by rw [if_pos rfl] at H; exact H
        clear H
        have H := H1
        clear H1
        replace H := Option.bind_eq_some_iff.mp H
        obtain ⟨t285, A90, H⟩ := H
        replace H : (if t285 = true then (if a0_4 < t281 then (some 61) else (if a0_4 > t282 then (some 61) else (some 0))) else (some 61)) = some r := H
        have A9 := Aside0.mk A90
        clear A90
        by_cases c10 : t285 = true
        · subst c10
          have H1 : (if a0_4 < t281 then (some 61) else (if a0_4 > t282 then (some 61) else (some 0))) = some r := by rw [if_pos rfl] at H; exact H
          clear H
          have H := H1
          clear H1
          by_cases c11 : a0_4 < t281
          · rw [if_pos c11] at H
            have c11b0 : decide (a0_4 < t281) = true := decide_eq_true c11
            clear c11
            obtain rfl := Option.some.inj H
            go_enter Try.func43, Try.ntmps43
            go_wp2_with (first | ((with_reducible refine gate_dst (N := 1) rfl ?_); refine box_event ?hg (N := 1) ?hd (cs := #[.int .i64 a0_0, .int .i64 a0_1, .int .i64 a0_2, .int .i64 a0_3, .int .i64 a0_4]) (t := 37) ?hr ?_; (case hd => rfl); (case hg => rfl); (case hr => first | (go_simp; done) | (go_simp; rfl)); intro gb270 hg w12 hbox hb; have n0_ := Aside0.mk (below_step (by repeat (first | (with_reducible first | exact HB.out | apply below_alloc | apply pw_below_drewN | apply below_drew1) | exact HB.out)) hb); have n1_ := Aside0.mk (hbox); have n2_ := Aside0.mk ((by rw [hg]; exact (below_size (by repeat (first | (with_reducible first | exact HB.out | apply below_alloc | apply pw_below_drewN | apply below_drew1) | exact HB.out))) : w.heap.size ≤ gb270)); have n3_ := Aside0.mk ((by rw [hg]; exact (below_size (by repeat (first | (with_reducible first | exact HB.out | apply below_alloc | apply pw_below_drewN | apply below_drew1) | exact HB.out))) : w.heap.size ≤ gb270)); clear HB; have HB := n0_; have BK270 := n1_; have GW270 := n2_; have GE270 := n3_; clear n0_ n1_ n2_ n3_; clear hb hbox hg; have hcz13_0 : w12.cell? ⟨gb270, 0, none⟩ = some (.int .i64 a0_0) := (blk_cell BK270.out 0).trans rfl; have hcz13_1 : w12.cell? ⟨gb270, 1, none⟩ = some (.int .i64 a0_1) := (blk_cell BK270.out 1).trans rfl; have hcz13_2 : w12.cell? ⟨gb270, 2, none⟩ = some (.int .i64 a0_2) := (blk_cell BK270.out 2).trans rfl; have hcz13_3 : w12.cell? ⟨gb270, 3, none⟩ = some (.int .i64 a0_3) := (blk_cell BK270.out 3).trans rfl; have hcz13_4 : w12.cell? ⟨gb270, 4, none⟩ = some (.int .i64 a0_4) := (blk_cell BK270.out 4).trans rfl; have hfz13_0 := blk_frozen BK270.out 0; have hfz13_1 := blk_frozen BK270.out 1; have hfz13_2 := blk_frozen BK270.out 2; have hfz13_3 := blk_frozen BK270.out 3; have hfz13_4 := blk_frozen BK270.out 4) | ((with_reducible refine gate_callee (f := 40) rfl ?_); refine goesL_ (some 13) rfl rfl Try.func40 (by kernel_rfl) rfl #[.int .i64 a0_0] rfl (by (try simp only [List.map_toArray, List.map_cons, List.map_nil]); first | done | rfl | (simp only [List.length_drop, List.length_take]; rfl)) ?_; (with_reducible refine (rotaref06_table.calls a0_0 t271 t272 t273 t274 t275 true _ A2.out).mono ?_); rintro e w14 ⟨rfl, hb⟩; refine ⟨_, rfl, ?_⟩; have n0_ := Aside0.mk (blk_below (g := gb270) (o := .cells #[.int .i64 a0_0, .int .i64 a0_1, .int .i64 a0_2, .int .i64 a0_3, .int .i64 a0_4] 37 (0, 0)) (by (with_reducible repeat (first | refine blk_drewN ?_ _ | refine blk_drew ?_ | refine blk_alloc ?_ _)); exact BK270.out) hb); have n1_ := Aside0.mk (below_step (by repeat (first | (with_reducible first | exact HB.out | apply below_alloc | apply pw_below_drewN | apply below_drew1 | refine below_set ?_ GE270.out) | exact HB.out)) hb); clear BK270; clear HB; have BK270 := n0_; have HB := n1_; clear n0_ n1_; (try clear hb); (try clear hb2); (try clear hk); (try clear hi)) | ((with_reducible refine gate_dst (N := 3) rfl ?_); refine box_event ?hg (N := 3) ?hd (cs := #[.string (⟨#[]⟩ : ByteArray), .int .i64 0, .int .i64 0, .string (⟨#[]⟩ : ByteArray), .string (⟨#[]⟩ : ByteArray)]) (t := 86) ?hr ?_; (case hd => rfl); (case hg => rfl); (case hr => first | (go_simp; done) | (go_simp; rfl)); intro gb277 hg w15 hbox hb; have n0_ := Aside0.mk (blk_below (g := gb270) (o := .cells #[.int .i64 a0_0, .int .i64 a0_1, .int .i64 a0_2, .int .i64 a0_3, .int .i64 a0_4] 37 (0, 0)) (by (with_reducible repeat (first | refine blk_drewN ?_ _ | refine blk_drew ?_ | refine blk_alloc ?_ _)); exact BK270.out) hb); have n1_ := Aside0.mk (below_step (by repeat (first | (with_reducible first | exact HB.out | apply below_alloc | apply pw_below_drewN | apply below_drew1 | refine below_set ?_ GE270.out) | exact HB.out)) hb); have n2_ := Aside0.mk (hbox); have n3_ := Aside0.mk ((by rw [hg]; exact (below_size (by repeat (first | (with_reducible first | exact HB.out | apply below_alloc | apply pw_below_drewN | apply below_drew1 | refine below_set ?_ GE270.out) | exact HB.out))) : w.heap.size ≤ gb277)); have n4_ := Aside0.mk ((by rw [hg]; exact (below_size (by repeat (first | (with_reducible first | exact HB.out | apply below_alloc | apply pw_below_drewN | apply below_drew1 | refine below_set ?_ GE270.out) | exact HB.out))) : w.heap.size ≤ gb277)); have n5_ := Aside0.mk ((by rw [hg]; exact Nat.ne_of_lt (blk_lt (g := gb270) (o := .cells #[.int .i64 a0_0, .int .i64 a0_1, .int .i64 a0_2, .int .i64 a0_3, .int .i64 a0_4] 37 (0, 0)) (by (with_reducible repeat (first | refine blk_drewN ?_ _ | refine blk_drew ?_ | refine blk_alloc ?_ _)); exact BK270.out)) : gb270 ≠ gb277)); have n6_ := Aside0.mk ((by rw [hg]; exact Nat.ne_of_gt (blk_lt (g := gb270) (o := .cells #[.int .i64 a0_0, .int .i64 a0_1, .int .i64 a0_2, .int .i64 a0_3, .int .i64 a0_4] 37 (0, 0)) (by (with_reducible repeat (first | refine blk_drewN ?_ _ | refine blk_drew ?_ | refine blk_alloc ?_ _)); exact BK270.out)) : gb277 ≠ gb270)); clear BK270; clear HB; have BK270 := n0_; have HB := n1_; have BK277 := n2_; have GW277 := n3_; have GE277 := n4_; have NB270_277 := n5_; have NB277_270 := n6_; clear n0_ n1_ n2_ n3_ n4_ n5_ n6_; clear hb hbox hg; have hnb16 := NB277_270.out; have hnc16 := NB270_277.out; have hcz17_0 : w15.cell? ⟨gb277, 0, none⟩ = some (.string (⟨#[]⟩ : ByteArray)) := (blk_cell BK277.out 0).trans rfl; have hcz17_1 : w15.cell? ⟨gb277, 1, none⟩ = some (.int .i64 0) := (blk_cell BK277.out 1).trans rfl; have hcz17_2 : w15.cell? ⟨gb277, 2, none⟩ = some (.int .i64 0) := (blk_cell BK277.out 2).trans rfl; have hcz17_3 : w15.cell? ⟨gb277, 3, none⟩ = some (.string (⟨#[]⟩ : ByteArray)) := (blk_cell BK277.out 3).trans rfl; have hcz17_4 : w15.cell? ⟨gb277, 4, none⟩ = some (.string (⟨#[]⟩ : ByteArray)) := (blk_cell BK277.out 4).trans rfl; have hfz17_0 := blk_frozen BK277.out 0; have hfz17_1 := blk_frozen BK277.out 1; have hfz17_2 := blk_frozen BK277.out 2; have hfz17_3 := blk_frozen BK277.out 3; have hfz17_4 := blk_frozen BK277.out 4) | ((with_reducible refine gate_callee (f := 41) rfl ?_); refine goesL_ (some 21) rfl rfl Try.func41 (by kernel_rfl) rfl #[.int .i64 t272] rfl (by (try simp only [List.map_toArray, List.map_cons, List.map_nil]); first | done | rfl | (simp only [List.length_drop, List.length_take]; rfl)) ?_; (with_reducible refine (rotaref06_Has.calls t272 t278 t279 t280 t281 t282 _ A4.out).mono ?_); rintro e w' ⟨rfl, ⟨nd, rfl⟩⟩; refine ⟨_, rfl, ?_⟩; have hcz18_0 : w15.cell? ⟨gb270, 0, none⟩ = some (.int .i64 a0_0) := (blk_cell BK270.out 0).trans rfl; have hcz18_1 : w15.cell? ⟨gb270, 1, none⟩ = some (.int .i64 a0_1) := (blk_cell BK270.out 1).trans rfl; have hcz18_2 : w15.cell? ⟨gb270, 2, none⟩ = some (.int .i64 a0_2) := (blk_cell BK270.out 2).trans rfl; have hcz18_3 : w15.cell? ⟨gb270, 3, none⟩ = some (.int .i64 a0_3) := (blk_cell BK270.out 3).trans rfl; have hcz18_4 : w15.cell? ⟨gb270, 4, none⟩ = some (.int .i64 a0_4) := (blk_cell BK270.out 4).trans rfl; have hfz18_0 := blk_frozen BK270.out 0; have hfz18_1 := blk_frozen BK270.out 1; have hfz18_2 := blk_frozen BK270.out 2; have hfz18_3 := blk_frozen BK270.out 3; have hfz18_4 := blk_frozen BK270.out 4) | ((with_reducible refine gate_callee (f := 42) rfl ?_); refine goesL_ (some 30) rfl rfl Try.func42 (by kernel_rfl) rfl #[.int .i64 a0_1, .bool t278] rfl (by (try simp only [List.map_toArray, List.map_cons, List.map_nil]); first | done | rfl | (simp only [List.length_drop, List.length_take]; rfl)) ?_; (with_reducible refine (rotaref06_fits.calls a0_1 t278 true _ A5.out).mono ?_); rintro e w' ⟨rfl, ⟨nd, rfl⟩⟩; refine ⟨_, rfl, ?_⟩) | (go_at_call 42; (with_reducible refine (rotaref06_fits.calls a0_2 t279 true _ A7.out).mono ?_); rintro e w' ⟨rfl, ⟨nd, rfl⟩⟩) | (go_at_call 42; (with_reducible refine (rotaref06_fits.calls a0_3 t280 true _ A9.out).mono ?_); rintro e w' ⟨rfl, ⟨nd, rfl⟩⟩))
            go_ret
            exact ⟨by first | rfl | (simp [errW_none, errW_some] <;> rfl) | (simp [*, errW_none, errW_some] <;> rfl), by repeat (first | (with_reducible first | exact HB.out | apply below_alloc | apply pw_below_drewN | apply below_drew1 | refine below_set ?_ GE270.out | refine below_set ?_ GE277.out) | exact HB.out)⟩
          · rw [if_neg c11] at H
            have c11b0 : decide (a0_4 < t281) = false := decide_eq_false c11
            clear c11
            by_cases c19 : a0_4 > t282
            · rw [if_pos c19] at H
              have c19b0 : decide (t282 < a0_4) = true := decide_eq_true c19
              clear c19
              obtain rfl := Option.some.inj H
              go_enter Try.func43, Try.ntmps43
              go_wp2_with (first | ((with_reducible refine gate_dst (N := 1) rfl ?_); refine box_event ?hg (N := 1) ?hd (cs := #[.int .i64 a0_0, .int .i64 a0_1, .int .i64 a0_2, .int .i64 a0_3, .int .i64 a0_4]) (t := 37) ?hr ?_; (case hd => rfl); (case hg => rfl); (case hr => first | (go_simp; done) | (go_simp; rfl)); intro gb270 hg w20 hbox hb; have n0_ := Aside0.mk (below_step (by repeat (first | (with_reducible first | exact HB.out | apply below_alloc | apply pw_below_drewN | apply below_drew1) | exact HB.out)) hb); have n1_ := Aside0.mk (hbox); have n2_ := Aside0.mk ((by rw [hg]; exact (below_size (by repeat (first | (with_reducible first | exact HB.out | apply below_alloc | apply pw_below_drewN | apply below_drew1) | exact HB.out))) : w.heap.size ≤ gb270)); have n3_ := Aside0.mk ((by rw [hg]; exact (below_size (by repeat (first | (with_reducible first | exact HB.out | apply below_alloc | apply pw_below_drewN | apply below_drew1) | exact HB.out))) : w.heap.size ≤ gb270)); clear HB; have HB := n0_; have BK270 := n1_; have GW270 := n2_; have GE270 := n3_; clear n0_ n1_ n2_ n3_; clear hb hbox hg; have hcz21_0 : w20.cell? ⟨gb270, 0, none⟩ = some (.int .i64 a0_0) := (blk_cell BK270.out 0).trans rfl; have hcz21_1 : w20.cell? ⟨gb270, 1, none⟩ = some (.int .i64 a0_1) := (blk_cell BK270.out 1).trans rfl; have hcz21_2 : w20.cell? ⟨gb270, 2, none⟩ = some (.int .i64 a0_2) := (blk_cell BK270.out 2).trans rfl; have hcz21_3 : w20.cell? ⟨gb270, 3, none⟩ = some (.int .i64 a0_3) := (blk_cell BK270.out 3).trans rfl; have hcz21_4 : w20.cell? ⟨gb270, 4, none⟩ = some (.int .i64 a0_4) := (blk_cell BK270.out 4).trans rfl; have hfz21_0 := blk_frozen BK270.out 0; have hfz21_1 := blk_frozen BK270.out 1; have hfz21_2 := blk_frozen BK270.out 2; have hfz21_3 := blk_frozen BK270.out 3; have hfz21_4 := blk_frozen BK270.out 4) | ((with_reducible refine gate_callee (f := 40) rfl ?_); refine goesL_ (some 13) rfl rfl Try.func40 (by kernel_rfl) rfl #[.int .i64 a0_0] rfl (by (try simp only [List.map_toArray, List.map_cons, List.map_nil]); first | done | rfl | (simp only [List.length_drop, List.length_take]; rfl)) ?_; (with_reducible refine (rotaref06_table.calls a0_0 t271 t272 t273 t274 t275 true _ A2.out).mono ?_); rintro e w22 ⟨rfl, hb⟩; refine ⟨_, rfl, ?_⟩; have n0_ := Aside0.mk (blk_below (g := gb270) (o := .cells #[.int .i64 a0_0, .int .i64 a0_1, .int .i64 a0_2, .int .i64 a0_3, .int .i64 a0_4] 37 (0, 0)) (by (with_reducible repeat (first | refine blk_drewN ?_ _ | refine blk_drew ?_ | refine blk_alloc ?_ _)); exact BK270.out) hb); have n1_ := Aside0.mk (below_step (by repeat (first | (with_reducible first | exact HB.out | apply below_alloc | apply pw_below_drewN | apply below_drew1 | refine below_set ?_ GE270.out) | exact HB.out)) hb); clear BK270; clear HB; have BK270 := n0_; have HB := n1_; clear n0_ n1_; (try clear hb); (try clear hb2); (try clear hk); (try clear hi)) | ((with_reducible refine gate_dst (N := 3) rfl ?_); refine box_event ?hg (N := 3) ?hd (cs := #[.string (⟨#[]⟩ : ByteArray), .int .i64 0, .int .i64 0, .string (⟨#[]⟩ : ByteArray), .string (⟨#[]⟩ : ByteArray)]) (t := 86) ?hr ?_; (case hd => rfl); (case hg => rfl); (case hr => first | (go_simp; done) | (go_simp; rfl)); intro gb277 hg w23 hbox hb; have n0_ := Aside0.mk (blk_below (g := gb270) (o := .cells #[.int .i64 a0_0, .int .i64 a0_1, .int .i64 a0_2, .int .i64 a0_3, .int .i64 a0_4] 37 (0, 0)) (by (with_reducible repeat (first | refine blk_drewN ?_ _ | refine blk_drew ?_ | refine blk_alloc ?_ _)); exact BK270.out) hb); have n1_ := Aside0.mk (below_step (by repeat (first | (with_reducible first | exact HB.out | apply below_alloc | apply pw_below_drewN | apply below_drew1 | refine below_set ?_ GE270.out) | exact HB.out)) hb); have n2_ := Aside0.mk (hbox); have n3_ := Aside0.mk ((by rw [hg]; exact (below_size (by repeat (first | (with_reducible first | exact HB.out | apply below_alloc | apply pw_below_drewN | apply below_drew1 | refine below_set ?_ GE270.out) | exact HB.out))) : w.heap.size ≤ gb277)); have n4_ := Aside0.mk ((by rw [hg]; exact (below_size (by repeat (first | (with_reducible first | exact HB.out | apply below_alloc | apply pw_below_drewN | apply below_drew1 | refine below_set ?_ GE270.out) | exact HB.out))) : w.heap.size ≤ gb277)); have n5_ := Aside0.mk ((by rw [hg]; exact Nat.ne_of_lt (blk_lt (g := gb270) (o := .cells #[.int .i64 a0_0, .int .i64 a0_1, .int .i64 a0_2, .int .i64 a0_3, .int .i64 a0_4] 37 (0, 0)) (by (with_reducible repeat (first | refine blk_drewN ?_ _ | refine blk_drew ?_ | refine blk_alloc ?_ _)); exact BK270.out)) : gb270 ≠ gb277)); have n6_ := Aside0.mk ((by rw [hg]; exact Nat.ne_of_gt (blk_lt (g := gb270) (o := .cells #[.int .i64 a0_0, .int .i64 a0_1, .int .i64 a0_2, .int .i64 a0_3, .int .i64 a0_4] 37 (0, 0)) (by (with_reducible repeat (first | refine blk_drewN ?_ _ | refine blk_drew ?_ | refine blk_alloc ?_ _)); exact BK270.out)) : gb277 ≠ gb270)); clear BK270; clear HB; have BK270 := n0_; have HB := n1_; have BK277 := n2_; have GW277 := n3_; have GE277 := n4_; have NB270_277 := n5_; have NB277_270 := n6_; clear n0_ n1_ n2_ n3_ n4_ n5_ n6_; clear hb hbox hg; have hnb24 := NB277_270.out; have hnc24 := NB270_277.out; have hcz25_0 : w23.cell? ⟨gb277, 0, none⟩ = some (.string (⟨#[]⟩ : ByteArray)) := (blk_cell BK277.out 0).trans rfl; have hcz25_1 : w23.cell? ⟨gb277, 1, none⟩ = some (.int .i64 0) := (blk_cell BK277.out 1).trans rfl; have hcz25_2 : w23.cell? ⟨gb277, 2, none⟩ = some (.int .i64 0) := (blk_cell BK277.out 2).trans rfl; have hcz25_3 : w23.cell? ⟨gb277, 3, none⟩ = some (.string (⟨#[]⟩ : ByteArray)) := (blk_cell BK277.out 3).trans rfl; have hcz25_4 : w23.cell? ⟨gb277, 4, none⟩ = some (.string (⟨#[]⟩ : ByteArray)) := (blk_cell BK277.out 4).trans rfl; have hfz25_0 := blk_frozen BK277.out 0; have hfz25_1 := blk_frozen BK277.out 1; have hfz25_2 := blk_frozen BK277.out 2; have hfz25_3 := blk_frozen BK277.out 3; have hfz25_4 := blk_frozen BK277.out 4) | ((with_reducible refine gate_callee (f := 41) rfl ?_); refine goesL_ (some 21) rfl rfl Try.func41 (by kernel_rfl) rfl #[.int .i64 t272] rfl (by (try simp only [List.map_toArray, List.map_cons, List.map_nil]); first | done | rfl | (simp only [List.length_drop, List.length_take]; rfl)) ?_; (with_reducible refine (rotaref06_Has.calls t272 t278 t279 t280 t281 t282 _ A4.out).mono ?_); rintro e w' ⟨rfl, ⟨nd, rfl⟩⟩; refine ⟨_, rfl, ?_⟩; have hcz26_0 : w23.cell? ⟨gb270, 0, none⟩ = some (.int .i64 a0_0) := (blk_cell BK270.out 0).trans rfl; have hcz26_1 : w23.cell? ⟨gb270, 1, none⟩ = some (.int .i64 a0_1) := (blk_cell BK270.out 1).trans rfl; have hcz26_2 : w23.cell? ⟨gb270, 2, none⟩ = some (.int .i64 a0_2) := (blk_cell BK270.out 2).trans rfl; have hcz26_3 : w23.cell? ⟨gb270, 3, none⟩ = some (.int .i64 a0_3) := (blk_cell BK270.out 3).trans rfl; have hcz26_4 : w23.cell? ⟨gb270, 4, none⟩ = some (.int .i64 a0_4) := (blk_cell BK270.out 4).trans rfl; have hfz26_0 := blk_frozen BK270.out 0; have hfz26_1 := blk_frozen BK270.out 1; have hfz26_2 := blk_frozen BK270.out 2; have hfz26_3 := blk_frozen BK270.out 3; have hfz26_4 := blk_frozen BK270.out 4) | ((with_reducible refine gate_callee (f := 42) rfl ?_); refine goesL_ (some 30) rfl rfl Try.func42 (by kernel_rfl) rfl #[.int .i64 a0_1, .bool t278] rfl (by (try simp only [List.map_toArray, List.map_cons, List.map_nil]); first | done | rfl | (simp only [List.length_drop, List.length_take]; rfl)) ?_; (with_reducible refine (rotaref06_fits.calls a0_1 t278 true _ A5.out).mono ?_); rintro e w' ⟨rfl, ⟨nd, rfl⟩⟩; refine ⟨_, rfl, ?_⟩) | (go_at_call 42; (with_reducible refine (rotaref06_fits.calls a0_2 t279 true _ A7.out).mono ?_); rintro e w' ⟨rfl, ⟨nd, rfl⟩⟩) | (go_at_call 42; (with_reducible refine (rotaref06_fits.calls a0_3 t280 true _ A9.out).mono ?_); rintro e w' ⟨rfl, ⟨nd, rfl⟩⟩))
              go_ret
              exact ⟨by first | rfl | (simp [errW_none, errW_some] <;> rfl) | (simp [*, errW_none, errW_some] <;> rfl), by repeat (first | (with_reducible first | exact HB.out | apply below_alloc | apply pw_below_drewN | apply below_drew1 | refine below_set ?_ GE270.out | refine below_set ?_ GE277.out) | exact HB.out)⟩
            · rw [if_neg c19] at H
              have c19b0 : decide (t282 < a0_4) = false := decide_eq_false c19
              clear c19
              obtain rfl := Option.some.inj H
              go_enter Try.func43, Try.ntmps43
              go_wp2_with (first | ((with_reducible refine gate_dst (N := 1) rfl ?_); refine box_event ?hg (N := 1) ?hd (cs := #[.int .i64 a0_0, .int .i64 a0_1, .int .i64 a0_2, .int .i64 a0_3, .int .i64 a0_4]) (t := 37) ?hr ?_; (case hd => rfl); (case hg => rfl); (case hr => first | (go_simp; done) | (go_simp; rfl)); intro gb270 hg w27 hbox hb; have n0_ := Aside0.mk (below_step (by repeat (first | (with_reducible first | exact HB.out | apply below_alloc | apply pw_below_drewN | apply below_drew1) | exact HB.out)) hb); have n1_ := Aside0.mk (hbox); have n2_ := Aside0.mk ((by rw [hg]; exact (below_size (by repeat (first | (with_reducible first | exact HB.out | apply below_alloc | apply pw_below_drewN | apply below_drew1) | exact HB.out))) : w.heap.size ≤ gb270)); have n3_ := Aside0.mk ((by rw [hg]; exact (below_size (by repeat (first | (with_reducible first | exact HB.out | apply below_alloc | apply pw_below_drewN | apply below_drew1) | exact HB.out))) : w.heap.size ≤ gb270)); clear HB; have HB := n0_; have BK270 := n1_; have GW270 := n2_; have GE270 := n3_; clear n0_ n1_ n2_ n3_; clear hb hbox hg; have hcz28_0 : w27.cell? ⟨gb270, 0, none⟩ = some (.int .i64 a0_0) := (blk_cell BK270.out 0).trans rfl; have hcz28_1 : w27.cell? ⟨gb270, 1, none⟩ = some (.int .i64 a0_1) := (blk_cell BK270.out 1).trans rfl; have hcz28_2 : w27.cell? ⟨gb270, 2, none⟩ = some (.int .i64 a0_2) := (blk_cell BK270.out 2).trans rfl; have hcz28_3 : w27.cell? ⟨gb270, 3, none⟩ = some (.int .i64 a0_3) := (blk_cell BK270.out 3).trans rfl; have hcz28_4 : w27.cell? ⟨gb270, 4, none⟩ = some (.int .i64 a0_4) := (blk_cell BK270.out 4).trans rfl; have hfz28_0 := blk_frozen BK270.out 0; have hfz28_1 := blk_frozen BK270.out 1; have hfz28_2 := blk_frozen BK270.out 2; have hfz28_3 := blk_frozen BK270.out 3; have hfz28_4 := blk_frozen BK270.out 4) | ((with_reducible refine gate_callee (f := 40) rfl ?_); refine goesL_ (some 13) rfl rfl Try.func40 (by kernel_rfl) rfl #[.int .i64 a0_0] rfl (by (try simp only [List.map_toArray, List.map_cons, List.map_nil]); first | done | rfl | (simp only [List.length_drop, List.length_take]; rfl)) ?_; (with_reducible refine (rotaref06_table.calls a0_0 t271 t272 t273 t274 t275 true _ A2.out).mono ?_); rintro e w29 ⟨rfl, hb⟩; refine ⟨_, rfl, ?_⟩; have n0_ := Aside0.mk (blk_below (g := gb270) (o := .cells #[.int .i64 a0_0, .int .i64 a0_1, .int .i64 a0_2, .int .i64 a0_3, .int .i64 a0_4] 37 (0, 0)) (by (with_reducible repeat (first | refine blk_drewN ?_ _ | refine blk_drew ?_ | refine blk_alloc ?_ _)); exact BK270.out) hb); have n1_ := Aside0.mk (below_step (by repeat (first | (with_reducible first | exact HB.out | apply below_alloc | apply pw_below_drewN | apply below_drew1 | refine below_set ?_ GE270.out) | exact HB.out)) hb); clear BK270; clear HB; have BK270 := n0_; have HB := n1_; clear n0_ n1_; (try clear hb); (try clear hb2); (try clear hk); (try clear hi)) | ((with_reducible refine gate_dst (N := 3) rfl ?_); refine box_event ?hg (N := 3) ?hd (cs := #[.string (⟨#[]⟩ : ByteArray), .int .i64 0, .int .i64 0, .string (⟨#[]⟩ : ByteArray), .string (⟨#[]⟩ : ByteArray)]) (t := 86) ?hr ?_; (case hd => rfl); (case hg => rfl); (case hr => first | (go_simp; done) | (go_simp; rfl)); intro gb277 hg w30 hbox hb; have n0_ := Aside0.mk (blk_below (g := gb270) (o := .cells #[.int .i64 a0_0, .int .i64 a0_1, .int .i64 a0_2, .int .i64 a0_3, .int .i64 a0_4] 37 (0, 0)) (by (with_reducible repeat (first | refine blk_drewN ?_ _ | refine blk_drew ?_ | refine blk_alloc ?_ _)); exact BK270.out) hb); have n1_ := Aside0.mk (below_step (by repeat (first | (with_reducible first | exact HB.out | apply below_alloc | apply pw_below_drewN | apply below_drew1 | refine below_set ?_ GE270.out) | exact HB.out)) hb); have n2_ := Aside0.mk (hbox); have n3_ := Aside0.mk ((by rw [hg]; exact (below_size (by repeat (first | (with_reducible first | exact HB.out | apply below_alloc | apply pw_below_drewN | apply below_drew1 | refine below_set ?_ GE270.out) | exact HB.out))) : w.heap.size ≤ gb277)); have n4_ := Aside0.mk ((by rw [hg]; exact (below_size (by repeat (first | (with_reducible first | exact HB.out | apply below_alloc | apply pw_below_drewN | apply below_drew1 | refine below_set ?_ GE270.out) | exact HB.out))) : w.heap.size ≤ gb277)); have n5_ := Aside0.mk ((by rw [hg]; exact Nat.ne_of_lt (blk_lt (g := gb270) (o := .cells #[.int .i64 a0_0, .int .i64 a0_1, .int .i64 a0_2, .int .i64 a0_3, .int .i64 a0_4] 37 (0, 0)) (by (with_reducible repeat (first | refine blk_drewN ?_ _ | refine blk_drew ?_ | refine blk_alloc ?_ _)); exact BK270.out)) : gb270 ≠ gb277)); have n6_ := Aside0.mk ((by rw [hg]; exact Nat.ne_of_gt (blk_lt (g := gb270) (o := .cells #[.int .i64 a0_0, .int .i64 a0_1, .int .i64 a0_2, .int .i64 a0_3, .int .i64 a0_4] 37 (0, 0)) (by (with_reducible repeat (first | refine blk_drewN ?_ _ | refine blk_drew ?_ | refine blk_alloc ?_ _)); exact BK270.out)) : gb277 ≠ gb270)); clear BK270; clear HB; have BK270 := n0_; have HB := n1_; have BK277 := n2_; have GW277 := n3_; have GE277 := n4_; have NB270_277 := n5_; have NB277_270 := n6_; clear n0_ n1_ n2_ n3_ n4_ n5_ n6_; clear hb hbox hg; have hnb31 := NB277_270.out; have hnc31 := NB270_277.out; have hcz32_0 : w30.cell? ⟨gb277, 0, none⟩ = some (.string (⟨#[]⟩ : ByteArray)) := (blk_cell BK277.out 0).trans rfl; have hcz32_1 : w30.cell? ⟨gb277, 1, none⟩ = some (.int .i64 0) := (blk_cell BK277.out 1).trans rfl; have hcz32_2 : w30.cell? ⟨gb277, 2, none⟩ = some (.int .i64 0) := (blk_cell BK277.out 2).trans rfl; have hcz32_3 : w30.cell? ⟨gb277, 3, none⟩ = some (.string (⟨#[]⟩ : ByteArray)) := (blk_cell BK277.out 3).trans rfl; have hcz32_4 : w30.cell? ⟨gb277, 4, none⟩ = some (.string (⟨#[]⟩ : ByteArray)) := (blk_cell BK277.out 4).trans rfl; have hfz32_0 := blk_frozen BK277.out 0; have hfz32_1 := blk_frozen BK277.out 1; have hfz32_2 := blk_frozen BK277.out 2; have hfz32_3 := blk_frozen BK277.out 3; have hfz32_4 := blk_frozen BK277.out 4) | ((with_reducible refine gate_callee (f := 41) rfl ?_); refine goesL_ (some 21) rfl rfl Try.func41 (by kernel_rfl) rfl #[.int .i64 t272] rfl (by (try simp only [List.map_toArray, List.map_cons, List.map_nil]); first | done | rfl | (simp only [List.length_drop, List.length_take]; rfl)) ?_; (with_reducible refine (rotaref06_Has.calls t272 t278 t279 t280 t281 t282 _ A4.out).mono ?_); rintro e w' ⟨rfl, ⟨nd, rfl⟩⟩; refine ⟨_, rfl, ?_⟩; have hcz33_0 : w30.cell? ⟨gb270, 0, none⟩ = some (.int .i64 a0_0) := (blk_cell BK270.out 0).trans rfl; have hcz33_1 : w30.cell? ⟨gb270, 1, none⟩ = some (.int .i64 a0_1) := (blk_cell BK270.out 1).trans rfl; have hcz33_2 : w30.cell? ⟨gb270, 2, none⟩ = some (.int .i64 a0_2) := (blk_cell BK270.out 2).trans rfl; have hcz33_3 : w30.cell? ⟨gb270, 3, none⟩ = some (.int .i64 a0_3) := (blk_cell BK270.out 3).trans rfl; have hcz33_4 : w30.cell? ⟨gb270, 4, none⟩ = some (.int .i64 a0_4) := (blk_cell BK270.out 4).trans rfl; have hfz33_0 := blk_frozen BK270.out 0; have hfz33_1 := blk_frozen BK270.out 1; have hfz33_2 := blk_frozen BK270.out 2; have hfz33_3 := blk_frozen BK270.out 3; have hfz33_4 := blk_frozen BK270.out 4) | ((with_reducible refine gate_callee (f := 42) rfl ?_); refine goesL_ (some 30) rfl rfl Try.func42 (by kernel_rfl) rfl #[.int .i64 a0_1, .bool t278] rfl (by (try simp only [List.map_toArray, List.map_cons, List.map_nil]); first | done | rfl | (simp only [List.length_drop, List.length_take]; rfl)) ?_; (with_reducible refine (rotaref06_fits.calls a0_1 t278 true _ A5.out).mono ?_); rintro e w' ⟨rfl, ⟨nd, rfl⟩⟩; refine ⟨_, rfl, ?_⟩) | (go_at_call 42; (with_reducible refine (rotaref06_fits.calls a0_2 t279 true _ A7.out).mono ?_); rintro e w' ⟨rfl, ⟨nd, rfl⟩⟩) | (go_at_call 42; (with_reducible refine (rotaref06_fits.calls a0_3 t280 true _ A9.out).mono ?_); rintro e w' ⟨rfl, ⟨nd, rfl⟩⟩))
              go_ret
              exact ⟨by first | rfl | (simp [errW_none, errW_some] <;> rfl) | (simp [*, errW_none, errW_some] <;> rfl), by repeat (first | (with_reducible first | exact HB.out | apply below_alloc | apply pw_below_drewN | apply below_drew1 | refine below_set ?_ GE270.out | refine below_set ?_ GE277.out) | exact HB.out)⟩
        · replace c10 := Bool.eq_false_iff.mpr c10
          subst c10
          have H1 : (some 61) = some r := by rw [if_neg (show ¬ (false = true) by decide)] at H; exact H
          clear H
          have H := H1
          clear H1
          obtain rfl := Option.some.inj H
          go_enter Try.func43, Try.ntmps43
          go_wp2_with (first | ((with_reducible refine gate_dst (N := 1) rfl ?_); refine box_event ?hg (N := 1) ?hd (cs := #[.int .i64 a0_0, .int .i64 a0_1, .int .i64 a0_2, .int .i64 a0_3, .int .i64 a0_4]) (t := 37) ?hr ?_; (case hd => rfl); (case hg => rfl); (case hr => first | (go_simp; done) | (go_simp; rfl)); intro gb270 hg w34 hbox hb; have n0_ := Aside0.mk (below_step (by repeat (first | (with_reducible first | exact HB.out | apply below_alloc | apply pw_below_drewN | apply below_drew1) | exact HB.out)) hb); have n1_ := Aside0.mk (hbox); have n2_ := Aside0.mk ((by rw [hg]; exact (below_size (by repeat (first | (with_reducible first | exact HB.out | apply below_alloc | apply pw_below_drewN | apply below_drew1) | exact HB.out))) : w.heap.size ≤ gb270)); have n3_ := Aside0.mk ((by rw [hg]; exact (below_size (by repeat (first | (with_reducible first | exact HB.out | apply below_alloc | apply pw_below_drewN | apply below_drew1) | exact HB.out))) : w.heap.size ≤ gb270)); clear HB; have HB := n0_; have BK270 := n1_; have GW270 := n2_; have GE270 := n3_; clear n0_ n1_ n2_ n3_; clear hb hbox hg; have hcz35_0 : w34.cell? ⟨gb270, 0, none⟩ = some (.int .i64 a0_0) := (blk_cell BK270.out 0).trans rfl; have hcz35_1 : w34.cell? ⟨gb270, 1, none⟩ = some (.int .i64 a0_1) := (blk_cell BK270.out 1).trans rfl; have hcz35_2 : w34.cell? ⟨gb270, 2, none⟩ = some (.int .i64 a0_2) := (blk_cell BK270.out 2).trans rfl; have hcz35_3 : w34.cell? ⟨gb270, 3, none⟩ = some (.int .i64 a0_3) := (blk_cell BK270.out 3).trans rfl; have hcz35_4 : w34.cell? ⟨gb270, 4, none⟩ = some (.int .i64 a0_4) := (blk_cell BK270.out 4).trans rfl; have hfz35_0 := blk_frozen BK270.out 0; have hfz35_1 := blk_frozen BK270.out 1; have hfz35_2 := blk_frozen BK270.out 2; have hfz35_3 := blk_frozen BK270.out 3; have hfz35_4 := blk_frozen BK270.out 4) | ((with_reducible refine gate_callee (f := 40) rfl ?_); refine goesL_ (some 13) rfl rfl Try.func40 (by kernel_rfl) rfl #[.int .i64 a0_0] rfl (by (try simp only [List.map_toArray, List.map_cons, List.map_nil]); first | done | rfl | (simp only [List.length_drop, List.length_take]; rfl)) ?_; (with_reducible refine (rotaref06_table.calls a0_0 t271 t272 t273 t274 t275 true _ A2.out).mono ?_); rintro e w36 ⟨rfl, hb⟩; refine ⟨_, rfl, ?_⟩; have n0_ := Aside0.mk (blk_below (g := gb270) (o := .cells #[.int .i64 a0_0, .int .i64 a0_1, .int .i64 a0_2, .int .i64 a0_3, .int .i64 a0_4] 37 (0, 0)) (by (with_reducible repeat (first | refine blk_drewN ?_ _ | refine blk_drew ?_ | refine blk_alloc ?_ _)); exact BK270.out) hb); have n1_ := Aside0.mk (below_step (by repeat (first | (with_reducible first | exact HB.out | apply below_alloc | apply pw_below_drewN | apply below_drew1 | refine below_set ?_ GE270.out) | exact HB.out)) hb); clear BK270; clear HB; have BK270 := n0_; have HB := n1_; clear n0_ n1_; (try clear hb); (try clear hb2); (try clear hk); (try clear hi)) | ((with_reducible refine gate_dst (N := 3) rfl ?_); refine box_event ?hg (N := 3) ?hd (cs := #[.string (⟨#[]⟩ : ByteArray), .int .i64 0, .int .i64 0, .string (⟨#[]⟩ : ByteArray), .string (⟨#[]⟩ : ByteArray)]) (t := 86) ?hr ?_; (case hd => rfl); (case hg => rfl); (case hr => first | (go_simp; done) | (go_simp; rfl)); intro gb277 hg w37 hbox hb; have n0_ := Aside0.mk (blk_below (g := gb270) (o := .cells #[.int .i64 a0_0, .int .i64 a0_1, .int .i64 a0_2, .int .i64 a0_3, .int .i64 a0_4] 37 (0, 0)) (by (with_reducible repeat (first | refine blk_drewN ?_ _ | refine blk_drew ?_ | refine blk_alloc ?_ _)); exact BK270.out) hb); have n1_ := Aside0.mk (below_step (by repeat (first | (with_reducible first | exact HB.out | apply below_alloc | apply pw_below_drewN | apply below_drew1 | refine below_set ?_ GE270.out) | exact HB.out)) hb); have n2_ := Aside0.mk (hbox); have n3_ := Aside0.mk ((by rw [hg]; exact (below_size (by repeat (first | (with_reducible first | exact HB.out | apply below_alloc | apply pw_below_drewN | apply below_drew1 | refine below_set ?_ GE270.out) | exact HB.out))) : w.heap.size ≤ gb277)); have n4_ := Aside0.mk ((by rw [hg]; exact (below_size (by repeat (first | (with_reducible first | exact HB.out | apply below_alloc | apply pw_below_drewN | apply below_drew1 | refine below_set ?_ GE270.out) | exact HB.out))) : w.heap.size ≤ gb277)); have n5_ := Aside0.mk ((by rw [hg]; exact Nat.ne_of_lt (blk_lt (g := gb270) (o := .cells #[.int .i64 a0_0, .int .i64 a0_1, .int .i64 a0_2, .int .i64 a0_3, .int .i64 a0_4] 37 (0, 0)) (by (with_reducible repeat (first | refine blk_drewN ?_ _ | refine blk_drew ?_ | refine blk_alloc ?_ _)); exact BK270.out)) : gb270 ≠ gb277)); have n6_ := Aside0.mk ((by rw [hg]; exact Nat.ne_of_gt (blk_lt (g := gb270) (o := .cells #[.int .i64 a0_0, .int .i64 a0_1, .int .i64 a0_2, .int .i64 a0_3, .int .i64 a0_4] 37 (0, 0)) (by (with_reducible repeat (first | refine blk_drewN ?_ _ | refine blk_drew ?_ | refine blk_alloc ?_ _)); exact BK270.out)) : gb277 ≠ gb270)); clear BK270; clear HB; have BK270 := n0_; have HB := n1_; have BK277 := n2_; have GW277 := n3_; have GE277 := n4_; have NB270_277 := n5_; have NB277_270 := n6_; clear n0_ n1_ n2_ n3_ n4_ n5_ n6_; clear hb hbox hg; have hnb38 := NB277_270.out; have hnc38 := NB270_277.out; have hcz39_0 : w37.cell? ⟨gb277, 0, none⟩ = some (.string (⟨#[]⟩ : ByteArray)) := (blk_cell BK277.out 0).trans rfl; have hcz39_1 : w37.cell? ⟨gb277, 1, none⟩ = some (.int .i64 0) := (blk_cell BK277.out 1).trans rfl; have hcz39_2 : w37.cell? ⟨gb277, 2, none⟩ = some (.int .i64 0) := (blk_cell BK277.out 2).trans rfl; have hcz39_3 : w37.cell? ⟨gb277, 3, none⟩ = some (.string (⟨#[]⟩ : ByteArray)) := (blk_cell BK277.out 3).trans rfl; have hcz39_4 : w37.cell? ⟨gb277, 4, none⟩ = some (.string (⟨#[]⟩ : ByteArray)) := (blk_cell BK277.out 4).trans rfl; have hfz39_0 := blk_frozen BK277.out 0; have hfz39_1 := blk_frozen BK277.out 1; have hfz39_2 := blk_frozen BK277.out 2; have hfz39_3 := blk_frozen BK277.out 3; have hfz39_4 := blk_frozen BK277.out 4) | ((with_reducible refine gate_callee (f := 41) rfl ?_); refine goesL_ (some 21) rfl rfl Try.func41 (by kernel_rfl) rfl #[.int .i64 t272] rfl (by (try simp only [List.map_toArray, List.map_cons, List.map_nil]); first | done | rfl | (simp only [List.length_drop, List.length_take]; rfl)) ?_; (with_reducible refine (rotaref06_Has.calls t272 t278 t279 t280 t281 t282 _ A4.out).mono ?_); rintro e w' ⟨rfl, ⟨nd, rfl⟩⟩; refine ⟨_, rfl, ?_⟩; have hcz40_0 : w37.cell? ⟨gb270, 0, none⟩ = some (.int .i64 a0_0) := (blk_cell BK270.out 0).trans rfl; have hcz40_1 : w37.cell? ⟨gb270, 1, none⟩ = some (.int .i64 a0_1) := (blk_cell BK270.out 1).trans rfl; have hcz40_2 : w37.cell? ⟨gb270, 2, none⟩ = some (.int .i64 a0_2) := (blk_cell BK270.out 2).trans rfl; have hcz40_3 : w37.cell? ⟨gb270, 3, none⟩ = some (.int .i64 a0_3) := (blk_cell BK270.out 3).trans rfl; have hcz40_4 : w37.cell? ⟨gb270, 4, none⟩ = some (.int .i64 a0_4) := (blk_cell BK270.out 4).trans rfl; have hfz40_0 := blk_frozen BK270.out 0; have hfz40_1 := blk_frozen BK270.out 1; have hfz40_2 := blk_frozen BK270.out 2; have hfz40_3 := blk_frozen BK270.out 3; have hfz40_4 := blk_frozen BK270.out 4) | ((with_reducible refine gate_callee (f := 42) rfl ?_); refine goesL_ (some 30) rfl rfl Try.func42 (by kernel_rfl) rfl #[.int .i64 a0_1, .bool t278] rfl (by (try simp only [List.map_toArray, List.map_cons, List.map_nil]); first | done | rfl | (simp only [List.length_drop, List.length_take]; rfl)) ?_; (with_reducible refine (rotaref06_fits.calls a0_1 t278 true _ A5.out).mono ?_); rintro e w' ⟨rfl, ⟨nd, rfl⟩⟩; refine ⟨_, rfl, ?_⟩) | (go_at_call 42; (with_reducible refine (rotaref06_fits.calls a0_2 t279 true _ A7.out).mono ?_); rintro e w' ⟨rfl, ⟨nd, rfl⟩⟩) | (go_at_call 42; (with_reducible refine (rotaref06_fits.calls a0_3 t280 false _ A9.out).mono ?_); rintro e w' ⟨rfl, ⟨nd, rfl⟩⟩))
          go_ret
          exact ⟨by first | rfl | (simp [errW_none, errW_some] <;> rfl) | (simp [*, errW_none, errW_some] <;> rfl), by repeat (first | (with_reducible first | exact HB.out | apply below_alloc | apply pw_below_drewN | apply below_drew1 | refine below_set ?_ GE270.out | refine below_set ?_ GE277.out) | exact HB.out)⟩
      · replace c8 := Bool.eq_false_iff.mpr c8
        subst c8
        have H1 : (some 61) = some r := by rw [if_neg (show ¬ (false = true) by decide)] at H; exact H
        clear H
        have H := H1
        clear H1
        obtain rfl := Option.some.inj H
        go_enter Try.func43, Try.ntmps43
        go_wp2_with (first | ((with_reducible refine gate_dst (N := 1) rfl ?_); refine box_event ?hg (N := 1) ?hd (cs := #[.int .i64 a0_0, .int .i64 a0_1, .int .i64 a0_2, .int .i64 a0_3, .int .i64 a0_4]) (t := 37) ?hr ?_; (case hd => rfl); (case hg => rfl); (case hr => first | (go_simp; done) | (go_simp; rfl)); intro gb270 hg w41 hbox hb; have n0_ := Aside0.mk (below_step (by repeat (first | (with_reducible first | exact HB.out | apply below_alloc | apply pw_below_drewN | apply below_drew1) | exact HB.out)) hb); have n1_ := Aside0.mk (hbox); have n2_ := Aside0.mk ((by rw [hg]; exact (below_size (by repeat (first | (with_reducible first | exact HB.out | apply below_alloc | apply pw_below_drewN | apply below_drew1) | exact HB.out))) : w.heap.size ≤ gb270)); have n3_ := Aside0.mk ((by rw [hg]; exact (below_size (by repeat (first | (with_reducible first | exact HB.out | apply below_alloc | apply pw_below_drewN | apply below_drew1) | exact HB.out))) : w.heap.size ≤ gb270)); clear HB; have HB := n0_; have BK270 := n1_; have GW270 := n2_; have GE270 := n3_; clear n0_ n1_ n2_ n3_; clear hb hbox hg; have hcz42_0 : w41.cell? ⟨gb270, 0, none⟩ = some (.int .i64 a0_0) := (blk_cell BK270.out 0).trans rfl; have hcz42_1 : w41.cell? ⟨gb270, 1, none⟩ = some (.int .i64 a0_1) := (blk_cell BK270.out 1).trans rfl; have hcz42_2 : w41.cell? ⟨gb270, 2, none⟩ = some (.int .i64 a0_2) := (blk_cell BK270.out 2).trans rfl; have hcz42_3 : w41.cell? ⟨gb270, 3, none⟩ = some (.int .i64 a0_3) := (blk_cell BK270.out 3).trans rfl; have hcz42_4 : w41.cell? ⟨gb270, 4, none⟩ = some (.int .i64 a0_4) := (blk_cell BK270.out 4).trans rfl; have hfz42_0 := blk_frozen BK270.out 0; have hfz42_1 := blk_frozen BK270.out 1; have hfz42_2 := blk_frozen BK270.out 2; have hfz42_3 := blk_frozen BK270.out 3; have hfz42_4 := blk_frozen BK270.out 4) | ((with_reducible refine gate_callee (f := 40) rfl ?_); refine goesL_ (some 13) rfl rfl Try.func40 (by kernel_rfl) rfl #[.int .i64 a0_0] rfl (by (try simp only [List.map_toArray, List.map_cons, List.map_nil]); first | done | rfl | (simp only [List.length_drop, List.length_take]; rfl)) ?_; (with_reducible refine (rotaref06_table.calls a0_0 t271 t272 t273 t274 t275 true _ A2.out).mono ?_); rintro e w43 ⟨rfl, hb⟩; refine ⟨_, rfl, ?_⟩; have n0_ := Aside0.mk (blk_below (g := gb270) (o := .cells #[.int .i64 a0_0, .int .i64 a0_1, .int .i64 a0_2, .int .i64 a0_3, .int .i64 a0_4] 37 (0, 0)) (by (with_reducible repeat (first | refine blk_drewN ?_ _ | refine blk_drew ?_ | refine blk_alloc ?_ _)); exact BK270.out) hb); have n1_ := Aside0.mk (below_step (by repeat (first | (with_reducible first | exact HB.out | apply below_alloc | apply pw_below_drewN | apply below_drew1 | refine below_set ?_ GE270.out) | exact HB.out)) hb); clear BK270; clear HB; have BK270 := n0_; have HB := n1_; clear n0_ n1_; (try clear hb); (try clear hb2); (try clear hk); (try clear hi)) | ((with_reducible refine gate_dst (N := 3) rfl ?_); refine box_event ?hg (N := 3) ?hd (cs := #[.string (⟨#[]⟩ : ByteArray), .int .i64 0, .int .i64 0, .string (⟨#[]⟩ : ByteArray), .string (⟨#[]⟩ : ByteArray)]) (t := 86) ?hr ?_; (case hd => rfl); (case hg => rfl); (case hr => first | (go_simp; done) | (go_simp; rfl)); intro gb277 hg w44 hbox hb; have n0_ := Aside0.mk (blk_below (g := gb270) (o := .cells #[.int .i64 a0_0, .int .i64 a0_1, .int .i64 a0_2, .int .i64 a0_3, .int .i64 a0_4] 37 (0, 0)) (by (with_reducible repeat (first | refine blk_drewN ?_ _ | refine blk_drew ?_ | refine blk_alloc ?_ _)); exact BK270.out) hb); have n1_ := Aside0.mk (below_step (by repeat (first | (with_reducible first | exact HB.out | apply below_alloc | apply pw_below_drewN | apply below_drew1 | refine below_set ?_ GE270.out) | exact HB.out)) hb); have n2_ := Aside0.mk (hbox); have n3_ := Aside0.mk ((by rw [hg]; exact (below_size (by repeat (first | (with_reducible first | exact HB.out | apply below_alloc | apply pw_below_drewN | apply below_drew1 | refine below_set ?_ GE270.out) | exact HB.out))) : w.heap.size ≤ gb277)); have n4_ := Aside0.mk ((by rw [hg]; exact (below_size (by repeat (first | (with_reducible first | exact HB.out | apply below_alloc | apply pw_below_drewN | apply below_drew1 | refine below_set ?_ GE270.out) | exact HB.out))) : w.heap.size ≤ gb277)); have n5_ := Aside0.mk ((by rw [hg]; exact Nat.ne_of_lt (blk_lt (g := gb270) (o := .cells #[.int .i64 a0_0, .int .i64 a0_1, .int .i64 a0_2, .int .i64 a0_3, .int .i64 a0_4] 37 (0, 0)) (by (with_reducible repeat (first | refine blk_drewN ?_ _ | refine blk_drew ?_ | refine blk_alloc ?_ _)); exact BK270.out)) : gb270 ≠ gb277)); have n6_ := Aside0.mk ((by rw [hg]; exact Nat.ne_of_gt (blk_lt (g := gb270) (o := .cells #[.int .i64 a0_0, .int .i64 a0_1, .int .i64 a0_2, .int .i64 a0_3, .int .i64 a0_4] 37 (0, 0)) (by (with_reducible repeat (first | refine blk_drewN ?_ _ | refine blk_drew ?_ | refine blk_alloc ?_ _)); exact BK270.out)) : gb277 ≠ gb270)); clear BK270; clear HB; have BK270 := n0_; have HB := n1_; have BK277 := n2_; have GW277 := n3_; have GE277 := n4_; have NB270_277 := n5_; have NB277_270 := n6_; clear n0_ n1_ n2_ n3_ n4_ n5_ n6_; clear hb hbox hg; have hnb45 := NB277_270.out; have hnc45 := NB270_277.out; have hcz46_0 : w44.cell? ⟨gb277, 0, none⟩ = some (.string (⟨#[]⟩ : ByteArray)) := (blk_cell BK277.out 0).trans rfl; have hcz46_1 : w44.cell? ⟨gb277, 1, none⟩ = some (.int .i64 0) := (blk_cell BK277.out 1).trans rfl; have hcz46_2 : w44.cell? ⟨gb277, 2, none⟩ = some (.int .i64 0) := (blk_cell BK277.out 2).trans rfl; have hcz46_3 : w44.cell? ⟨gb277, 3, none⟩ = some (.string (⟨#[]⟩ : ByteArray)) := (blk_cell BK277.out 3).trans rfl; have hcz46_4 : w44.cell? ⟨gb277, 4, none⟩ = some (.string (⟨#[]⟩ : ByteArray)) := (blk_cell BK277.out 4).trans rfl; have hfz46_0 := blk_frozen BK277.out 0; have hfz46_1 := blk_frozen BK277.out 1; have hfz46_2 := blk_frozen BK277.out 2; have hfz46_3 := blk_frozen BK277.out 3; have hfz46_4 := blk_frozen BK277.out 4) | ((with_reducible refine gate_callee (f := 41) rfl ?_); refine goesL_ (some 21) rfl rfl Try.func41 (by kernel_rfl) rfl #[.int .i64 t272] rfl (by (try simp only [List.map_toArray, List.map_cons, List.map_nil]); first | done | rfl | (simp only [List.length_drop, List.length_take]; rfl)) ?_; (with_reducible refine (rotaref06_Has.calls t272 t278 t279 t280 t281 t282 _ A4.out).mono ?_); rintro e w' ⟨rfl, ⟨nd, rfl⟩⟩; refine ⟨_, rfl, ?_⟩; have hcz47_0 : w44.cell? ⟨gb270, 0, none⟩ = some (.int .i64 a0_0) := (blk_cell BK270.out 0).trans rfl; have hcz47_1 : w44.cell? ⟨gb270, 1, none⟩ = some (.int .i64 a0_1) := (blk_cell BK270.out 1).trans rfl; have hcz47_2 : w44.cell? ⟨gb270, 2, none⟩ = some (.int .i64 a0_2) := (blk_cell BK270.out 2).trans rfl; have hcz47_3 : w44.cell? ⟨gb270, 3, none⟩ = some (.int .i64 a0_3) := (blk_cell BK270.out 3).trans rfl; have hcz47_4 : w44.cell? ⟨gb270, 4, none⟩ = some (.int .i64 a0_4) := (blk_cell BK270.out 4).trans rfl; have hfz47_0 := blk_frozen BK270.out 0; have hfz47_1 := blk_frozen BK270.out 1; have hfz47_2 := blk_frozen BK270.out 2; have hfz47_3 := blk_frozen BK270.out 3; have hfz47_4 := blk_frozen BK270.out 4) | ((with_reducible refine gate_callee (f := 42) rfl ?_); refine goesL_ (some 30) rfl rfl Try.func42 (by kernel_rfl) rfl #[.int .i64 a0_1, .bool t278] rfl (by (try simp only [List.map_toArray, List.map_cons, List.map_nil]); first | done | rfl | (simp only [List.length_drop, List.length_take]; rfl)) ?_; (with_reducible refine (rotaref06_fits.calls a0_1 t278 true _ A5.out).mono ?_); rintro e w' ⟨rfl, ⟨nd, rfl⟩⟩; refine ⟨_, rfl, ?_⟩) | (go_at_call 42; (with_reducible refine (rotaref06_fits.calls a0_2 t279 false _ A7.out).mono ?_); rintro e w' ⟨rfl, ⟨nd, rfl⟩⟩))
        go_ret
        exact ⟨by first | rfl | (simp [errW_none, errW_some] <;> rfl) | (simp [*, errW_none, errW_some] <;> rfl), by repeat (first | (with_reducible first | exact HB.out | apply below_alloc | apply pw_below_drewN | apply below_drew1 | refine below_set ?_ GE270.out | refine below_set ?_ GE277.out) | exact HB.out)⟩
    · replace c6 := Bool.eq_false_iff.mpr c6
      subst c6
      have H1 : (some 61) = some r := by rw [if_neg (show ¬ (false = true) by decide)] at H; exact H
      clear H
      have H := H1
      clear H1
      obtain rfl := Option.some.inj H
      go_enter Try.func43, Try.ntmps43
      go_wp2_with (first | ((with_reducible refine gate_dst (N := 1) rfl ?_); refine box_event ?hg (N := 1) ?hd (cs := #[.int .i64 a0_0, .int .i64 a0_1, .int .i64 a0_2, .int .i64 a0_3, .int .i64 a0_4]) (t := 37) ?hr ?_; (case hd => rfl); (case hg => rfl); (case hr => first | (go_simp; done) | (go_simp; rfl)); intro gb270 hg w48 hbox hb; have n0_ := Aside0.mk (below_step (by repeat (first | (with_reducible first | exact HB.out | apply below_alloc | apply pw_below_drewN | apply below_drew1) | exact HB.out)) hb); have n1_ := Aside0.mk (hbox); have n2_ := Aside0.mk ((by rw [hg]; exact (below_size (by repeat (first | (with_reducible first | exact HB.out | apply below_alloc | apply pw_below_drewN | apply below_drew1) | exact HB.out))) : w.heap.size ≤ gb270)); have n3_ := Aside0.mk ((by rw [hg]; exact (below_size (by repeat (first | (with_reducible first | exact HB.out | apply below_alloc | apply pw_below_drewN | apply below_drew1) | exact HB.out))) : w.heap.size ≤ gb270)); clear HB; have HB := n0_; have BK270 := n1_; have GW270 := n2_; have GE270 := n3_; clear n0_ n1_ n2_ n3_; clear hb hbox hg; have hcz49_0 : w48.cell? ⟨gb270, 0, none⟩ = some (.int .i64 a0_0) := (blk_cell BK270.out 0).trans rfl; have hcz49_1 : w48.cell? ⟨gb270, 1, none⟩ = some (.int .i64 a0_1) := (blk_cell BK270.out 1).trans rfl; have hcz49_2 : w48.cell? ⟨gb270, 2, none⟩ = some (.int .i64 a0_2) := (blk_cell BK270.out 2).trans rfl; have hcz49_3 : w48.cell? ⟨gb270, 3, none⟩ = some (.int .i64 a0_3) := (blk_cell BK270.out 3).trans rfl; have hcz49_4 : w48.cell? ⟨gb270, 4, none⟩ = some (.int .i64 a0_4) := (blk_cell BK270.out 4).trans rfl; have hfz49_0 := blk_frozen BK270.out 0; have hfz49_1 := blk_frozen BK270.out 1; have hfz49_2 := blk_frozen BK270.out 2; have hfz49_3 := blk_frozen BK270.out 3; have hfz49_4 := blk_frozen BK270.out 4) | ((with_reducible refine gate_callee (f := 40) rfl ?_); refine goesL_ (some 13) rfl rfl Try.func40 (by kernel_rfl) rfl #[.int .i64 a0_0] rfl (by (try simp only [List.map_toArray, List.map_cons, List.map_nil]); first | done | rfl | (simp only [List.length_drop, List.length_take]; rfl)) ?_; (with_reducible refine (rotaref06_table.calls a0_0 t271 t272 t273 t274 t275 true _ A2.out).mono ?_); rintro e w50 ⟨rfl, hb⟩; refine ⟨_, rfl, ?_⟩; have n0_ := Aside0.mk (blk_below (g := gb270) (o := .cells #[.int .i64 a0_0, .int .i64 a0_1, .int .i64 a0_2, .int .i64 a0_3, .int .i64 a0_4] 37 (0, 0)) (by (with_reducible repeat (first | refine blk_drewN ?_ _ | refine blk_drew ?_ | refine blk_alloc ?_ _)); exact BK270.out) hb); have n1_ := Aside0.mk (below_step (by repeat (first | (with_reducible first | exact HB.out | apply below_alloc | apply pw_below_drewN | apply below_drew1 | refine below_set ?_ GE270.out) | exact HB.out)) hb); clear BK270; clear HB; have BK270 := n0_; have HB := n1_; clear n0_ n1_; (try clear hb); (try clear hb2); (try clear hk); (try clear hi)) | ((with_reducible refine gate_dst (N := 3) rfl ?_); refine box_event ?hg (N := 3) ?hd (cs := #[.string (⟨#[]⟩ : ByteArray), .int .i64 0, .int .i64 0, .string (⟨#[]⟩ : ByteArray), .string (⟨#[]⟩ : ByteArray)]) (t := 86) ?hr ?_; (case hd => rfl); (case hg => rfl); (case hr => first | (go_simp; done) | (go_simp; rfl)); intro gb277 hg w51 hbox hb; have n0_ := Aside0.mk (blk_below (g := gb270) (o := .cells #[.int .i64 a0_0, .int .i64 a0_1, .int .i64 a0_2, .int .i64 a0_3, .int .i64 a0_4] 37 (0, 0)) (by (with_reducible repeat (first | refine blk_drewN ?_ _ | refine blk_drew ?_ | refine blk_alloc ?_ _)); exact BK270.out) hb); have n1_ := Aside0.mk (below_step (by repeat (first | (with_reducible first | exact HB.out | apply below_alloc | apply pw_below_drewN | apply below_drew1 | refine below_set ?_ GE270.out) | exact HB.out)) hb); have n2_ := Aside0.mk (hbox); have n3_ := Aside0.mk ((by rw [hg]; exact (below_size (by repeat (first | (with_reducible first | exact HB.out | apply below_alloc | apply pw_below_drewN | apply below_drew1 | refine below_set ?_ GE270.out) | exact HB.out))) : w.heap.size ≤ gb277)); have n4_ := Aside0.mk ((by rw [hg]; exact (below_size (by repeat (first | (with_reducible first | exact HB.out | apply below_alloc | apply pw_below_drewN | apply below_drew1 | refine below_set ?_ GE270.out) | exact HB.out))) : w.heap.size ≤ gb277)); have n5_ := Aside0.mk ((by rw [hg]; exact Nat.ne_of_lt (blk_lt (g := gb270) (o := .cells #[.int .i64 a0_0, .int .i64 a0_1, .int .i64 a0_2, .int .i64 a0_3, .int .i64 a0_4] 37 (0, 0)) (by (with_reducible repeat (first | refine blk_drewN ?_ _ | refine blk_drew ?_ | refine blk_alloc ?_ _)); exact BK270.out)) : gb270 ≠ gb277)); have n6_ := Aside0.mk ((by rw [hg]; exact Nat.ne_of_gt (blk_lt (g := gb270) (o := .cells #[.int .i64 a0_0, .int .i64 a0_1, .int .i64 a0_2, .int .i64 a0_3, .int .i64 a0_4] 37 (0, 0)) (by (with_reducible repeat (first | refine blk_drewN ?_ _ | refine blk_drew ?_ | refine blk_alloc ?_ _)); exact BK270.out)) : gb277 ≠ gb270)); clear BK270; clear HB; have BK270 := n0_; have HB := n1_; have BK277 := n2_; have GW277 := n3_; have GE277 := n4_; have NB270_277 := n5_; have NB277_270 := n6_; clear n0_ n1_ n2_ n3_ n4_ n5_ n6_; clear hb hbox hg; have hnb52 := NB277_270.out; have hnc52 := NB270_277.out; have hcz53_0 : w51.cell? ⟨gb277, 0, none⟩ = some (.string (⟨#[]⟩ : ByteArray)) := (blk_cell BK277.out 0).trans rfl; have hcz53_1 : w51.cell? ⟨gb277, 1, none⟩ = some (.int .i64 0) := (blk_cell BK277.out 1).trans rfl; have hcz53_2 : w51.cell? ⟨gb277, 2, none⟩ = some (.int .i64 0) := (blk_cell BK277.out 2).trans rfl; have hcz53_3 : w51.cell? ⟨gb277, 3, none⟩ = some (.string (⟨#[]⟩ : ByteArray)) := (blk_cell BK277.out 3).trans rfl; have hcz53_4 : w51.cell? ⟨gb277, 4, none⟩ = some (.string (⟨#[]⟩ : ByteArray)) := (blk_cell BK277.out 4).trans rfl; have hfz53_0 := blk_frozen BK277.out 0; have hfz53_1 := blk_frozen BK277.out 1; have hfz53_2 := blk_frozen BK277.out 2; have hfz53_3 := blk_frozen BK277.out 3; have hfz53_4 := blk_frozen BK277.out 4) | ((with_reducible refine gate_callee (f := 41) rfl ?_); refine goesL_ (some 21) rfl rfl Try.func41 (by kernel_rfl) rfl #[.int .i64 t272] rfl (by (try simp only [List.map_toArray, List.map_cons, List.map_nil]); first | done | rfl | (simp only [List.length_drop, List.length_take]; rfl)) ?_; (with_reducible refine (rotaref06_Has.calls t272 t278 t279 t280 t281 t282 _ A4.out).mono ?_); rintro e w' ⟨rfl, ⟨nd, rfl⟩⟩; refine ⟨_, rfl, ?_⟩; have hcz54_0 : w51.cell? ⟨gb270, 0, none⟩ = some (.int .i64 a0_0) := (blk_cell BK270.out 0).trans rfl; have hcz54_1 : w51.cell? ⟨gb270, 1, none⟩ = some (.int .i64 a0_1) := (blk_cell BK270.out 1).trans rfl; have hcz54_2 : w51.cell? ⟨gb270, 2, none⟩ = some (.int .i64 a0_2) := (blk_cell BK270.out 2).trans rfl; have hcz54_3 : w51.cell? ⟨gb270, 3, none⟩ = some (.int .i64 a0_3) := (blk_cell BK270.out 3).trans rfl; have hcz54_4 : w51.cell? ⟨gb270, 4, none⟩ = some (.int .i64 a0_4) := (blk_cell BK270.out 4).trans rfl; have hfz54_0 := blk_frozen BK270.out 0; have hfz54_1 := blk_frozen BK270.out 1; have hfz54_2 := blk_frozen BK270.out 2; have hfz54_3 := blk_frozen BK270.out 3; have hfz54_4 := blk_frozen BK270.out 4) | ((with_reducible refine gate_callee (f := 42) rfl ?_); refine goesL_ (some 30) rfl rfl Try.func42 (by kernel_rfl) rfl #[.int .i64 a0_1, .bool t278] rfl (by (try simp only [List.map_toArray, List.map_cons, List.map_nil]); first | done | rfl | (simp only [List.length_drop, List.length_take]; rfl)) ?_; (with_reducible refine (rotaref06_fits.calls a0_1 t278 false _ A5.out).mono ?_); rintro e w' ⟨rfl, ⟨nd, rfl⟩⟩; refine ⟨_, rfl, ?_⟩))
      go_ret
      exact ⟨by first | rfl | (simp [errW_none, errW_some] <;> rfl) | (simp [*, errW_none, errW_some] <;> rfl), by repeat (first | (with_reducible first | exact HB.out | apply below_alloc | apply pw_below_drewN | apply below_drew1 | refine below_set ?_ GE270.out | refine below_set ?_ GE277.out) | exact HB.out)⟩
  · replace c3 := Bool.eq_false_iff.mpr c3
    subst c3
    have H1 : (some 60) = some r := by rw [if_neg (show ¬ (false = true) by decide)] at H; exact H
    clear H
    have H := H1
    clear H1
    obtain rfl := Option.some.inj H
    go_enter Try.func43, Try.ntmps43
    go_wp2_with (first | ((with_reducible refine gate_dst (N := 1) rfl ?_); refine box_event ?hg (N := 1) ?hd (cs := #[.int .i64 a0_0, .int .i64 a0_1, .int .i64 a0_2, .int .i64 a0_3, .int .i64 a0_4]) (t := 37) ?hr ?_; (case hd => rfl); (case hg => rfl); (case hr => first | (go_simp; done) | (go_simp; rfl)); intro gb270 hg w55 hbox hb; have n0_ := Aside0.mk (below_step (by repeat (first | (with_reducible first | exact HB.out | apply below_alloc | apply pw_below_drewN | apply below_drew1) | exact HB.out)) hb); have n1_ := Aside0.mk (hbox); have n2_ := Aside0.mk ((by rw [hg]; exact (below_size (by repeat (first | (with_reducible first | exact HB.out | apply below_alloc | apply pw_below_drewN | apply below_drew1) | exact HB.out))) : w.heap.size ≤ gb270)); have n3_ := Aside0.mk ((by rw [hg]; exact (below_size (by repeat (first | (with_reducible first | exact HB.out | apply below_alloc | apply pw_below_drewN | apply below_drew1) | exact HB.out))) : w.heap.size ≤ gb270)); clear HB; have HB := n0_; have BK270 := n1_; have GW270 := n2_; have GE270 := n3_; clear n0_ n1_ n2_ n3_; clear hb hbox hg; have hcz56_0 : w55.cell? ⟨gb270, 0, none⟩ = some (.int .i64 a0_0) := (blk_cell BK270.out 0).trans rfl; have hcz56_1 : w55.cell? ⟨gb270, 1, none⟩ = some (.int .i64 a0_1) := (blk_cell BK270.out 1).trans rfl; have hcz56_2 : w55.cell? ⟨gb270, 2, none⟩ = some (.int .i64 a0_2) := (blk_cell BK270.out 2).trans rfl; have hcz56_3 : w55.cell? ⟨gb270, 3, none⟩ = some (.int .i64 a0_3) := (blk_cell BK270.out 3).trans rfl; have hcz56_4 : w55.cell? ⟨gb270, 4, none⟩ = some (.int .i64 a0_4) := (blk_cell BK270.out 4).trans rfl; have hfz56_0 := blk_frozen BK270.out 0; have hfz56_1 := blk_frozen BK270.out 1; have hfz56_2 := blk_frozen BK270.out 2; have hfz56_3 := blk_frozen BK270.out 3; have hfz56_4 := blk_frozen BK270.out 4) | ((with_reducible refine gate_callee (f := 40) rfl ?_); refine goesL_ (some 13) rfl rfl Try.func40 (by kernel_rfl) rfl #[.int .i64 a0_0] rfl (by (try simp only [List.map_toArray, List.map_cons, List.map_nil]); first | done | rfl | (simp only [List.length_drop, List.length_take]; rfl)) ?_; (with_reducible refine (rotaref06_table.calls a0_0 t271 t272 t273 t274 t275 false _ A2.out).mono ?_); rintro e w57 ⟨rfl, hb⟩; refine ⟨_, rfl, ?_⟩; have n0_ := Aside0.mk (blk_below (g := gb270) (o := .cells #[.int .i64 a0_0, .int .i64 a0_1, .int .i64 a0_2, .int .i64 a0_3, .int .i64 a0_4] 37 (0, 0)) (by (with_reducible repeat (first | refine blk_drewN ?_ _ | refine blk_drew ?_ | refine blk_alloc ?_ _)); exact BK270.out) hb); have n1_ := Aside0.mk (below_step (by repeat (first | (with_reducible first | exact HB.out | apply below_alloc | apply pw_below_drewN | apply below_drew1 | refine below_set ?_ GE270.out) | exact HB.out)) hb); clear BK270; clear HB; have BK270 := n0_; have HB := n1_; clear n0_ n1_; (try clear hb); (try clear hb2); (try clear hk); (try clear hi)) | ((with_reducible refine gate_dst (N := 3) rfl ?_); refine box_event ?hg (N := 3) ?hd (cs := #[.string (⟨#[]⟩ : ByteArray), .int .i64 0, .int .i64 0, .string (⟨#[]⟩ : ByteArray), .string (⟨#[]⟩ : ByteArray)]) (t := 86) ?hr ?_; (case hd => rfl); (case hg => rfl); (case hr => first | (go_simp; done) | (go_simp; rfl)); intro gb277 hg w58 hbox hb; have n0_ := Aside0.mk (blk_below (g := gb270) (o := .cells #[.int .i64 a0_0, .int .i64 a0_1, .int .i64 a0_2, .int .i64 a0_3, .int .i64 a0_4] 37 (0, 0)) (by (with_reducible repeat (first | refine blk_drewN ?_ _ | refine blk_drew ?_ | refine blk_alloc ?_ _)); exact BK270.out) hb); have n1_ := Aside0.mk (below_step (by repeat (first | (with_reducible first | exact HB.out | apply below_alloc | apply pw_below_drewN | apply below_drew1 | refine below_set ?_ GE270.out) | exact HB.out)) hb); have n2_ := Aside0.mk (hbox); have n3_ := Aside0.mk ((by rw [hg]; exact (below_size (by repeat (first | (with_reducible first | exact HB.out | apply below_alloc | apply pw_below_drewN | apply below_drew1 | refine below_set ?_ GE270.out) | exact HB.out))) : w.heap.size ≤ gb277)); have n4_ := Aside0.mk ((by rw [hg]; exact (below_size (by repeat (first | (with_reducible first | exact HB.out | apply below_alloc | apply pw_below_drewN | apply below_drew1 | refine below_set ?_ GE270.out) | exact HB.out))) : w.heap.size ≤ gb277)); have n5_ := Aside0.mk ((by rw [hg]; exact Nat.ne_of_lt (blk_lt (g := gb270) (o := .cells #[.int .i64 a0_0, .int .i64 a0_1, .int .i64 a0_2, .int .i64 a0_3, .int .i64 a0_4] 37 (0, 0)) (by (with_reducible repeat (first | refine blk_drewN ?_ _ | refine blk_drew ?_ | refine blk_alloc ?_ _)); exact BK270.out)) : gb270 ≠ gb277)); have n6_ := Aside0.mk ((by rw [hg]; exact Nat.ne_of_gt (blk_lt (g := gb270) (o := .cells #[.int .i64 a0_0, .int .i64 a0_1, .int .i64 a0_2, .int .i64 a0_3, .int .i64 a0_4] 37 (0, 0)) (by (with_reducible repeat (first | refine blk_drewN ?_ _ | refine blk_drew ?_ | refine blk_alloc ?_ _)); exact BK270.out)) : gb277 ≠ gb270)); clear BK270; clear HB; have BK270 := n0_; have HB := n1_; have BK277 := n2_; have GW277 := n3_; have GE277 := n4_; have NB270_277 := n5_; have NB277_270 := n6_; clear n0_ n1_ n2_ n3_ n4_ n5_ n6_; clear hb hbox hg; have hnb59 := NB277_270.out; have hnc59 := NB270_277.out; have hcz60_0 : w58.cell? ⟨gb277, 0, none⟩ = some (.string (⟨#[]⟩ : ByteArray)) := (blk_cell BK277.out 0).trans rfl; have hcz60_1 : w58.cell? ⟨gb277, 1, none⟩ = some (.int .i64 0) := (blk_cell BK277.out 1).trans rfl; have hcz60_2 : w58.cell? ⟨gb277, 2, none⟩ = some (.int .i64 0) := (blk_cell BK277.out 2).trans rfl; have hcz60_3 : w58.cell? ⟨gb277, 3, none⟩ = some (.string (⟨#[]⟩ : ByteArray)) := (blk_cell BK277.out 3).trans rfl; have hcz60_4 : w58.cell? ⟨gb277, 4, none⟩ = some (.string (⟨#[]⟩ : ByteArray)) := (blk_cell BK277.out 4).trans rfl; have hfz60_0 := blk_frozen BK277.out 0; have hfz60_1 := blk_frozen BK277.out 1; have hfz60_2 := blk_frozen BK277.out 2; have hfz60_3 := blk_frozen BK277.out 3; have hfz60_4 := blk_frozen BK277.out 4))
    go_ret
    exact ⟨by first | rfl | (simp [errW_none, errW_some] <;> rfl) | (simp [*, errW_none, errW_some] <;> rfl), by repeat (first | (with_reducible first | exact HB.out | apply below_alloc | apply pw_below_drewN | apply below_drew1 | refine below_set ?_ GE270.out | refine below_set ?_ GE277.out) | exact HB.out)⟩

end Go.Proofs.Ythjfmlehkcccfaa.GA
end

section
/-
  Plain facts on the table of operations, and on words as instructions: the program's and the reference's answers are the same.
-/
namespace Go.Proofs.Ythjfmlehkcccfaa.Q
open Go.RowKit Go.Proofs.Ythjfmlehkcccfaa.GA Go.Proofs.Ythjfmlehkcccfaa.Hfind Go.Proofs.Ythjfmlehkcccfaa.Hfits
/-- The reference writes "*" where the program writes "all". -/
def star (s : ByteArray) : ByteArray := if s.data.toList = [97, 108, 108] then ⟨#[42]⟩ else s
theorem table_rows : (List.range 58).map (fun k : Nat => rotaref06_table.f ((k : Int) + 1)) =
    (List.range 58).map (fun k : Nat => some ((Hfind.rowAt k).1, (Hfind.rowAt k).2.1, (Hfind.rowAt k).2.2.1, star (Hfind.rowAt k).2.2.2.1, star (Hfind.rowAt k).2.2.2.2, true)) := by kernel_rfl
theorem table_in (k : Nat) (hk : k < 58) : rotaref06_table.f ((k : Int) + 1) = some ((Hfind.rowAt k).1, (Hfind.rowAt k).2.1, (Hfind.rowAt k).2.2.1, star (Hfind.rowAt k).2.2.2.1, star (Hfind.rowAt k).2.2.2.2, true) :=
  of_range 58 (fun k : Nat => rotaref06_table.f ((k : Int) + 1)) _ table_rows k hk
theorem find_at (k : Nat) (hk : k < 58) : word_find.f ((k : Int) + 1) = some ((Hfind.rowAt k).1, (Hfind.rowAt k).2.1, (Hfind.rowAt k).2.2.1, (Hfind.rowAt k).2.2.2.1, (Hfind.rowAt k).2.2.2.2, 0) := by
  unfold word_find.f
  rw [if_pos (by omega), show ((k : Int) + 1 - 1).toNat = k from by omega]
theorem find_else (n : Int) (h : ¬ (1 ≤ n ∧ n ≤ 58)) : word_find.f n = some (⟨#[]⟩, 0, 0, ⟨#[]⟩, ⟨#[]⟩, 60) := by
  unfold word_find.f
  rw [if_neg h]
set_option maxRecDepth 10000 in
theorem table_else (n : Int) (h : ¬ (1 ≤ n ∧ n ≤ 58)) : rotaref06_table.f n = some (⟨#[]⟩, 0, 0, ⟨#[]⟩, ⟨#[]⟩, false) := by
  have h1 : rotaref06_later.f n = some (⟨#[]⟩, 0, 0, ⟨#[]⟩, ⟨#[]⟩, false) := by
    unfold rotaref06_later.f
    iterate 29 rw [if_neg (by omega)]
  unfold rotaref06_table.f
  iterate 29 rw [if_neg (by omega)]
  rw [h1]
  rfl
theorem in_or (n : Int) : (∃ k : Nat, k < 58 ∧ n = (k : Int) + 1) ∨ ¬ (1 ≤ n ∧ n ≤ 58) := by
  by_cases h : 1 ≤ n ∧ n ≤ 58
  · exact .inl ⟨(n - 1).toNat, by omega, by omega⟩
  · exact .inr h
/-- The names are all different, and none is empty. -/
def nameOf (k : Nat) : List UInt8 := (Hfind.rowAt k).1.data.toList
theorem names_all : ((List.range 58).all fun i => (List.range 58).all fun j => (nameOf i == nameOf j) == (i == j)) = true := by kernel_rfl
theorem names_eq {i j : Nat} (hi : i < 58) (hj : j < 58) : (nameOf i == nameOf j) = (i == j) := by
  have := List.all_eq_true.1 (List.all_eq_true.1 names_all i (List.mem_range.2 hi)) j (List.mem_range.2 hj)
  simpa using this
theorem names_long : ((List.range 58).all fun i => decide (0 < (nameOf i).length)) = true := by kernel_rfl
theorem name_long {i : Nat} (hi : i < 58) : 0 < (nameOf i).length := by
  simpa using List.all_eq_true.1 names_long i (List.mem_range.2 hi)
theorem costs_all : ((List.range 58).all fun i => decide (1 ≤ (Hfind.rowAt i).2.2.1 ∧ (Hfind.rowAt i).2.2.1 ≤ 8 ∧ 0 ≤ (Hfind.rowAt i).2.1 ∧ (Hfind.rowAt i).2.1 ≤ 6)) = true := by kernel_rfl
theorem cost_at {i : Nat} (hi : i < 58) : 1 ≤ (Hfind.rowAt i).2.2.1 ∧ (Hfind.rowAt i).2.2.1 ≤ 8 ∧ 0 ≤ (Hfind.rowAt i).2.1 ∧ (Hfind.rowAt i).2.1 ≤ 6 := by
  simpa using List.all_eq_true.1 costs_all i (List.mem_range.2 hi)
theorem toNat_ofInt32 (a : Nat) (h : a < 4294967296) : (BitVec.ofInt 32 (a : Int)).toNat = a := by
  rw [BitVec.ofInt_natCast, BitVec.toNat_ofNat]; exact Nat.mod_eq_of_lt (by omega)
theorem wrap_u32 (a : Nat) (h : a < 4294967296) : IntKind.u32.wrap (a : Int) = a := by
  simp only [IntKind.wrap, IntKind.bits, IntKind.signed, Bool.false_and]
  simp; omega
theorem or_nat (a b : Nat) (ha : a < 4294967296) (hb : b < 4294967296) : Go.bits .or .u32 (a : Int) (b : Int) = ((a ||| b : Nat) : Int) := by
  have hx : a ||| b < 2 ^ 32 := Nat.or_lt_two_pow (by omega) (by omega)
  show IntKind.u32.wrap ((BitVec.ofInt 32 (a : Int) ||| BitVec.ofInt 32 (b : Int)).toNat : Int) = _
  rw [BitVec.toNat_or, toNat_ofInt32 a ha, toNat_ofInt32 b hb, wrap_u32 _ (by omega)]
theorem and_nat (a b : Nat) (ha : a < 4294967296) (hb : b < 4294967296) : Go.bits .and .u32 (a : Int) (b : Int) = ((a &&& b : Nat) : Int) := by
  have hx : a &&& b < 2 ^ 32 := Nat.and_lt_two_pow _ (by omega)
  show IntKind.u32.wrap ((BitVec.ofInt 32 (a : Int) &&& BitVec.ofInt 32 (b : Int)).toNat : Int) = _
  rw [BitVec.toNat_and, toNat_ofInt32 a ha, toNat_ofInt32 b hb, wrap_u32 _ (by omega)]
/-- What stands above place i, and what stands below it: 'or' is the sum. -/
theorem or_add (i : Nat) (x y : Int) (hx : 0 ≤ x) (hd : x % ((2 ^ i : Nat) : Int) = 0) (hy : 0 ≤ y) (hy2 : y < ((2 ^ i : Nat) : Int)) (hs : x + y < 4294967296) : Go.bits .or .u32 x y = x + y := by
  obtain ⟨a, rfl⟩ := Int.eq_ofNat_of_zero_le hx
  obtain ⟨b, rfl⟩ := Int.eq_ofNat_of_zero_le hy
  have h1 : a % 2 ^ i = 0 := by exact_mod_cast hd
  have h2 : b < 2 ^ i := by exact_mod_cast hy2
  have h3 : a = 2 ^ i * (a / 2 ^ i) := by have := Nat.div_add_mod a (2 ^ i); omega
  rw [or_nat a b (by omega) (by omega)]
  have := Nat.two_pow_add_eq_or_of_lt h2 (a / 2 ^ i)
  rw [← h3] at this
  omega
theorem and_mod (i : Nat) (x : Int) (hi : i ≤ 31) (hx : 0 ≤ x) (hs : x < 4294967296) : Go.bits .and .u32 x (((2 ^ i - 1 : Nat)) : Int) = x % ((2 ^ i : Nat) : Int) := by
  obtain ⟨a, rfl⟩ := Int.eq_ofNat_of_zero_le hx
  have hp : 2 ^ i ≤ 2 ^ 31 := Nat.pow_le_pow_right (by omega) hi
  rw [and_nat a (2 ^ i - 1) (by omega) (by omega), Nat.and_two_pow_sub_one_eq_mod]
  simp
theorem and_15 (x : Int) (hx : 0 ≤ x) (hs : x < 4294967296) : Go.bits .and .u32 x 15 = x % 16 := and_mod 4 x (by omega) hx hs
theorem and_65535 (x : Int) (hx : 0 ≤ x) (hs : x < 4294967296) : Go.bits .and .u32 x 65535 = x % 65536 := and_mod 16 x (by omega) hx hs
theorem and_65520 (x : Int) (hx : 0 ≤ x) (hs : x < 4294967296) : Go.bits .and .u32 x 65520 = x % 65536 - x % 16 := by
  obtain ⟨a, rfl⟩ := Int.eq_ofNat_of_zero_le hx
  have h0 : Go.bits .and .u32 (a : Int) ((65520 : Nat) : Int) = _ := and_nat a 65520 (by omega) (by omega)
  have h1 : a &&& 65520 = (a % 65536) - a % 16 := by
    have e : a &&& 65535 = a % 65536 := Nat.and_two_pow_sub_one_eq_mod a 16
    have e2 : a &&& 15 = a % 16 := Nat.and_two_pow_sub_one_eq_mod a 4
    have e3 : (a &&& 65520) + (a &&& 15) = a &&& 65535 := by
      have hb : (65535 : Nat) = 65520 ||| 15 := by decide
      rw [hb, Nat.and_or_distrib_left]
      have hdvd : a &&& 65520 = 2 ^ 4 * ((a &&& 65520) / 2 ^ 4) := by
        have : (a &&& 65520) % 2 ^ 4 = 0 := by
          rw [← Nat.and_two_pow_sub_one_eq_mod, Nat.and_assoc]
          simp
        omega
      have hlt : a &&& 15 < 2 ^ 4 := Nat.and_lt_two_pow _ (by omega)
      have := Nat.two_pow_add_eq_or_of_lt hlt ((a &&& 65520) / 2 ^ 4)
      rw [← hdvd] at this
      exact this
    omega
  rw [show ((65520 : Nat) : Int) = 65520 from rfl] at h0
  rw [h0, h1]
  omega
def enc (o a b c m : Int) : Int := o * 16777216 + a * 1048576 + b * 65536 + m % 65536 + c
theorem fits_bd {a b c m s : Int} (h : fitsB a b c m s = true) : 0 ≤ a ∧ a < 16 ∧ 0 ≤ b ∧ b < 16 ∧ 0 ≤ c ∧ c < 16 ∧ (c = 0 ∨ m = 0) ∧ -32768 ≤ m ∧ m < 65536 := by
  unfold fitsB reg at h
  split at h
  · simp at h; omega
  · split at h
    · simp at h; omega
    · split at h
      · simp at h; omega
      · split at h
        · simp at h; omega
        · simp at h; omega
theorem wrap_u16 (m : Int) : IntKind.u16.wrap m % 4294967296 = m % 65536 := by
  simp only [IntKind.wrap, IntKind.bits, IntKind.signed, Bool.false_and]
  simp; omega
theorem ref_fits (n : Int) (h : Bool) : rotaref06_fits.f n h = some (n == 0 || (h && (decide (0 < n) && decide (n < 16)))) := by
  unfold rotaref06_fits.f
  by_cases h0 : n = 0
  · simp [h0]
  · rw [if_neg h0]
    cases h
    · simp [h0]
    · by_cases h1 : n > 0
      · simp [h0, h1]
      · simp [h0, h1]
theorem has_at (s : Int) : rotaref06_Has.f s = some (decide (s = 1 ∨ s = 2 ∨ s = 3 ∨ s = 5 ∨ s = 6), decide (s = 2 ∨ s = 3), decide (s = 3), if s = 6 then -32768 else 0, if s = 4 ∨ s = 5 then 65535 else if s = 6 then 32767 else 0) := by
  unfold rotaref06_Has.f
  by_cases h1 : s = 1; · subst h1; rfl
  by_cases h2 : s = 2; · subst h2; rfl
  by_cases h3 : s = 3; · subst h3; rfl
  by_cases h4 : s = 4; · subst h4; rfl
  by_cases h5 : s = 5; · subst h5; rfl
  by_cases h6 : s = 6; · subst h6; rfl
  simp [h1, h2, h3, h4, h5, h6]
theorem ref_check (k : Nat) (hk : k < 58) (a b c m : Int) : rotaref06_Check.f ((k : Int) + 1) a b c m = some (if fitsB a b c m (Hfind.rowAt k).2.1 = true then 0 else 61) := by
  unfold rotaref06_Check.f
  rw [table_in k hk]
  obtain ⟨_, _, s0, s1⟩ := cost_at hk
  generalize (Hfind.rowAt k).2.1 = s at *
  simp only [Option.bind_some, if_true, has_at, ref_fits]
  have hs : s = 0 ∨ s = 1 ∨ s = 2 ∨ s = 3 ∨ s = 4 ∨ s = 5 ∨ s = 6 := by omega
  rcases hs with rfl | rfl | rfl | rfl | rfl | rfl | rfl
  all_goals
    simp only [fitsB, reg]
    simp
    repeat' split
    all_goals first | rfl | omega
def dA (w : Int) : Int := w / 1048576 % 16
def dB (w : Int) : Int := w / 65536 % 16
def dC (w s : Int) : Int := if s = 3 then w % 16 else 0
def dM (w s : Int) : Int := if s = 6 then (if 32768 ≤ w % 65536 then w % 65536 - 65536 else w % 65536) else if s = 3 then w % 65536 - w % 16 else w % 65536
theorem wrap_i16 (w : Int) : IntKind.i16.wrap w = if 32768 ≤ w % 65536 then w % 65536 - 65536 else w % 65536 := by
  simp only [IntKind.wrap, IntKind.bits, IntKind.signed]
  simp
theorem word_decode (k : Nat) (hk : k < 58) (w : Int) (h0 : 0 ≤ w) (h1 : w < 4294967296) (ho : w / 16777216 = (k : Int) + 1) :
    word_Decode.f w = some (if fitsB (dA w) (dB w) (dC w (Hfind.rowAt k).2.1) (dM w (Hfind.rowAt k).2.1) (Hfind.rowAt k).2.1 = true then ((k : Int) + 1, dA w, dB w, dC w (Hfind.rowAt k).2.1, dM w (Hfind.rowAt k).2.1, 0) else (0, 0, 0, 0, 0, 61)) := by
  unfold word_Decode.f word_fits.f
  have hw : wrap64 (w / 16777216) = (k : Int) + 1 := by rw [ho]; unfold wrap64; omega
  rw [hw, find_at k hk]
  rw [and_15 (w / 1048576) (by omega) (by omega), and_15 (w / 65536) (by omega) (by omega), and_15 w h0 h1, and_65535 w h0 h1, and_65520 w h0 h1, wrap_i16]
  generalize (Hfind.rowAt k).2.1 = s
  have e1 : wrap64 (w / 1048576 % 16) = dA w := by unfold wrap64 dA; omega
  have e2 : wrap64 (w / 65536 % 16) = dB w := by unfold wrap64 dB; omega
  have e3 : wrap64 (w % 16) = w % 16 := by unfold wrap64; omega
  have e4 : wrap64 (w % 65536 - w % 16) = w % 65536 - w % 16 := by unfold wrap64; omega
  have e5 : wrap64 (w % 65536) = w % 65536 := by unfold wrap64; omega
  have e6 : wrap64 (if 32768 ≤ w % 65536 then w % 65536 - 65536 else w % 65536) = (if 32768 ≤ w % 65536 then w % 65536 - 65536 else w % 65536) := by split <;> (unfold wrap64; omega)
  simp only [Option.bind_some, if_true, e1, e2, e3, e4, e5, e6]
  by_cases s6 : s = 6
  · subst s6
    simp only [dC, dM]
    simp
    repeat' split
    all_goals rfl
  · by_cases s3 : s = 3
    · subst s3
      simp only [dC, dM]
      simp
      repeat' split
      all_goals rfl
    · rw [if_neg s6, if_neg s3]
      simp only [dC, dM, s6, s3, if_false]
      repeat' split
      all_goals rfl
theorem decode_else (w : Int) (h0 : 0 ≤ w) (h1 : w < 4294967296) (h : ¬ (1 ≤ w / 16777216 ∧ w / 16777216 ≤ 58)) : word_Decode.f w = some (0, 0, 0, 0, 0, 60) := by
  unfold word_Decode.f
  have hw : wrap64 (w / 16777216) = w / 16777216 := by unfold wrap64; omega
  rw [hw, find_else _ h]
  simp
theorem wrap_in {i : Int} {n : Nat} (h0 : 0 ≤ i) (h : i < (n : Int)) (hn : n ≤ 9223372036854775807) : wrap64 (i + 1) = i + 1 := by
  unfold wrap64; omega
end Go.Proofs.Ythjfmlehkcccfaa.Q
end

section
/-
  What rotaref06.Decode comes to, walked by hand.
-/
set_option linter.unusedVariables false
set_option linter.unusedSimpArgs false
namespace Go.Proofs.Ythjfmlehkcccfaa.Hdec
open Go.RowKit Go.Proofs.YthjfmlehkcccfaaW.PrintWords Go.Proofs.Ythjfmlehkcccfaa.GA
open Hfind (bcell)

def fitB (n : Int) (h : Bool) : Bool := n == 0 || (h && (decide (0 < n) && decide (n < 16)))
theorem fits_calls (n : Int) (h : Bool) (w : World) : Calls Try.prog 42 #[.int .i64 n, .bool h] w fun e w' => e = .returned (.bool (fitB n h)) ∧ Drawn0 w w' :=
  rotaref06_fits.calls n h _ w (Q.ref_fits n h)

theorem Below.drewN' {B : Nat} {a w : World} (h : Below B a w) (n : Nat) : Below B a (w.drewN n) := ⟨h.os, h.tape, h.output, h.size, h.block⟩
set_option maxHeartbeats 4000000 in
set_option maxRecDepth 100000 in
theorem dec_out (w0 : Int) (h0 : 0 ≤ w0) (h1 : w0 < 4294967296) (n1 : ByteArray) (s1 c1 : Int) (r1 r2 : ByteArray) (ht : rotaref06_table.f (w0 / 16777216) = some (n1, s1, c1, r1, r2, false)) (w : World) :
    Calls Try.prog 22 #[.int .u32 w0] w fun e w' => e = .returned (.tuple #[.agg #[.int .i64 0, .int .i64 0, .int .i64 0, .int .i64 0, .int .i64 0], .int .i64 60]) ∧ Below w.heap.size w w' := by
  have hu := Try.underlying37
  have hu86 := Try.underlying86
  have HT := Lib.hid ht
  clear ht
  go_enter Try.func22, Try.ntmps22
  go_wp2_with (first | (go_at_call 40; refine (rotaref06_table.calls _ _ _ _ _ _ _ _ HT.out).mono ?_; rintro e w' ⟨rfl, hb⟩; obtain ⟨hc, hf⟩ := bcell hb; have hz : w.heap.size + 1 < w'.heap.size := (by have := hb.size; simp at this; omega); have hz0 : w.heap.size < w'.heap.size := (by omega)))
  refine bodyPost_ret (results_ct rfl _ _ w.heap.size 37 #[.int .i64 0, .int .i64 0, .int .i64 0, .int .i64 0, .int .i64 0] (0, 0) _ rfl ?hbl hu rfl (by kernel_rfl)) rfl ⟨rfl, ?_⟩
  case hbl =>
    repeat (first | (with_reducible refine blk_drewN ?_ _) | (with_reducible refine blk_alloc ?_ _))
    with_reducible refine blk_put (cs := #[.int .i64 0, .int .i64 0, .int .i64 0, .int .i64 0, .int .i64 0]) ?_ 4 _ rfl
    with_reducible refine blk_put (cs := #[.int .i64 0, .int .i64 0, .int .i64 0, .int .i64 0, .int .i64 0]) ?_ 3 _ rfl
    with_reducible refine blk_put (cs := #[.int .i64 0, .int .i64 0, .int .i64 0, .int .i64 0, .int .i64 0]) ?_ 2 _ rfl
    with_reducible refine blk_put (cs := #[.int .i64 0, .int .i64 0, .int .i64 0, .int .i64 0, .int .i64 0]) ?_ 1 _ rfl
    with_reducible refine blk_put (cs := #[.int .i64 0, .int .i64 0, .int .i64 0, .int .i64 0, .int .i64 0]) ?_ 0 _ rfl
    repeat (first | (with_reducible refine blk_drewN ?_ _) | (with_reducible refine blk_alloc ?_ _) | (with_reducible refine blk_far ?_ (by simp) _))
    exact blk_below (blk_alloc (blk_new _ _) _) hb
  repeat (first | (with_reducible refine Below.drewN' ?_ _) | (with_reducible refine Below.setCell ?_ (by simp) _) | (with_reducible refine Below.alloc ?_ (by first | omega | (simp; omega)) _))
  exact (((Below.refl w.heap.size w).alloc (Nat.le_refl _) _).alloc (by simp) _).trans (hb.mono (by simp; omega))
set_option maxHeartbeats 4000000 in
set_option maxRecDepth 100000 in
theorem dec_c0 (w0 : Int) (h0 : 0 ≤ w0) (h1 : w0 < 4294967296) (n1 : ByteArray) (s1 c1 : Int) (r1 r2 : ByteArray) (ht : rotaref06_table.f (w0 / 16777216) = some (n1, s1, c1, r1, r2, true)) (A B C : Bool) (lo hi : Int) (hh : rotaref06_Has.f s1 = some (A, B, C, lo, hi)) (hC : C = true) (f0 : fitB (w0 / 1048576 % 16) A = false) (w : World) :
    Calls Try.prog 22 #[.int .u32 w0] w fun e w' => e = .returned (.tuple #[.agg #[.int .i64 0, .int .i64 0, .int .i64 0, .int .i64 0, .int .i64 0], .int .i64 61]) ∧ Below w.heap.size w w' := by
  have hu := Try.underlying37
  have hu86 := Try.underlying86
  have HT := Lib.hid ht
  clear ht
  have HH := Lib.hid hh
  clear hh
  subst hC
  go_enter Try.func22, Try.ntmps22
  go_wp2_with (first | (go_at_call 40; refine (rotaref06_table.calls _ _ _ _ _ _ _ _ HT.out).mono ?_; rintro e w' ⟨rfl, hb⟩; obtain ⟨hc, hf⟩ := bcell hb; have hz : w.heap.size + 1 < w'.heap.size := (by have := hb.size; simp at this; omega); have hz0 : w.heap.size < w'.heap.size := (by omega)) | (go_at_call 41; refine (rotaref06_Has.calls _ _ _ _ _ _ _ HH.out).mono ?_; rintro e w2 ⟨rfl, ⟨nd, rfl⟩⟩) | (go_at_call 42; refine (fits_calls _ _ _).mono ?_; rintro e w3 ⟨rfl, ⟨nd3, rfl⟩⟩))
  refine bodyPost_ret (results_ct rfl _ _ w.heap.size 37 #[.int .i64 0, .int .i64 0, .int .i64 0, .int .i64 0, .int .i64 0] (0, 0) _ rfl ?hbl hu rfl (by kernel_rfl)) rfl ⟨rfl, ?_⟩
  case hbl =>
    repeat (first | (with_reducible refine blk_drewN ?_ _) | (with_reducible refine blk_alloc ?_ _))
    with_reducible refine blk_put (cs := #[.int .i64 0, .int .i64 0, .int .i64 0, .int .i64 0, .int .i64 0]) ?_ 4 _ rfl
    with_reducible refine blk_put (cs := #[.int .i64 0, .int .i64 0, .int .i64 0, .int .i64 0, .int .i64 0]) ?_ 3 _ rfl
    with_reducible refine blk_put (cs := #[.int .i64 0, .int .i64 0, .int .i64 0, .int .i64 0, .int .i64 0]) ?_ 2 _ rfl
    with_reducible refine blk_put (cs := #[.int .i64 0, .int .i64 0, .int .i64 0, .int .i64 0, .int .i64 0]) ?_ 1 _ rfl
    with_reducible refine blk_put (cs := #[.int .i64 0, .int .i64 0, .int .i64 0, .int .i64 0, .int .i64 0]) ?_ 0 _ rfl
    repeat (first | (with_reducible refine blk_drewN ?_ _) | (with_reducible refine blk_alloc ?_ _) | (with_reducible refine blk_far ?_ (by simp) _))
    exact blk_below (blk_alloc (blk_new _ _) _) hb
  repeat (first | (with_reducible refine Below.drewN' ?_ _) | (with_reducible refine Below.setCell ?_ (by simp) _) | (with_reducible refine Below.alloc ?_ (by first | omega | (simp; omega)) _))
  exact (((Below.refl w.heap.size w).alloc (Nat.le_refl _) _).alloc (by simp) _).trans (hb.mono (by simp; omega))
set_option maxHeartbeats 4000000 in
set_option maxRecDepth 100000 in
theorem dec_c1 (w0 : Int) (h0 : 0 ≤ w0) (h1 : w0 < 4294967296) (n1 : ByteArray) (s1 c1 : Int) (r1 r2 : ByteArray) (ht : rotaref06_table.f (w0 / 16777216) = some (n1, s1, c1, r1, r2, true)) (A B C : Bool) (lo hi : Int) (hh : rotaref06_Has.f s1 = some (A, B, C, lo, hi)) (hC : C = true) (f0 : fitB (w0 / 1048576 % 16) A = true) (f1 : fitB (w0 / 65536 % 16) B = false) (w : World) :
    Calls Try.prog 22 #[.int .u32 w0] w fun e w' => e = .returned (.tuple #[.agg #[.int .i64 0, .int .i64 0, .int .i64 0, .int .i64 0, .int .i64 0], .int .i64 61]) ∧ Below w.heap.size w w' := by
  have hu := Try.underlying37
  have hu86 := Try.underlying86
  have HT := Lib.hid ht
  clear ht
  have HH := Lib.hid hh
  clear hh
  subst hC
  go_enter Try.func22, Try.ntmps22
  go_wp2_with (first | (go_at_call 40; refine (rotaref06_table.calls _ _ _ _ _ _ _ _ HT.out).mono ?_; rintro e w' ⟨rfl, hb⟩; obtain ⟨hc, hf⟩ := bcell hb; have hz : w.heap.size + 1 < w'.heap.size := (by have := hb.size; simp at this; omega); have hz0 : w.heap.size < w'.heap.size := (by omega)) | (go_at_call 41; refine (rotaref06_Has.calls _ _ _ _ _ _ _ HH.out).mono ?_; rintro e w2 ⟨rfl, ⟨nd, rfl⟩⟩) | (go_at_call 42; refine (fits_calls _ _ _).mono ?_; rintro e w3 ⟨rfl, ⟨nd3, rfl⟩⟩))
  refine bodyPost_ret (results_ct rfl _ _ w.heap.size 37 #[.int .i64 0, .int .i64 0, .int .i64 0, .int .i64 0, .int .i64 0] (0, 0) _ rfl ?hbl hu rfl (by kernel_rfl)) rfl ⟨rfl, ?_⟩
  case hbl =>
    repeat (first | (with_reducible refine blk_drewN ?_ _) | (with_reducible refine blk_alloc ?_ _))
    with_reducible refine blk_put (cs := #[.int .i64 0, .int .i64 0, .int .i64 0, .int .i64 0, .int .i64 0]) ?_ 4 _ rfl
    with_reducible refine blk_put (cs := #[.int .i64 0, .int .i64 0, .int .i64 0, .int .i64 0, .int .i64 0]) ?_ 3 _ rfl
    with_reducible refine blk_put (cs := #[.int .i64 0, .int .i64 0, .int .i64 0, .int .i64 0, .int .i64 0]) ?_ 2 _ rfl
    with_reducible refine blk_put (cs := #[.int .i64 0, .int .i64 0, .int .i64 0, .int .i64 0, .int .i64 0]) ?_ 1 _ rfl
    with_reducible refine blk_put (cs := #[.int .i64 0, .int .i64 0, .int .i64 0, .int .i64 0, .int .i64 0]) ?_ 0 _ rfl
    repeat (first | (with_reducible refine blk_drewN ?_ _) | (with_reducible refine blk_alloc ?_ _) | (with_reducible refine blk_far ?_ (by simp) _))
    exact blk_below (blk_alloc (blk_new _ _) _) hb
  repeat (first | (with_reducible refine Below.drewN' ?_ _) | (with_reducible refine Below.setCell ?_ (by simp) _) | (with_reducible refine Below.alloc ?_ (by first | omega | (simp; omega)) _))
  exact (((Below.refl w.heap.size w).alloc (Nat.le_refl _) _).alloc (by simp) _).trans (hb.mono (by simp; omega))
set_option maxHeartbeats 4000000 in
set_option maxRecDepth 100000 in
theorem dec_c2 (w0 : Int) (h0 : 0 ≤ w0) (h1 : w0 < 4294967296) (n1 : ByteArray) (s1 c1 : Int) (r1 r2 : ByteArray) (ht : rotaref06_table.f (w0 / 16777216) = some (n1, s1, c1, r1, r2, true)) (A B C : Bool) (lo hi : Int) (hh : rotaref06_Has.f s1 = some (A, B, C, lo, hi)) (hC : C = true) (f0 : fitB (w0 / 1048576 % 16) A = true) (f1 : fitB (w0 / 65536 % 16) B = true) (f2 : fitB (w0 % 65536) true = false) (w : World) :
    Calls Try.prog 22 #[.int .u32 w0] w fun e w' => e = .returned (.tuple #[.agg #[.int .i64 0, .int .i64 0, .int .i64 0, .int .i64 0, .int .i64 0], .int .i64 61]) ∧ Below w.heap.size w w' := by
  have hu := Try.underlying37
  have hu86 := Try.underlying86
  have HT := Lib.hid ht
  clear ht
  have HH := Lib.hid hh
  clear hh
  subst hC
  go_enter Try.func22, Try.ntmps22
  go_wp2_with (first | (go_at_call 40; refine (rotaref06_table.calls _ _ _ _ _ _ _ _ HT.out).mono ?_; rintro e w' ⟨rfl, hb⟩; obtain ⟨hc, hf⟩ := bcell hb; have hz : w.heap.size + 1 < w'.heap.size := (by have := hb.size; simp at this; omega); have hz0 : w.heap.size < w'.heap.size := (by omega)) | (go_at_call 41; refine (rotaref06_Has.calls _ _ _ _ _ _ _ HH.out).mono ?_; rintro e w2 ⟨rfl, ⟨nd, rfl⟩⟩) | (go_at_call 42; refine (fits_calls _ _ _).mono ?_; rintro e w3 ⟨rfl, ⟨nd3, rfl⟩⟩))
  refine bodyPost_ret (results_ct rfl _ _ w.heap.size 37 #[.int .i64 0, .int .i64 0, .int .i64 0, .int .i64 0, .int .i64 0] (0, 0) _ rfl ?hbl hu rfl (by kernel_rfl)) rfl ⟨rfl, ?_⟩
  case hbl =>
    repeat (first | (with_reducible refine blk_drewN ?_ _) | (with_reducible refine blk_alloc ?_ _))
    with_reducible refine blk_put (cs := #[.int .i64 0, .int .i64 0, .int .i64 0, .int .i64 0, .int .i64 0]) ?_ 4 _ rfl
    with_reducible refine blk_put (cs := #[.int .i64 0, .int .i64 0, .int .i64 0, .int .i64 0, .int .i64 0]) ?_ 3 _ rfl
    with_reducible refine blk_put (cs := #[.int .i64 0, .int .i64 0, .int .i64 0, .int .i64 0, .int .i64 0]) ?_ 2 _ rfl
    with_reducible refine blk_put (cs := #[.int .i64 0, .int .i64 0, .int .i64 0, .int .i64 0, .int .i64 0]) ?_ 1 _ rfl
    with_reducible refine blk_put (cs := #[.int .i64 0, .int .i64 0, .int .i64 0, .int .i64 0, .int .i64 0]) ?_ 0 _ rfl
    repeat (first | (with_reducible refine blk_drewN ?_ _) | (with_reducible refine blk_alloc ?_ _) | (with_reducible refine blk_far ?_ (by simp) _))
    exact blk_below (blk_alloc (blk_new _ _) _) hb
  repeat (first | (with_reducible refine Below.drewN' ?_ _) | (with_reducible refine Below.setCell ?_ (by simp) _) | (with_reducible refine Below.alloc ?_ (by first | omega | (simp; omega)) _))
  exact (((Below.refl w.heap.size w).alloc (Nat.le_refl _) _).alloc (by simp) _).trans (hb.mono (by simp; omega))
set_option maxHeartbeats 4000000 in
set_option maxRecDepth 100000 in
theorem dec_c3 (w0 : Int) (h0 : 0 ≤ w0) (h1 : w0 < 4294967296) (n1 : ByteArray) (s1 c1 : Int) (r1 r2 : ByteArray) (ht : rotaref06_table.f (w0 / 16777216) = some (n1, s1, c1, r1, r2, true)) (A B C : Bool) (lo hi : Int) (hh : rotaref06_Has.f s1 = some (A, B, C, lo, hi)) (hC : C = true) (f0 : fitB (w0 / 1048576 % 16) A = true) (f1 : fitB (w0 / 65536 % 16) B = true) (f2 : fitB (w0 % 65536) true = true) (w : World) :
    Calls Try.prog 22 #[.int .u32 w0] w fun e w' => e = .returned (.tuple #[.agg #[.int .i64 (w0 / 16777216), .int .i64 (w0 / 1048576 % 16), .int .i64 (w0 / 65536 % 16), .int .i64 (w0 % 65536), .int .i64 0], .int .i64 0]) ∧ Below w.heap.size w w' := by
  have hu := Try.underlying37
  have hu86 := Try.underlying86
  have HT := Lib.hid ht
  clear ht
  have HH := Lib.hid hh
  clear hh
  subst hC
  go_enter Try.func22, Try.ntmps22
  go_wp2_with (first | (go_at_call 40; refine (rotaref06_table.calls _ _ _ _ _ _ _ _ HT.out).mono ?_; rintro e w' ⟨rfl, hb⟩; obtain ⟨hc, hf⟩ := bcell hb; have hz : w.heap.size + 1 < w'.heap.size := (by have := hb.size; simp at this; omega); have hz0 : w.heap.size < w'.heap.size := (by omega)) | (go_at_call 41; refine (rotaref06_Has.calls _ _ _ _ _ _ _ HH.out).mono ?_; rintro e w2 ⟨rfl, ⟨nd, rfl⟩⟩) | (go_at_call 42; refine (fits_calls _ _ _).mono ?_; rintro e w3 ⟨rfl, ⟨nd3, rfl⟩⟩))
  refine bodyPost_ret (results_ct rfl _ _ w.heap.size 37 #[.int .i64 (w0 / 16777216), .int .i64 (w0 / 1048576 % 16), .int .i64 (w0 / 65536 % 16), .int .i64 (w0 % 65536), .int .i64 0] (0, 0) _ rfl ?hbl hu rfl (by kernel_rfl)) rfl ⟨rfl, ?_⟩
  case hbl =>
    repeat (first | (with_reducible refine blk_drewN ?_ _) | (with_reducible refine blk_alloc ?_ _))
    with_reducible refine blk_put (cs := #[.int .i64 (w0 / 16777216), .int .i64 (w0 / 1048576 % 16), .int .i64 (w0 / 65536 % 16), .int .i64 (w0 % 65536), .int .i64 0]) ?_ 4 _ rfl
    with_reducible refine blk_put (cs := #[.int .i64 (w0 / 16777216), .int .i64 (w0 / 1048576 % 16), .int .i64 (w0 / 65536 % 16), .int .i64 0, .int .i64 0]) ?_ 3 _ rfl
    with_reducible refine blk_put (cs := #[.int .i64 (w0 / 16777216), .int .i64 (w0 / 1048576 % 16), .int .i64 0, .int .i64 0, .int .i64 0]) ?_ 2 _ rfl
    with_reducible refine blk_put (cs := #[.int .i64 (w0 / 16777216), .int .i64 0, .int .i64 0, .int .i64 0, .int .i64 0]) ?_ 1 _ rfl
    with_reducible refine blk_put (cs := #[.int .i64 0, .int .i64 0, .int .i64 0, .int .i64 0, .int .i64 0]) ?_ 0 _ rfl
    repeat (first | (with_reducible refine blk_drewN ?_ _) | (with_reducible refine blk_alloc ?_ _) | (with_reducible refine blk_far ?_ (by simp) _))
    exact blk_below (blk_alloc (blk_new _ _) _) hb
  repeat (first | (with_reducible refine Below.drewN' ?_ _) | (with_reducible refine Below.setCell ?_ (by simp) _) | (with_reducible refine Below.alloc ?_ (by first | omega | (simp; omega)) _))
  exact (((Below.refl w.heap.size w).alloc (Nat.le_refl _) _).alloc (by simp) _).trans (hb.mono (by simp; omega))
set_option maxHeartbeats 4000000 in
set_option maxRecDepth 100000 in
theorem dec_n0 (w0 : Int) (h0 : 0 ≤ w0) (h1 : w0 < 4294967296) (n1 : ByteArray) (s1 c1 : Int) (r1 r2 : ByteArray) (ht : rotaref06_table.f (w0 / 16777216) = some (n1, s1, c1, r1, r2, true)) (A B C : Bool) (lo hi : Int) (hh : rotaref06_Has.f s1 = some (A, B, C, lo, hi)) (hC : C = false) (hhi : 0 < hi) (hl : lo < 0) (hw : hi < w0 % 65536) (f0 : fitB (w0 / 1048576 % 16) A = false) (w : World) :
    Calls Try.prog 22 #[.int .u32 w0] w fun e w' => e = .returned (.tuple #[.agg #[.int .i64 0, .int .i64 0, .int .i64 0, .int .i64 0, .int .i64 0], .int .i64 61]) ∧ Below w.heap.size w w' := by
  have hu := Try.underlying37
  have hu86 := Try.underlying86
  have HT := Lib.hid ht
  clear ht
  have HH := Lib.hid hh
  clear hh
  subst hC
  go_enter Try.func22, Try.ntmps22
  go_wp2_with (first | (go_at_call 40; refine (rotaref06_table.calls _ _ _ _ _ _ _ _ HT.out).mono ?_; rintro e w' ⟨rfl, hb⟩; obtain ⟨hc, hf⟩ := bcell hb; have hz : w.heap.size + 1 < w'.heap.size := (by have := hb.size; simp at this; omega); have hz0 : w.heap.size < w'.heap.size := (by omega)) | (go_at_call 41; refine (rotaref06_Has.calls _ _ _ _ _ _ _ HH.out).mono ?_; rintro e w2 ⟨rfl, ⟨nd, rfl⟩⟩) | (go_at_call 42; refine (fits_calls _ _ _).mono ?_; rintro e w3 ⟨rfl, ⟨nd3, rfl⟩⟩))
  refine bodyPost_ret (results_ct rfl _ _ w.heap.size 37 #[.int .i64 0, .int .i64 0, .int .i64 0, .int .i64 0, .int .i64 0] (0, 0) _ rfl ?hbl hu rfl (by kernel_rfl)) rfl ⟨rfl, ?_⟩
  case hbl =>
    repeat (first | (with_reducible refine blk_drewN ?_ _) | (with_reducible refine blk_alloc ?_ _))
    with_reducible refine blk_put (cs := #[.int .i64 0, .int .i64 0, .int .i64 0, .int .i64 0, .int .i64 0]) ?_ 4 _ rfl
    with_reducible refine blk_put (cs := #[.int .i64 0, .int .i64 0, .int .i64 0, .int .i64 0, .int .i64 0]) ?_ 3 _ rfl
    with_reducible refine blk_put (cs := #[.int .i64 0, .int .i64 0, .int .i64 0, .int .i64 0, .int .i64 0]) ?_ 2 _ rfl
    with_reducible refine blk_put (cs := #[.int .i64 0, .int .i64 0, .int .i64 0, .int .i64 0, .int .i64 0]) ?_ 1 _ rfl
    with_reducible refine blk_put (cs := #[.int .i64 0, .int .i64 0, .int .i64 0, .int .i64 0, .int .i64 0]) ?_ 0 _ rfl
    repeat (first | (with_reducible refine blk_drewN ?_ _) | (with_reducible refine blk_alloc ?_ _) | (with_reducible refine blk_far ?_ (by simp) _))
    exact blk_below (blk_alloc (blk_new _ _) _) hb
  repeat (first | (with_reducible refine Below.drewN' ?_ _) | (with_reducible refine Below.setCell ?_ (by simp) _) | (with_reducible refine Below.alloc ?_ (by first | omega | (simp; omega)) _))
  exact (((Below.refl w.heap.size w).alloc (Nat.le_refl _) _).alloc (by simp) _).trans (hb.mono (by simp; omega))
set_option maxHeartbeats 4000000 in
set_option maxRecDepth 100000 in
theorem dec_n1 (w0 : Int) (h0 : 0 ≤ w0) (h1 : w0 < 4294967296) (n1 : ByteArray) (s1 c1 : Int) (r1 r2 : ByteArray) (ht : rotaref06_table.f (w0 / 16777216) = some (n1, s1, c1, r1, r2, true)) (A B C : Bool) (lo hi : Int) (hh : rotaref06_Has.f s1 = some (A, B, C, lo, hi)) (hC : C = false) (hhi : 0 < hi) (hl : lo < 0) (hw : hi < w0 % 65536) (f0 : fitB (w0 / 1048576 % 16) A = true) (f1 : fitB (w0 / 65536 % 16) B = false) (w : World) :
    Calls Try.prog 22 #[.int .u32 w0] w fun e w' => e = .returned (.tuple #[.agg #[.int .i64 0, .int .i64 0, .int .i64 0, .int .i64 0, .int .i64 0], .int .i64 61]) ∧ Below w.heap.size w w' := by
  have hu := Try.underlying37
  have hu86 := Try.underlying86
  have HT := Lib.hid ht
  clear ht
  have HH := Lib.hid hh
  clear hh
  subst hC
  go_enter Try.func22, Try.ntmps22
  go_wp2_with (first | (go_at_call 40; refine (rotaref06_table.calls _ _ _ _ _ _ _ _ HT.out).mono ?_; rintro e w' ⟨rfl, hb⟩; obtain ⟨hc, hf⟩ := bcell hb; have hz : w.heap.size + 1 < w'.heap.size := (by have := hb.size; simp at this; omega); have hz0 : w.heap.size < w'.heap.size := (by omega)) | (go_at_call 41; refine (rotaref06_Has.calls _ _ _ _ _ _ _ HH.out).mono ?_; rintro e w2 ⟨rfl, ⟨nd, rfl⟩⟩) | (go_at_call 42; refine (fits_calls _ _ _).mono ?_; rintro e w3 ⟨rfl, ⟨nd3, rfl⟩⟩))
  refine bodyPost_ret (results_ct rfl _ _ w.heap.size 37 #[.int .i64 0, .int .i64 0, .int .i64 0, .int .i64 0, .int .i64 0] (0, 0) _ rfl ?hbl hu rfl (by kernel_rfl)) rfl ⟨rfl, ?_⟩
  case hbl =>
    repeat (first | (with_reducible refine blk_drewN ?_ _) | (with_reducible refine blk_alloc ?_ _))
    with_reducible refine blk_put (cs := #[.int .i64 0, .int .i64 0, .int .i64 0, .int .i64 0, .int .i64 0]) ?_ 4 _ rfl
    with_reducible refine blk_put (cs := #[.int .i64 0, .int .i64 0, .int .i64 0, .int .i64 0, .int .i64 0]) ?_ 3 _ rfl
    with_reducible refine blk_put (cs := #[.int .i64 0, .int .i64 0, .int .i64 0, .int .i64 0, .int .i64 0]) ?_ 2 _ rfl
    with_reducible refine blk_put (cs := #[.int .i64 0, .int .i64 0, .int .i64 0, .int .i64 0, .int .i64 0]) ?_ 1 _ rfl
    with_reducible refine blk_put (cs := #[.int .i64 0, .int .i64 0, .int .i64 0, .int .i64 0, .int .i64 0]) ?_ 0 _ rfl
    repeat (first | (with_reducible refine blk_drewN ?_ _) | (with_reducible refine blk_alloc ?_ _) | (with_reducible refine blk_far ?_ (by simp) _))
    exact blk_below (blk_alloc (blk_new _ _) _) hb
  repeat (first | (with_reducible refine Below.drewN' ?_ _) | (with_reducible refine Below.setCell ?_ (by simp) _) | (with_reducible refine Below.alloc ?_ (by first | omega | (simp; omega)) _))
  exact (((Below.refl w.heap.size w).alloc (Nat.le_refl _) _).alloc (by simp) _).trans (hb.mono (by simp; omega))
set_option maxHeartbeats 4000000 in
set_option maxRecDepth 100000 in
theorem dec_n3 (w0 : Int) (h0 : 0 ≤ w0) (h1 : w0 < 4294967296) (n1 : ByteArray) (s1 c1 : Int) (r1 r2 : ByteArray) (ht : rotaref06_table.f (w0 / 16777216) = some (n1, s1, c1, r1, r2, true)) (A B C : Bool) (lo hi : Int) (hh : rotaref06_Has.f s1 = some (A, B, C, lo, hi)) (hC : C = false) (hhi : 0 < hi) (hl : lo < 0) (hw : hi < w0 % 65536) (f0 : fitB (w0 / 1048576 % 16) A = true) (f1 : fitB (w0 / 65536 % 16) B = true) (f2 : fitB 0 false = true) (w : World) :
    Calls Try.prog 22 #[.int .u32 w0] w fun e w' => e = .returned (.tuple #[.agg #[.int .i64 (w0 / 16777216), .int .i64 (w0 / 1048576 % 16), .int .i64 (w0 / 65536 % 16), .int .i64 0, .int .i64 (w0 % 65536 - 65536)], .int .i64 0]) ∧ Below w.heap.size w w' := by
  have hu := Try.underlying37
  have hu86 := Try.underlying86
  have HT := Lib.hid ht
  clear ht
  have HH := Lib.hid hh
  clear hh
  subst hC
  go_enter Try.func22, Try.ntmps22
  go_wp2_with (first | (go_at_call 40; refine (rotaref06_table.calls _ _ _ _ _ _ _ _ HT.out).mono ?_; rintro e w' ⟨rfl, hb⟩; obtain ⟨hc, hf⟩ := bcell hb; have hz : w.heap.size + 1 < w'.heap.size := (by have := hb.size; simp at this; omega); have hz0 : w.heap.size < w'.heap.size := (by omega)) | (go_at_call 41; refine (rotaref06_Has.calls _ _ _ _ _ _ _ HH.out).mono ?_; rintro e w2 ⟨rfl, ⟨nd, rfl⟩⟩))
  generalize hW2 : World.setCell _ ⟨w.heap.size + 1, 4, none⟩ (.int .i64 (w0 % 65536 - 65536)) = W2
  have hb1 : W2.heap[w.heap.size + 1]? = some (.cells #[.int .i64 (w0 / 16777216), .int .i64 (w0 / 1048576 % 16), .int .i64 (w0 / 65536 % 16), .int .i64 0, .int .i64 (w0 % 65536 - 65536)] 37 (0, 0)) := by
    subst hW2
    with_reducible refine blk_put (cs := #[.int .i64 (w0 / 16777216), .int .i64 (w0 / 1048576 % 16), .int .i64 (w0 / 65536 % 16), .int .i64 0, .int .i64 (w0 % 65536)]) ?_ 4 _ rfl
    with_reducible refine blk_put (cs := #[.int .i64 (w0 / 16777216), .int .i64 (w0 / 1048576 % 16), .int .i64 (w0 / 65536 % 16), .int .i64 0, .int .i64 0]) ?_ 4 _ rfl
    with_reducible refine blk_put (cs := #[.int .i64 (w0 / 16777216), .int .i64 (w0 / 1048576 % 16), .int .i64 0, .int .i64 0, .int .i64 0]) ?_ 2 _ rfl
    with_reducible refine blk_put (cs := #[.int .i64 (w0 / 16777216), .int .i64 0, .int .i64 0, .int .i64 0, .int .i64 0]) ?_ 1 _ rfl
    repeat (first | (with_reducible refine blk_drewN ?_ _) | (with_reducible refine blk_alloc ?_ _))
    exact blk_below (heap_alloc2_new _ _ _) hb
  have hb0 : W2.heap[w.heap.size]? = some (.cells #[.int .i64 0, .int .i64 0, .int .i64 0, .int .i64 0, .int .i64 0] 37 (0, 0)) := by
    subst hW2
    repeat (first | (with_reducible refine blk_drewN ?_ _) | (with_reducible refine blk_alloc ?_ _) | (with_reducible refine blk_far ?_ (by simp) _))
    exact blk_below (blk_alloc (blk_new _ _) _) hb
  have hbel : Below w.heap.size w W2 := by
    subst hW2
    repeat (first | (with_reducible refine Below.drewN' ?_ _) | (with_reducible refine Below.setCell ?_ (by simp) _) | (with_reducible refine Below.alloc ?_ (by first | omega | (simp; omega)) _))
    exact (((Below.refl w.heap.size w).alloc (Nat.le_refl _) _).alloc (by simp) _).trans (hb.mono (by simp; omega))
  clear hW2
  have k0 : W2.cell? ⟨w.heap.size + 1, 0, none⟩ = some (.int .i64 (w0 / 16777216)) := (blk_cell hb1 0).trans rfl
  have l0 : W2.cell? ⟨w.heap.size, 0, none⟩ = some (.int .i64 0) := (blk_cell hb0 0).trans rfl
  have m0 : W2.frozen? ⟨w.heap.size, 0, none⟩ = false := frozen_of_row _ _ _ _ _ hb0
  have k1 : W2.cell? ⟨w.heap.size + 1, 1, none⟩ = some (.int .i64 (w0 / 1048576 % 16)) := (blk_cell hb1 1).trans rfl
  have l1 : W2.cell? ⟨w.heap.size, 1, none⟩ = some (.int .i64 0) := (blk_cell hb0 1).trans rfl
  have m1 : W2.frozen? ⟨w.heap.size, 1, none⟩ = false := frozen_of_row _ _ _ _ _ hb0
  have k2 : W2.cell? ⟨w.heap.size + 1, 2, none⟩ = some (.int .i64 (w0 / 65536 % 16)) := (blk_cell hb1 2).trans rfl
  have l2 : W2.cell? ⟨w.heap.size, 2, none⟩ = some (.int .i64 0) := (blk_cell hb0 2).trans rfl
  have m2 : W2.frozen? ⟨w.heap.size, 2, none⟩ = false := frozen_of_row _ _ _ _ _ hb0
  have k3 : W2.cell? ⟨w.heap.size + 1, 3, none⟩ = some (.int .i64 0) := (blk_cell hb1 3).trans rfl
  have l3 : W2.cell? ⟨w.heap.size, 3, none⟩ = some (.int .i64 0) := (blk_cell hb0 3).trans rfl
  have m3 : W2.frozen? ⟨w.heap.size, 3, none⟩ = false := frozen_of_row _ _ _ _ _ hb0
  have k4 : W2.cell? ⟨w.heap.size + 1, 4, none⟩ = some (.int .i64 (w0 % 65536 - 65536)) := (blk_cell hb1 4).trans rfl
  have l4 : W2.cell? ⟨w.heap.size, 4, none⟩ = some (.int .i64 0) := (blk_cell hb0 4).trans rfl
  have m4 : W2.frozen? ⟨w.heap.size, 4, none⟩ = false := frozen_of_row _ _ _ _ _ hb0
  have HB0 := Lib.hid hb0
  have HB1 := Lib.hid hb1
  have HBE := hbel
  clear hb0 hb1 hc hf hb
  go_wp2_with (first | (go_at_call 42; refine (fits_calls _ _ _).mono ?_; rintro e w3 ⟨rfl, ⟨nd3, rfl⟩⟩))
  refine bodyPost_ret (results_ct rfl _ _ w.heap.size 37 #[.int .i64 (w0 / 16777216), .int .i64 (w0 / 1048576 % 16), .int .i64 (w0 / 65536 % 16), .int .i64 0, .int .i64 (w0 % 65536 - 65536)] (0, 0) _ rfl ?hbl hu rfl (by kernel_rfl)) rfl ⟨rfl, ?_⟩
  case hbl =>
    repeat (first | (with_reducible refine blk_drewN ?_ _) | (with_reducible refine blk_alloc ?_ _))
    with_reducible refine blk_put (cs := #[.int .i64 (w0 / 16777216), .int .i64 (w0 / 1048576 % 16), .int .i64 (w0 / 65536 % 16), .int .i64 0, .int .i64 0]) ?_ 4 _ rfl
    with_reducible refine blk_put (cs := #[.int .i64 (w0 / 16777216), .int .i64 (w0 / 1048576 % 16), .int .i64 (w0 / 65536 % 16), .int .i64 0, .int .i64 0]) ?_ 3 _ rfl
    with_reducible refine blk_put (cs := #[.int .i64 (w0 / 16777216), .int .i64 (w0 / 1048576 % 16), .int .i64 0, .int .i64 0, .int .i64 0]) ?_ 2 _ rfl
    with_reducible refine blk_put (cs := #[.int .i64 (w0 / 16777216), .int .i64 0, .int .i64 0, .int .i64 0, .int .i64 0]) ?_ 1 _ rfl
    with_reducible refine blk_put (cs := #[.int .i64 0, .int .i64 0, .int .i64 0, .int .i64 0, .int .i64 0]) ?_ 0 _ rfl
    repeat (first | (with_reducible refine blk_drewN ?_ _) | (with_reducible refine blk_alloc ?_ _) | (with_reducible refine blk_far ?_ (by simp) _))
    exact HB0.out
  repeat (first | (with_reducible refine Below.drewN' ?_ _) | (with_reducible refine Below.setCell ?_ (by simp) _) | (with_reducible refine Below.alloc ?_ (by first | omega | (simp; omega)) _))
  exact HBE
set_option maxHeartbeats 4000000 in
set_option maxRecDepth 100000 in
theorem dec_p0 (w0 : Int) (h0 : 0 ≤ w0) (h1 : w0 < 4294967296) (n1 : ByteArray) (s1 c1 : Int) (r1 r2 : ByteArray) (ht : rotaref06_table.f (w0 / 16777216) = some (n1, s1, c1, r1, r2, true)) (A B C : Bool) (lo hi : Int) (hh : rotaref06_Has.f s1 = some (A, B, C, lo, hi)) (hC : C = false) (hhi : 0 < hi) (hl : ¬ lo < 0) (f0 : fitB (w0 / 1048576 % 16) A = false) (w : World) :
    Calls Try.prog 22 #[.int .u32 w0] w fun e w' => e = .returned (.tuple #[.agg #[.int .i64 0, .int .i64 0, .int .i64 0, .int .i64 0, .int .i64 0], .int .i64 61]) ∧ Below w.heap.size w w' := by
  have hu := Try.underlying37
  have hu86 := Try.underlying86
  have HT := Lib.hid ht
  clear ht
  have HH := Lib.hid hh
  clear hh
  subst hC
  go_enter Try.func22, Try.ntmps22
  go_wp2_with (first | (go_at_call 40; refine (rotaref06_table.calls _ _ _ _ _ _ _ _ HT.out).mono ?_; rintro e w' ⟨rfl, hb⟩; obtain ⟨hc, hf⟩ := bcell hb; have hz : w.heap.size + 1 < w'.heap.size := (by have := hb.size; simp at this; omega); have hz0 : w.heap.size < w'.heap.size := (by omega)) | (go_at_call 41; refine (rotaref06_Has.calls _ _ _ _ _ _ _ HH.out).mono ?_; rintro e w2 ⟨rfl, ⟨nd, rfl⟩⟩) | (go_at_call 42; refine (fits_calls _ _ _).mono ?_; rintro e w3 ⟨rfl, ⟨nd3, rfl⟩⟩))
  refine bodyPost_ret (results_ct rfl _ _ w.heap.size 37 #[.int .i64 0, .int .i64 0, .int .i64 0, .int .i64 0, .int .i64 0] (0, 0) _ rfl ?hbl hu rfl (by kernel_rfl)) rfl ⟨rfl, ?_⟩
  case hbl =>
    repeat (first | (with_reducible refine blk_drewN ?_ _) | (with_reducible refine blk_alloc ?_ _))
    with_reducible refine blk_put (cs := #[.int .i64 0, .int .i64 0, .int .i64 0, .int .i64 0, .int .i64 0]) ?_ 4 _ rfl
    with_reducible refine blk_put (cs := #[.int .i64 0, .int .i64 0, .int .i64 0, .int .i64 0, .int .i64 0]) ?_ 3 _ rfl
    with_reducible refine blk_put (cs := #[.int .i64 0, .int .i64 0, .int .i64 0, .int .i64 0, .int .i64 0]) ?_ 2 _ rfl
    with_reducible refine blk_put (cs := #[.int .i64 0, .int .i64 0, .int .i64 0, .int .i64 0, .int .i64 0]) ?_ 1 _ rfl
    with_reducible refine blk_put (cs := #[.int .i64 0, .int .i64 0, .int .i64 0, .int .i64 0, .int .i64 0]) ?_ 0 _ rfl
    repeat (first | (with_reducible refine blk_drewN ?_ _) | (with_reducible refine blk_alloc ?_ _) | (with_reducible refine blk_far ?_ (by simp) _))
    exact blk_below (blk_alloc (blk_new _ _) _) hb
  repeat (first | (with_reducible refine Below.drewN' ?_ _) | (with_reducible refine Below.setCell ?_ (by simp) _) | (with_reducible refine Below.alloc ?_ (by first | omega | (simp; omega)) _))
  exact (((Below.refl w.heap.size w).alloc (Nat.le_refl _) _).alloc (by simp) _).trans (hb.mono (by simp; omega))
set_option maxHeartbeats 4000000 in
set_option maxRecDepth 100000 in
theorem dec_p1 (w0 : Int) (h0 : 0 ≤ w0) (h1 : w0 < 4294967296) (n1 : ByteArray) (s1 c1 : Int) (r1 r2 : ByteArray) (ht : rotaref06_table.f (w0 / 16777216) = some (n1, s1, c1, r1, r2, true)) (A B C : Bool) (lo hi : Int) (hh : rotaref06_Has.f s1 = some (A, B, C, lo, hi)) (hC : C = false) (hhi : 0 < hi) (hl : ¬ lo < 0) (f0 : fitB (w0 / 1048576 % 16) A = true) (f1 : fitB (w0 / 65536 % 16) B = false) (w : World) :
    Calls Try.prog 22 #[.int .u32 w0] w fun e w' => e = .returned (.tuple #[.agg #[.int .i64 0, .int .i64 0, .int .i64 0, .int .i64 0, .int .i64 0], .int .i64 61]) ∧ Below w.heap.size w w' := by
  have hu := Try.underlying37
  have hu86 := Try.underlying86
  have HT := Lib.hid ht
  clear ht
  have HH := Lib.hid hh
  clear hh
  subst hC
  go_enter Try.func22, Try.ntmps22
  go_wp2_with (first | (go_at_call 40; refine (rotaref06_table.calls _ _ _ _ _ _ _ _ HT.out).mono ?_; rintro e w' ⟨rfl, hb⟩; obtain ⟨hc, hf⟩ := bcell hb; have hz : w.heap.size + 1 < w'.heap.size := (by have := hb.size; simp at this; omega); have hz0 : w.heap.size < w'.heap.size := (by omega)) | (go_at_call 41; refine (rotaref06_Has.calls _ _ _ _ _ _ _ HH.out).mono ?_; rintro e w2 ⟨rfl, ⟨nd, rfl⟩⟩) | (go_at_call 42; refine (fits_calls _ _ _).mono ?_; rintro e w3 ⟨rfl, ⟨nd3, rfl⟩⟩))
  refine bodyPost_ret (results_ct rfl _ _ w.heap.size 37 #[.int .i64 0, .int .i64 0, .int .i64 0, .int .i64 0, .int .i64 0] (0, 0) _ rfl ?hbl hu rfl (by kernel_rfl)) rfl ⟨rfl, ?_⟩
  case hbl =>
    repeat (first | (with_reducible refine blk_drewN ?_ _) | (with_reducible refine blk_alloc ?_ _))
    with_reducible refine blk_put (cs := #[.int .i64 0, .int .i64 0, .int .i64 0, .int .i64 0, .int .i64 0]) ?_ 4 _ rfl
    with_reducible refine blk_put (cs := #[.int .i64 0, .int .i64 0, .int .i64 0, .int .i64 0, .int .i64 0]) ?_ 3 _ rfl
    with_reducible refine blk_put (cs := #[.int .i64 0, .int .i64 0, .int .i64 0, .int .i64 0, .int .i64 0]) ?_ 2 _ rfl
    with_reducible refine blk_put (cs := #[.int .i64 0, .int .i64 0, .int .i64 0, .int .i64 0, .int .i64 0]) ?_ 1 _ rfl
    with_reducible refine blk_put (cs := #[.int .i64 0, .int .i64 0, .int .i64 0, .int .i64 0, .int .i64 0]) ?_ 0 _ rfl
    repeat (first | (with_reducible refine blk_drewN ?_ _) | (with_reducible refine blk_alloc ?_ _) | (with_reducible refine blk_far ?_ (by simp) _))
    exact blk_below (blk_alloc (blk_new _ _) _) hb
  repeat (first | (with_reducible refine Below.drewN' ?_ _) | (with_reducible refine Below.setCell ?_ (by simp) _) | (with_reducible refine Below.alloc ?_ (by first | omega | (simp; omega)) _))
  exact (((Below.refl w.heap.size w).alloc (Nat.le_refl _) _).alloc (by simp) _).trans (hb.mono (by simp; omega))
set_option maxHeartbeats 4000000 in
set_option maxRecDepth 100000 in
theorem dec_p3 (w0 : Int) (h0 : 0 ≤ w0) (h1 : w0 < 4294967296) (n1 : ByteArray) (s1 c1 : Int) (r1 r2 : ByteArray) (ht : rotaref06_table.f (w0 / 16777216) = some (n1, s1, c1, r1, r2, true)) (A B C : Bool) (lo hi : Int) (hh : rotaref06_Has.f s1 = some (A, B, C, lo, hi)) (hC : C = false) (hhi : 0 < hi) (hl : ¬ lo < 0) (f0 : fitB (w0 / 1048576 % 16) A = true) (f1 : fitB (w0 / 65536 % 16) B = true) (f2 : fitB 0 false = true) (w : World) :
    Calls Try.prog 22 #[.int .u32 w0] w fun e w' => e = .returned (.tuple #[.agg #[.int .i64 (w0 / 16777216), .int .i64 (w0 / 1048576 % 16), .int .i64 (w0 / 65536 % 16), .int .i64 0, .int .i64 (w0 % 65536)], .int .i64 0]) ∧ Below w.heap.size w w' := by
  have hu := Try.underlying37
  have hu86 := Try.underlying86
  have HT := Lib.hid ht
  clear ht
  have HH := Lib.hid hh
  clear hh
  subst hC
  go_enter Try.func22, Try.ntmps22
  go_wp2_with (first | (go_at_call 40; refine (rotaref06_table.calls _ _ _ _ _ _ _ _ HT.out).mono ?_; rintro e w' ⟨rfl, hb⟩; obtain ⟨hc, hf⟩ := bcell hb; have hz : w.heap.size + 1 < w'.heap.size := (by have := hb.size; simp at this; omega); have hz0 : w.heap.size < w'.heap.size := (by omega)) | (go_at_call 41; refine (rotaref06_Has.calls _ _ _ _ _ _ _ HH.out).mono ?_; rintro e w2 ⟨rfl, ⟨nd, rfl⟩⟩) | (go_at_call 42; refine (fits_calls _ _ _).mono ?_; rintro e w3 ⟨rfl, ⟨nd3, rfl⟩⟩))
  refine bodyPost_ret (results_ct rfl _ _ w.heap.size 37 #[.int .i64 (w0 / 16777216), .int .i64 (w0 / 1048576 % 16), .int .i64 (w0 / 65536 % 16), .int .i64 0, .int .i64 (w0 % 65536)] (0, 0) _ rfl ?hbl hu rfl (by kernel_rfl)) rfl ⟨rfl, ?_⟩
  case hbl =>
    repeat (first | (with_reducible refine blk_drewN ?_ _) | (with_reducible refine blk_alloc ?_ _))
    with_reducible refine blk_put (cs := #[.int .i64 (w0 / 16777216), .int .i64 (w0 / 1048576 % 16), .int .i64 (w0 / 65536 % 16), .int .i64 0, .int .i64 0]) ?_ 4 _ rfl
    with_reducible refine blk_put (cs := #[.int .i64 (w0 / 16777216), .int .i64 (w0 / 1048576 % 16), .int .i64 (w0 / 65536 % 16), .int .i64 0, .int .i64 0]) ?_ 3 _ rfl
    with_reducible refine blk_put (cs := #[.int .i64 (w0 / 16777216), .int .i64 (w0 / 1048576 % 16), .int .i64 0, .int .i64 0, .int .i64 0]) ?_ 2 _ rfl
    with_reducible refine blk_put (cs := #[.int .i64 (w0 / 16777216), .int .i64 0, .int .i64 0, .int .i64 0, .int .i64 0]) ?_ 1 _ rfl
    with_reducible refine blk_put (cs := #[.int .i64 0, .int .i64 0, .int .i64 0, .int .i64 0, .int .i64 0]) ?_ 0 _ rfl
    repeat (first | (with_reducible refine blk_drewN ?_ _) | (with_reducible refine blk_alloc ?_ _) | (with_reducible refine blk_far ?_ (by simp) _))
    exact blk_below (blk_alloc (blk_new _ _) _) hb
  repeat (first | (with_reducible refine Below.drewN' ?_ _) | (with_reducible refine Below.setCell ?_ (by simp) _) | (with_reducible refine Below.alloc ?_ (by first | omega | (simp; omega)) _))
  exact (((Below.refl w.heap.size w).alloc (Nat.le_refl _) _).alloc (by simp) _).trans (hb.mono (by simp; omega))
set_option maxHeartbeats 4000000 in
set_option maxRecDepth 100000 in
theorem dec_q0 (w0 : Int) (h0 : 0 ≤ w0) (h1 : w0 < 4294967296) (n1 : ByteArray) (s1 c1 : Int) (r1 r2 : ByteArray) (ht : rotaref06_table.f (w0 / 16777216) = some (n1, s1, c1, r1, r2, true)) (A B C : Bool) (lo hi : Int) (hh : rotaref06_Has.f s1 = some (A, B, C, lo, hi)) (hC : C = false) (hhi : 0 < hi) (hl : lo < 0) (hw : ¬ hi < w0 % 65536) (f0 : fitB (w0 / 1048576 % 16) A = false) (w : World) :
    Calls Try.prog 22 #[.int .u32 w0] w fun e w' => e = .returned (.tuple #[.agg #[.int .i64 0, .int .i64 0, .int .i64 0, .int .i64 0, .int .i64 0], .int .i64 61]) ∧ Below w.heap.size w w' := by
  have hu := Try.underlying37
  have hu86 := Try.underlying86
  have HT := Lib.hid ht
  clear ht
  have HH := Lib.hid hh
  clear hh
  subst hC
  go_enter Try.func22, Try.ntmps22
  go_wp2_with (first | (go_at_call 40; refine (rotaref06_table.calls _ _ _ _ _ _ _ _ HT.out).mono ?_; rintro e w' ⟨rfl, hb⟩; obtain ⟨hc, hf⟩ := bcell hb; have hz : w.heap.size + 1 < w'.heap.size := (by have := hb.size; simp at this; omega); have hz0 : w.heap.size < w'.heap.size := (by omega)) | (go_at_call 41; refine (rotaref06_Has.calls _ _ _ _ _ _ _ HH.out).mono ?_; rintro e w2 ⟨rfl, ⟨nd, rfl⟩⟩) | (go_at_call 42; refine (fits_calls _ _ _).mono ?_; rintro e w3 ⟨rfl, ⟨nd3, rfl⟩⟩))
  refine bodyPost_ret (results_ct rfl _ _ w.heap.size 37 #[.int .i64 0, .int .i64 0, .int .i64 0, .int .i64 0, .int .i64 0] (0, 0) _ rfl ?hbl hu rfl (by kernel_rfl)) rfl ⟨rfl, ?_⟩
  case hbl =>
    repeat (first | (with_reducible refine blk_drewN ?_ _) | (with_reducible refine blk_alloc ?_ _))
    with_reducible refine blk_put (cs := #[.int .i64 0, .int .i64 0, .int .i64 0, .int .i64 0, .int .i64 0]) ?_ 4 _ rfl
    with_reducible refine blk_put (cs := #[.int .i64 0, .int .i64 0, .int .i64 0, .int .i64 0, .int .i64 0]) ?_ 3 _ rfl
    with_reducible refine blk_put (cs := #[.int .i64 0, .int .i64 0, .int .i64 0, .int .i64 0, .int .i64 0]) ?_ 2 _ rfl
    with_reducible refine blk_put (cs := #[.int .i64 0, .int .i64 0, .int .i64 0, .int .i64 0, .int .i64 0]) ?_ 1 _ rfl
    with_reducible refine blk_put (cs := #[.int .i64 0, .int .i64 0, .int .i64 0, .int .i64 0, .int .i64 0]) ?_ 0 _ rfl
    repeat (first | (with_reducible refine blk_drewN ?_ _) | (with_reducible refine blk_alloc ?_ _) | (with_reducible refine blk_far ?_ (by simp) _))
    exact blk_below (blk_alloc (blk_new _ _) _) hb
  repeat (first | (with_reducible refine Below.drewN' ?_ _) | (with_reducible refine Below.setCell ?_ (by simp) _) | (with_reducible refine Below.alloc ?_ (by first | omega | (simp; omega)) _))
  exact (((Below.refl w.heap.size w).alloc (Nat.le_refl _) _).alloc (by simp) _).trans (hb.mono (by simp; omega))
set_option maxHeartbeats 4000000 in
set_option maxRecDepth 100000 in
theorem dec_q1 (w0 : Int) (h0 : 0 ≤ w0) (h1 : w0 < 4294967296) (n1 : ByteArray) (s1 c1 : Int) (r1 r2 : ByteArray) (ht : rotaref06_table.f (w0 / 16777216) = some (n1, s1, c1, r1, r2, true)) (A B C : Bool) (lo hi : Int) (hh : rotaref06_Has.f s1 = some (A, B, C, lo, hi)) (hC : C = false) (hhi : 0 < hi) (hl : lo < 0) (hw : ¬ hi < w0 % 65536) (f0 : fitB (w0 / 1048576 % 16) A = true) (f1 : fitB (w0 / 65536 % 16) B = false) (w : World) :
    Calls Try.prog 22 #[.int .u32 w0] w fun e w' => e = .returned (.tuple #[.agg #[.int .i64 0, .int .i64 0, .int .i64 0, .int .i64 0, .int .i64 0], .int .i64 61]) ∧ Below w.heap.size w w' := by
  have hu := Try.underlying37
  have hu86 := Try.underlying86
  have HT := Lib.hid ht
  clear ht
  have HH := Lib.hid hh
  clear hh
  subst hC
  go_enter Try.func22, Try.ntmps22
  go_wp2_with (first | (go_at_call 40; refine (rotaref06_table.calls _ _ _ _ _ _ _ _ HT.out).mono ?_; rintro e w' ⟨rfl, hb⟩; obtain ⟨hc, hf⟩ := bcell hb; have hz : w.heap.size + 1 < w'.heap.size := (by have := hb.size; simp at this; omega); have hz0 : w.heap.size < w'.heap.size := (by omega)) | (go_at_call 41; refine (rotaref06_Has.calls _ _ _ _ _ _ _ HH.out).mono ?_; rintro e w2 ⟨rfl, ⟨nd, rfl⟩⟩) | (go_at_call 42; refine (fits_calls _ _ _).mono ?_; rintro e w3 ⟨rfl, ⟨nd3, rfl⟩⟩))
  refine bodyPost_ret (results_ct rfl _ _ w.heap.size 37 #[.int .i64 0, .int .i64 0, .int .i64 0, .int .i64 0, .int .i64 0] (0, 0) _ rfl ?hbl hu rfl (by kernel_rfl)) rfl ⟨rfl, ?_⟩
  case hbl =>
    repeat (first | (with_reducible refine blk_drewN ?_ _) | (with_reducible refine blk_alloc ?_ _))
    with_reducible refine blk_put (cs := #[.int .i64 0, .int .i64 0, .int .i64 0, .int .i64 0, .int .i64 0]) ?_ 4 _ rfl
    with_reducible refine blk_put (cs := #[.int .i64 0, .int .i64 0, .int .i64 0, .int .i64 0, .int .i64 0]) ?_ 3 _ rfl
    with_reducible refine blk_put (cs := #[.int .i64 0, .int .i64 0, .int .i64 0, .int .i64 0, .int .i64 0]) ?_ 2 _ rfl
    with_reducible refine blk_put (cs := #[.int .i64 0, .int .i64 0, .int .i64 0, .int .i64 0, .int .i64 0]) ?_ 1 _ rfl
    with_reducible refine blk_put (cs := #[.int .i64 0, .int .i64 0, .int .i64 0, .int .i64 0, .int .i64 0]) ?_ 0 _ rfl
    repeat (first | (with_reducible refine blk_drewN ?_ _) | (with_reducible refine blk_alloc ?_ _) | (with_reducible refine blk_far ?_ (by simp) _))
    exact blk_below (blk_alloc (blk_new _ _) _) hb
  repeat (first | (with_reducible refine Below.drewN' ?_ _) | (with_reducible refine Below.setCell ?_ (by simp) _) | (with_reducible refine Below.alloc ?_ (by first | omega | (simp; omega)) _))
  exact (((Below.refl w.heap.size w).alloc (Nat.le_refl _) _).alloc (by simp) _).trans (hb.mono (by simp; omega))
set_option maxHeartbeats 4000000 in
set_option maxRecDepth 100000 in
theorem dec_q3 (w0 : Int) (h0 : 0 ≤ w0) (h1 : w0 < 4294967296) (n1 : ByteArray) (s1 c1 : Int) (r1 r2 : ByteArray) (ht : rotaref06_table.f (w0 / 16777216) = some (n1, s1, c1, r1, r2, true)) (A B C : Bool) (lo hi : Int) (hh : rotaref06_Has.f s1 = some (A, B, C, lo, hi)) (hC : C = false) (hhi : 0 < hi) (hl : lo < 0) (hw : ¬ hi < w0 % 65536) (f0 : fitB (w0 / 1048576 % 16) A = true) (f1 : fitB (w0 / 65536 % 16) B = true) (f2 : fitB 0 false = true) (w : World) :
    Calls Try.prog 22 #[.int .u32 w0] w fun e w' => e = .returned (.tuple #[.agg #[.int .i64 (w0 / 16777216), .int .i64 (w0 / 1048576 % 16), .int .i64 (w0 / 65536 % 16), .int .i64 0, .int .i64 (w0 % 65536)], .int .i64 0]) ∧ Below w.heap.size w w' := by
  have hu := Try.underlying37
  have hu86 := Try.underlying86
  have HT := Lib.hid ht
  clear ht
  have HH := Lib.hid hh
  clear hh
  subst hC
  go_enter Try.func22, Try.ntmps22
  go_wp2_with (first | (go_at_call 40; refine (rotaref06_table.calls _ _ _ _ _ _ _ _ HT.out).mono ?_; rintro e w' ⟨rfl, hb⟩; obtain ⟨hc, hf⟩ := bcell hb; have hz : w.heap.size + 1 < w'.heap.size := (by have := hb.size; simp at this; omega); have hz0 : w.heap.size < w'.heap.size := (by omega)) | (go_at_call 41; refine (rotaref06_Has.calls _ _ _ _ _ _ _ HH.out).mono ?_; rintro e w2 ⟨rfl, ⟨nd, rfl⟩⟩) | (go_at_call 42; refine (fits_calls _ _ _).mono ?_; rintro e w3 ⟨rfl, ⟨nd3, rfl⟩⟩))
  refine bodyPost_ret (results_ct rfl _ _ w.heap.size 37 #[.int .i64 (w0 / 16777216), .int .i64 (w0 / 1048576 % 16), .int .i64 (w0 / 65536 % 16), .int .i64 0, .int .i64 (w0 % 65536)] (0, 0) _ rfl ?hbl hu rfl (by kernel_rfl)) rfl ⟨rfl, ?_⟩
  case hbl =>
    repeat (first | (with_reducible refine blk_drewN ?_ _) | (with_reducible refine blk_alloc ?_ _))
    with_reducible refine blk_put (cs := #[.int .i64 (w0 / 16777216), .int .i64 (w0 / 1048576 % 16), .int .i64 (w0 / 65536 % 16), .int .i64 0, .int .i64 0]) ?_ 4 _ rfl
    with_reducible refine blk_put (cs := #[.int .i64 (w0 / 16777216), .int .i64 (w0 / 1048576 % 16), .int .i64 (w0 / 65536 % 16), .int .i64 0, .int .i64 0]) ?_ 3 _ rfl
    with_reducible refine blk_put (cs := #[.int .i64 (w0 / 16777216), .int .i64 (w0 / 1048576 % 16), .int .i64 0, .int .i64 0, .int .i64 0]) ?_ 2 _ rfl
    with_reducible refine blk_put (cs := #[.int .i64 (w0 / 16777216), .int .i64 0, .int .i64 0, .int .i64 0, .int .i64 0]) ?_ 1 _ rfl
    with_reducible refine blk_put (cs := #[.int .i64 0, .int .i64 0, .int .i64 0, .int .i64 0, .int .i64 0]) ?_ 0 _ rfl
    repeat (first | (with_reducible refine blk_drewN ?_ _) | (with_reducible refine blk_alloc ?_ _) | (with_reducible refine blk_far ?_ (by simp) _))
    exact blk_below (blk_alloc (blk_new _ _) _) hb
  repeat (first | (with_reducible refine Below.drewN' ?_ _) | (with_reducible refine Below.setCell ?_ (by simp) _) | (with_reducible refine Below.alloc ?_ (by first | omega | (simp; omega)) _))
  exact (((Below.refl w.heap.size w).alloc (Nat.le_refl _) _).alloc (by simp) _).trans (hb.mono (by simp; omega))
set_option maxHeartbeats 4000000 in
set_option maxRecDepth 100000 in
theorem dec_z0 (w0 : Int) (h0 : 0 ≤ w0) (h1 : w0 < 4294967296) (n1 : ByteArray) (s1 c1 : Int) (r1 r2 : ByteArray) (ht : rotaref06_table.f (w0 / 16777216) = some (n1, s1, c1, r1, r2, true)) (A B C : Bool) (lo hi : Int) (hh : rotaref06_Has.f s1 = some (A, B, C, lo, hi)) (hC : C = false) (hhi : ¬ 0 < hi) (hw : w0 % 65536 = 0) (f0 : fitB (w0 / 1048576 % 16) A = false) (w : World) :
    Calls Try.prog 22 #[.int .u32 w0] w fun e w' => e = .returned (.tuple #[.agg #[.int .i64 0, .int .i64 0, .int .i64 0, .int .i64 0, .int .i64 0], .int .i64 61]) ∧ Below w.heap.size w w' := by
  have hu := Try.underlying37
  have hu86 := Try.underlying86
  have HT := Lib.hid ht
  clear ht
  have HH := Lib.hid hh
  clear hh
  subst hC
  replace hw : (w0 % 65536 == 0) = true := beq_iff_eq.2 hw
  go_enter Try.func22, Try.ntmps22
  go_wp2_with (first | (go_at_call 40; refine (rotaref06_table.calls _ _ _ _ _ _ _ _ HT.out).mono ?_; rintro e w' ⟨rfl, hb⟩; obtain ⟨hc, hf⟩ := bcell hb; have hz : w.heap.size + 1 < w'.heap.size := (by have := hb.size; simp at this; omega); have hz0 : w.heap.size < w'.heap.size := (by omega)) | (go_at_call 41; refine (rotaref06_Has.calls _ _ _ _ _ _ _ HH.out).mono ?_; rintro e w2 ⟨rfl, ⟨nd, rfl⟩⟩) | (go_at_call 42; refine (fits_calls _ _ _).mono ?_; rintro e w3 ⟨rfl, ⟨nd3, rfl⟩⟩))
  refine bodyPost_ret (results_ct rfl _ _ w.heap.size 37 #[.int .i64 0, .int .i64 0, .int .i64 0, .int .i64 0, .int .i64 0] (0, 0) _ rfl ?hbl hu rfl (by kernel_rfl)) rfl ⟨rfl, ?_⟩
  case hbl =>
    repeat (first | (with_reducible refine blk_drewN ?_ _) | (with_reducible refine blk_alloc ?_ _))
    with_reducible refine blk_put (cs := #[.int .i64 0, .int .i64 0, .int .i64 0, .int .i64 0, .int .i64 0]) ?_ 4 _ rfl
    with_reducible refine blk_put (cs := #[.int .i64 0, .int .i64 0, .int .i64 0, .int .i64 0, .int .i64 0]) ?_ 3 _ rfl
    with_reducible refine blk_put (cs := #[.int .i64 0, .int .i64 0, .int .i64 0, .int .i64 0, .int .i64 0]) ?_ 2 _ rfl
    with_reducible refine blk_put (cs := #[.int .i64 0, .int .i64 0, .int .i64 0, .int .i64 0, .int .i64 0]) ?_ 1 _ rfl
    with_reducible refine blk_put (cs := #[.int .i64 0, .int .i64 0, .int .i64 0, .int .i64 0, .int .i64 0]) ?_ 0 _ rfl
    repeat (first | (with_reducible refine blk_drewN ?_ _) | (with_reducible refine blk_alloc ?_ _) | (with_reducible refine blk_far ?_ (by simp) _))
    exact blk_below (blk_alloc (blk_new _ _) _) hb
  repeat (first | (with_reducible refine Below.drewN' ?_ _) | (with_reducible refine Below.setCell ?_ (by simp) _) | (with_reducible refine Below.alloc ?_ (by first | omega | (simp; omega)) _))
  exact (((Below.refl w.heap.size w).alloc (Nat.le_refl _) _).alloc (by simp) _).trans (hb.mono (by simp; omega))
set_option maxHeartbeats 4000000 in
set_option maxRecDepth 100000 in
theorem dec_z1 (w0 : Int) (h0 : 0 ≤ w0) (h1 : w0 < 4294967296) (n1 : ByteArray) (s1 c1 : Int) (r1 r2 : ByteArray) (ht : rotaref06_table.f (w0 / 16777216) = some (n1, s1, c1, r1, r2, true)) (A B C : Bool) (lo hi : Int) (hh : rotaref06_Has.f s1 = some (A, B, C, lo, hi)) (hC : C = false) (hhi : ¬ 0 < hi) (hw : w0 % 65536 = 0) (f0 : fitB (w0 / 1048576 % 16) A = true) (f1 : fitB (w0 / 65536 % 16) B = false) (w : World) :
    Calls Try.prog 22 #[.int .u32 w0] w fun e w' => e = .returned (.tuple #[.agg #[.int .i64 0, .int .i64 0, .int .i64 0, .int .i64 0, .int .i64 0], .int .i64 61]) ∧ Below w.heap.size w w' := by
  have hu := Try.underlying37
  have hu86 := Try.underlying86
  have HT := Lib.hid ht
  clear ht
  have HH := Lib.hid hh
  clear hh
  subst hC
  replace hw : (w0 % 65536 == 0) = true := beq_iff_eq.2 hw
  go_enter Try.func22, Try.ntmps22
  go_wp2_with (first | (go_at_call 40; refine (rotaref06_table.calls _ _ _ _ _ _ _ _ HT.out).mono ?_; rintro e w' ⟨rfl, hb⟩; obtain ⟨hc, hf⟩ := bcell hb; have hz : w.heap.size + 1 < w'.heap.size := (by have := hb.size; simp at this; omega); have hz0 : w.heap.size < w'.heap.size := (by omega)) | (go_at_call 41; refine (rotaref06_Has.calls _ _ _ _ _ _ _ HH.out).mono ?_; rintro e w2 ⟨rfl, ⟨nd, rfl⟩⟩) | (go_at_call 42; refine (fits_calls _ _ _).mono ?_; rintro e w3 ⟨rfl, ⟨nd3, rfl⟩⟩))
  refine bodyPost_ret (results_ct rfl _ _ w.heap.size 37 #[.int .i64 0, .int .i64 0, .int .i64 0, .int .i64 0, .int .i64 0] (0, 0) _ rfl ?hbl hu rfl (by kernel_rfl)) rfl ⟨rfl, ?_⟩
  case hbl =>
    repeat (first | (with_reducible refine blk_drewN ?_ _) | (with_reducible refine blk_alloc ?_ _))
    with_reducible refine blk_put (cs := #[.int .i64 0, .int .i64 0, .int .i64 0, .int .i64 0, .int .i64 0]) ?_ 4 _ rfl
    with_reducible refine blk_put (cs := #[.int .i64 0, .int .i64 0, .int .i64 0, .int .i64 0, .int .i64 0]) ?_ 3 _ rfl
    with_reducible refine blk_put (cs := #[.int .i64 0, .int .i64 0, .int .i64 0, .int .i64 0, .int .i64 0]) ?_ 2 _ rfl
    with_reducible refine blk_put (cs := #[.int .i64 0, .int .i64 0, .int .i64 0, .int .i64 0, .int .i64 0]) ?_ 1 _ rfl
    with_reducible refine blk_put (cs := #[.int .i64 0, .int .i64 0, .int .i64 0, .int .i64 0, .int .i64 0]) ?_ 0 _ rfl
    repeat (first | (with_reducible refine blk_drewN ?_ _) | (with_reducible refine blk_alloc ?_ _) | (with_reducible refine blk_far ?_ (by simp) _))
    exact blk_below (blk_alloc (blk_new _ _) _) hb
  repeat (first | (with_reducible refine Below.drewN' ?_ _) | (with_reducible refine Below.setCell ?_ (by simp) _) | (with_reducible refine Below.alloc ?_ (by first | omega | (simp; omega)) _))
  exact (((Below.refl w.heap.size w).alloc (Nat.le_refl _) _).alloc (by simp) _).trans (hb.mono (by simp; omega))
set_option maxHeartbeats 4000000 in
set_option maxRecDepth 100000 in
theorem dec_z3 (w0 : Int) (h0 : 0 ≤ w0) (h1 : w0 < 4294967296) (n1 : ByteArray) (s1 c1 : Int) (r1 r2 : ByteArray) (ht : rotaref06_table.f (w0 / 16777216) = some (n1, s1, c1, r1, r2, true)) (A B C : Bool) (lo hi : Int) (hh : rotaref06_Has.f s1 = some (A, B, C, lo, hi)) (hC : C = false) (hhi : ¬ 0 < hi) (hw : w0 % 65536 = 0) (f0 : fitB (w0 / 1048576 % 16) A = true) (f1 : fitB (w0 / 65536 % 16) B = true) (f2 : fitB 0 false = true) (w : World) :
    Calls Try.prog 22 #[.int .u32 w0] w fun e w' => e = .returned (.tuple #[.agg #[.int .i64 (w0 / 16777216), .int .i64 (w0 / 1048576 % 16), .int .i64 (w0 / 65536 % 16), .int .i64 0, .int .i64 0], .int .i64 0]) ∧ Below w.heap.size w w' := by
  have hu := Try.underlying37
  have hu86 := Try.underlying86
  have HT := Lib.hid ht
  clear ht
  have HH := Lib.hid hh
  clear hh
  subst hC
  replace hw : (w0 % 65536 == 0) = true := beq_iff_eq.2 hw
  go_enter Try.func22, Try.ntmps22
  go_wp2_with (first | (go_at_call 40; refine (rotaref06_table.calls _ _ _ _ _ _ _ _ HT.out).mono ?_; rintro e w' ⟨rfl, hb⟩; obtain ⟨hc, hf⟩ := bcell hb; have hz : w.heap.size + 1 < w'.heap.size := (by have := hb.size; simp at this; omega); have hz0 : w.heap.size < w'.heap.size := (by omega)) | (go_at_call 41; refine (rotaref06_Has.calls _ _ _ _ _ _ _ HH.out).mono ?_; rintro e w2 ⟨rfl, ⟨nd, rfl⟩⟩) | (go_at_call 42; refine (fits_calls _ _ _).mono ?_; rintro e w3 ⟨rfl, ⟨nd3, rfl⟩⟩))
  refine bodyPost_ret (results_ct rfl _ _ w.heap.size 37 #[.int .i64 (w0 / 16777216), .int .i64 (w0 / 1048576 % 16), .int .i64 (w0 / 65536 % 16), .int .i64 0, .int .i64 0] (0, 0) _ rfl ?hbl hu rfl (by kernel_rfl)) rfl ⟨rfl, ?_⟩
  case hbl =>
    repeat (first | (with_reducible refine blk_drewN ?_ _) | (with_reducible refine blk_alloc ?_ _))
    with_reducible refine blk_put (cs := #[.int .i64 (w0 / 16777216), .int .i64 (w0 / 1048576 % 16), .int .i64 (w0 / 65536 % 16), .int .i64 0, .int .i64 0]) ?_ 4 _ rfl
    with_reducible refine blk_put (cs := #[.int .i64 (w0 / 16777216), .int .i64 (w0 / 1048576 % 16), .int .i64 (w0 / 65536 % 16), .int .i64 0, .int .i64 0]) ?_ 3 _ rfl
    with_reducible refine blk_put (cs := #[.int .i64 (w0 / 16777216), .int .i64 (w0 / 1048576 % 16), .int .i64 0, .int .i64 0, .int .i64 0]) ?_ 2 _ rfl
    with_reducible refine blk_put (cs := #[.int .i64 (w0 / 16777216), .int .i64 0, .int .i64 0, .int .i64 0, .int .i64 0]) ?_ 1 _ rfl
    with_reducible refine blk_put (cs := #[.int .i64 0, .int .i64 0, .int .i64 0, .int .i64 0, .int .i64 0]) ?_ 0 _ rfl
    repeat (first | (with_reducible refine blk_drewN ?_ _) | (with_reducible refine blk_alloc ?_ _) | (with_reducible refine blk_far ?_ (by simp) _))
    exact blk_below (blk_alloc (blk_new _ _) _) hb
  repeat (first | (with_reducible refine Below.drewN' ?_ _) | (with_reducible refine Below.setCell ?_ (by simp) _) | (with_reducible refine Below.alloc ?_ (by first | omega | (simp; omega)) _))
  exact (((Below.refl w.heap.size w).alloc (Nat.le_refl _) _).alloc (by simp) _).trans (hb.mono (by simp; omega))
set_option maxHeartbeats 4000000 in
set_option maxRecDepth 100000 in
theorem dec_bad (w0 : Int) (h0 : 0 ≤ w0) (h1 : w0 < 4294967296) (n1 : ByteArray) (s1 c1 : Int) (r1 r2 : ByteArray) (ht : rotaref06_table.f (w0 / 16777216) = some (n1, s1, c1, r1, r2, true)) (A B C : Bool) (lo hi : Int) (hh : rotaref06_Has.f s1 = some (A, B, C, lo, hi)) (hC : C = false) (hhi : ¬ 0 < hi) (hw : ¬ w0 % 65536 = 0) (w : World) :
    Calls Try.prog 22 #[.int .u32 w0] w fun e w' => e = .returned (.tuple #[.agg #[.int .i64 0, .int .i64 0, .int .i64 0, .int .i64 0, .int .i64 0], .int .i64 61]) ∧ Below w.heap.size w w' := by
  have hu := Try.underlying37
  have hu86 := Try.underlying86
  have HT := Lib.hid ht
  clear ht
  have HH := Lib.hid hh
  clear hh
  subst hC
  replace hw : (w0 % 65536 == 0) = false := beq_eq_false_iff_ne.2 hw
  go_enter Try.func22, Try.ntmps22
  go_wp2_with (first | (go_at_call 40; refine (rotaref06_table.calls _ _ _ _ _ _ _ _ HT.out).mono ?_; rintro e w' ⟨rfl, hb⟩; obtain ⟨hc, hf⟩ := bcell hb; have hz : w.heap.size + 1 < w'.heap.size := (by have := hb.size; simp at this; omega); have hz0 : w.heap.size < w'.heap.size := (by omega)) | (go_at_call 41; refine (rotaref06_Has.calls _ _ _ _ _ _ _ HH.out).mono ?_; rintro e w2 ⟨rfl, ⟨nd, rfl⟩⟩) | (go_at_call 42; refine (fits_calls _ _ _).mono ?_; rintro e w3 ⟨rfl, ⟨nd3, rfl⟩⟩))
  refine bodyPost_ret (results_ct rfl _ _ w.heap.size 37 #[.int .i64 0, .int .i64 0, .int .i64 0, .int .i64 0, .int .i64 0] (0, 0) _ rfl ?hbl hu rfl (by kernel_rfl)) rfl ⟨rfl, ?_⟩
  case hbl =>
    repeat (first | (with_reducible refine blk_drewN ?_ _) | (with_reducible refine blk_alloc ?_ _))
    with_reducible refine blk_put (cs := #[.int .i64 0, .int .i64 0, .int .i64 0, .int .i64 0, .int .i64 0]) ?_ 4 _ rfl
    with_reducible refine blk_put (cs := #[.int .i64 0, .int .i64 0, .int .i64 0, .int .i64 0, .int .i64 0]) ?_ 3 _ rfl
    with_reducible refine blk_put (cs := #[.int .i64 0, .int .i64 0, .int .i64 0, .int .i64 0, .int .i64 0]) ?_ 2 _ rfl
    with_reducible refine blk_put (cs := #[.int .i64 0, .int .i64 0, .int .i64 0, .int .i64 0, .int .i64 0]) ?_ 1 _ rfl
    with_reducible refine blk_put (cs := #[.int .i64 0, .int .i64 0, .int .i64 0, .int .i64 0, .int .i64 0]) ?_ 0 _ rfl
    repeat (first | (with_reducible refine blk_drewN ?_ _) | (with_reducible refine blk_alloc ?_ _) | (with_reducible refine blk_far ?_ (by simp) _))
    exact blk_below (blk_alloc (blk_new _ _) _) hb
  repeat (first | (with_reducible refine Below.drewN' ?_ _) | (with_reducible refine Below.setCell ?_ (by simp) _) | (with_reducible refine Below.alloc ?_ (by first | omega | (simp; omega)) _))
  exact (((Below.refl w.heap.size w).alloc (Nat.le_refl _) _).alloc (by simp) _).trans (hb.mono (by simp; omega))

def bad : Option (Int × Int × Int × Int × Int × Int) := some (0, 0, 0, 0, 0, 61)
def fields (o a b c m : Int) (A B C : Bool) : Option (Int × Int × Int × Int × Int × Int) := if fitB a A = true then (if fitB b B = true then (if fitB c C = true then some (o, a, b, c, m, 0) else bad) else bad) else bad
def decF (w0 : Int) : Option (Int × Int × Int × Int × Int × Int) :=
  if 0 ≤ w0 ∧ w0 < 4294967296 then
    (rotaref06_table.f (w0 / 16777216)).bind fun t =>
      if t.2.2.2.2.2 = true then (rotaref06_Has.f t.2.1).bind fun g =>
        if g.2.2.1 = true then fields (w0 / 16777216) (w0 / 1048576 % 16) (w0 / 65536 % 16) (w0 % 65536) 0 g.1 g.2.1 true
        else if 0 < g.2.2.2.2 then
          (if g.2.2.2.1 < 0 then (if g.2.2.2.2 < w0 % 65536 then fields (w0 / 16777216) (w0 / 1048576 % 16) (w0 / 65536 % 16) 0 (w0 % 65536 - 65536) g.1 g.2.1 false else fields (w0 / 16777216) (w0 / 1048576 % 16) (w0 / 65536 % 16) 0 (w0 % 65536) g.1 g.2.1 false)
          else fields (w0 / 16777216) (w0 / 1048576 % 16) (w0 / 65536 % 16) 0 (w0 % 65536) g.1 g.2.1 false)
        else if w0 % 65536 = 0 then fields (w0 / 16777216) (w0 / 1048576 % 16) (w0 / 65536 % 16) 0 0 g.1 g.2.1 false else bad
      else some (0, 0, 0, 0, 0, 60)
  else none
theorem fields_cases {o a b c m : Int} {A B C : Bool} {r : Int × Int × Int × Int × Int × Int} (h : fields o a b c m A B C = some r) :
    (fitB a A = false ∧ r = (0, 0, 0, 0, 0, 61)) ∨ (fitB a A = true ∧ fitB b B = false ∧ r = (0, 0, 0, 0, 0, 61)) ∨ (fitB a A = true ∧ fitB b B = true ∧ fitB c C = false ∧ r = (0, 0, 0, 0, 0, 61)) ∨
      (fitB a A = true ∧ fitB b B = true ∧ fitB c C = true ∧ r = (o, a, b, c, m, 0)) := by
  unfold fields bad at h
  by_cases f0 : fitB a A = true
  · rw [if_pos f0] at h
    by_cases f1 : fitB b B = true
    · rw [if_pos f1] at h
      by_cases f2 : fitB c C = true
      · rw [if_pos f2] at h
        exact .inr (.inr (.inr ⟨f0, f1, f2, (Option.some.inj h).symm⟩))
      · rw [if_neg f2] at h
        exact .inr (.inr (.inl ⟨f0, f1, by simpa using f2, (Option.some.inj h).symm⟩))
    · rw [if_neg f1] at h
      exact .inr (.inl ⟨f0, by simpa using f1, (Option.some.inj h).symm⟩)
  · rw [if_neg f0] at h
    exact .inl ⟨by simpa using f0, (Option.some.inj h).symm⟩
theorem decode_calls (w0 r1 r2 r3 r4 r5 r6 : Int) (w : World) (h : decF w0 = some (r1, r2, r3, r4, r5, r6)) :
    Calls Try.prog 22 #[.int .u32 w0] w fun e w' => e = .returned (.tuple #[.agg #[.int .i64 r1, .int .i64 r2, .int .i64 r3, .int .i64 r4, .int .i64 r5], .int .i64 r6]) ∧ Below w.heap.size w w' := by
  unfold decF at h
  split at h
  · rename_i hr
    obtain ⟨h0, h1⟩ := hr
    obtain ⟨⟨n1, s1, c1, q1, q2, ok⟩, ht, h⟩ := Option.bind_eq_some_iff.1 h
    cases ok with
    | false =>
      simp only [Bool.false_eq_true, if_false, Option.some.injEq, Prod.mk.injEq] at h
      obtain ⟨rfl, rfl, rfl, rfl, rfl, rfl⟩ := h
      exact dec_out w0 h0 h1 _ _ _ _ _ ht w
    | true =>
      simp only [if_true] at h
      obtain ⟨⟨A, B, C, lo, hi⟩, hh, h⟩ := Option.bind_eq_some_iff.1 h
      simp only at h
      split at h
      · rename_i hC
        rcases fields_cases h with ⟨f0, e⟩ | ⟨f0, f1, e⟩ | ⟨f0, f1, f2, e⟩ | ⟨f0, f1, f2, e⟩
        all_goals
          simp only [Prod.mk.injEq] at e
          obtain ⟨rfl, rfl, rfl, rfl, rfl, rfl⟩ := e
        · exact dec_c0 w0 h0 h1 _ _ _ _ _ ht A B C lo hi hh hC f0 w
        · exact dec_c1 w0 h0 h1 _ _ _ _ _ ht A B C lo hi hh hC f0 f1 w
        · exact dec_c2 w0 h0 h1 _ _ _ _ _ ht A B C lo hi hh hC f0 f1 f2 w
        · exact dec_c3 w0 h0 h1 _ _ _ _ _ ht A B C lo hi hh hC f0 f1 f2 w
      · rename_i hC
        replace hC : C = false := by simpa using hC
        split at h
        · rename_i hhi
          split at h
          · rename_i hl
            split at h
            · rename_i hw
              rcases fields_cases h with ⟨f0, e⟩ | ⟨f0, f1, e⟩ | ⟨f0, f1, f2, e⟩ | ⟨f0, f1, f2, e⟩
              all_goals
                simp only [Prod.mk.injEq] at e
                obtain ⟨rfl, rfl, rfl, rfl, rfl, rfl⟩ := e
              · exact dec_n0 w0 h0 h1 _ _ _ _ _ ht A B C lo hi hh hC hhi hl hw f0 w
              · exact dec_n1 w0 h0 h1 _ _ _ _ _ ht A B C lo hi hh hC hhi hl hw f0 f1 w
              · simp [fitB] at f2
              · exact dec_n3 w0 h0 h1 _ _ _ _ _ ht A B C lo hi hh hC hhi hl hw f0 f1 f2 w
            · rename_i hw
              rcases fields_cases h with ⟨f0, e⟩ | ⟨f0, f1, e⟩ | ⟨f0, f1, f2, e⟩ | ⟨f0, f1, f2, e⟩
              all_goals
                simp only [Prod.mk.injEq] at e
                obtain ⟨rfl, rfl, rfl, rfl, rfl, rfl⟩ := e
              · exact dec_q0 w0 h0 h1 _ _ _ _ _ ht A B C lo hi hh hC hhi hl hw f0 w
              · exact dec_q1 w0 h0 h1 _ _ _ _ _ ht A B C lo hi hh hC hhi hl hw f0 f1 w
              · simp [fitB] at f2
              · exact dec_q3 w0 h0 h1 _ _ _ _ _ ht A B C lo hi hh hC hhi hl hw f0 f1 f2 w
          · rename_i hl
            rcases fields_cases h with ⟨f0, e⟩ | ⟨f0, f1, e⟩ | ⟨f0, f1, f2, e⟩ | ⟨f0, f1, f2, e⟩
            all_goals
              simp only [Prod.mk.injEq] at e
              obtain ⟨rfl, rfl, rfl, rfl, rfl, rfl⟩ := e
            · exact dec_p0 w0 h0 h1 _ _ _ _ _ ht A B C lo hi hh hC hhi hl f0 w
            · exact dec_p1 w0 h0 h1 _ _ _ _ _ ht A B C lo hi hh hC hhi hl f0 f1 w
            · simp [fitB] at f2
            · exact dec_p3 w0 h0 h1 _ _ _ _ _ ht A B C lo hi hh hC hhi hl f0 f1 f2 w
        · rename_i hhi
          split at h
          · rename_i hw
            rcases fields_cases h with ⟨f0, e⟩ | ⟨f0, f1, e⟩ | ⟨f0, f1, f2, e⟩ | ⟨f0, f1, f2, e⟩
            all_goals
              simp only [Prod.mk.injEq] at e
              obtain ⟨rfl, rfl, rfl, rfl, rfl, rfl⟩ := e
            · exact dec_z0 w0 h0 h1 _ _ _ _ _ ht A B C lo hi hh hC hhi hw f0 w
            · exact dec_z1 w0 h0 h1 _ _ _ _ _ ht A B C lo hi hh hC hhi hw f0 f1 w
            · simp [fitB] at f2
            · exact dec_z3 w0 h0 h1 _ _ _ _ _ ht A B C lo hi hh hC hhi hw f0 f1 f2 w
          · rename_i hw
            simp only [bad, Option.some.injEq, Prod.mk.injEq] at h
            obtain ⟨rfl, rfl, rfl, rfl, rfl, rfl⟩ := h
            exact dec_bad w0 h0 h1 _ _ _ _ _ ht A B C lo hi hh hC hhi hw w
  · cases h
end Go.Proofs.Ythjfmlehkcccfaa.Hdec
end

section
-- laid by a program of this session (wip/gp.sh)
namespace Go.Proofs.Ythjfmlehkcccfaa.GA
open Go.RowKit Go.Proofs.YthjfmlehkcccfaaW.PrintWords Go.Proofs.YthjfmlehkcccfaaW.PrintLast Go.Proofs.YthjfmlehkcccfaaW.PrintMore
attribute [local go_sem] max2_int min2_int max_two min_two max_three min_three max_four min_four   -- for this text's walks alone
set_option linter.unusedVariables false
set_option linter.unusedSimpArgs false

/-! ### rotaref06_Decode: function 22 (its contract: by hand) -/
-- NEEDS Derived.Test.YthjfmlehkcccfaaHdec
-- its type: def rotaref06_Decode.f (a0 : Int) : Option (Int × Int × Int × Int × Int × Int)
def rotaref06_Decode.f (a0 : Int) : Option (Int × Int × Int × Int × Int × Int) := Hdec.decF a0
set_option maxHeartbeats 8000000 in
set_option maxRecDepth 100000 in
theorem rotaref06_Decode.calls (a0 : Int) (r1 : Int) (r2 : Int) (r3 : Int) (r4 : Int) (r5 : Int) (r6 : Int) (w : World) (h : rotaref06_Decode.f a0 = some (r1, r2, r3, r4, r5, r6)) :
    Calls Try.prog 22 #[.int .u32 a0] w fun e w' => e = .returned (.tuple #[.agg #[.int .i64 r1, .int .i64 r2, .int .i64 r3, .int .i64 r4, .int .i64 r5], .int .i64 r6]) ∧ Below w.heap.size w w' := by
  exact Hdec.decode_calls a0 _ _ _ _ _ _ w h

end Go.Proofs.Ythjfmlehkcccfaa.GA
end

section
-- laid by a program of this session (wip/gp.sh)
namespace Go.Proofs.Ythjfmlehkcccfaa.GA
open Go.RowKit Go.Proofs.YthjfmlehkcccfaaW.PrintWords Go.Proofs.YthjfmlehkcccfaaW.PrintLast Go.Proofs.YthjfmlehkcccfaaW.PrintMore
attribute [local go_sem] max2_int min2_int max_two min_two max_three min_three max_four min_four   -- for this text's walks alone
set_option linter.unusedVariables false
set_option linter.unusedSimpArgs false

/-! ### rotaref09_next: function 31 -/
def rotaref09_next.f (l0_0 : List Int) (l0_1 : List (S75)) (l0_2 : List (S98)) (a1_0 : Int) (a1_1 : Int) (a1_2 : Int) (a1_3 : Int) (a1_4 : Int) (a1_5 : Int) (a1_6 : Int) (a1_7 : Int) (a1_8 : Int) (a1_9 : Int) (a1_10 : Int) (a1_11 : Int) (a1_12 : Int) (a1_13 : Int) (a1_14 : Int) (a1_15 : Int) (a1_16 : Int) (l1_17 : List Int) : Option (Int × Int × Int × Int × Int × Bool) := if a1_0 < 0 then (some (0, 0, 0, 0, 0, false)) else (if a1_0 ≥ (l0_0.length : Int) then (some (0, 0, 0, 0, 0, false)) else (if 0 ≤ a1_0 then (if a1_0 < (l0_0.length : Int) then ((rotaref06_Decode.f (rd l0_0 a1_0)).bind fun bt200 => (some (bt200.1, bt200.2.1, bt200.2.2.1, bt200.2.2.2.1, bt200.2.2.2.2.1, (bt200.2.2.2.2.2 == 0)))) else (none)) else (none)))
set_option maxHeartbeats 8000000 in
set_option maxRecDepth 100000 in
theorem rotaref09_next.calls (A0_0 : Option Addr) (c0_0 : Nat) (l0_0 : List Int) (A0_1 : Option Addr) (c0_1 : Nat) (l0_1 : List (S75)) (A0_2 : Option Addr) (c0_2 : Nat) (l0_2 : List (S98)) (a1_0 : Int) (a1_1 : Int) (a1_2 : Int) (a1_3 : Int) (a1_4 : Int) (a1_5 : Int) (a1_6 : Int) (a1_7 : Int) (a1_8 : Int) (a1_9 : Int) (a1_10 : Int) (a1_11 : Int) (a1_12 : Int) (a1_13 : Int) (a1_14 : Int) (a1_15 : Int) (a1_16 : Int) (A1_17 : Option Addr) (c1_17 : Nat) (l1_17 : List Int) (r1 : Int) (r2 : Int) (r3 : Int) (r4 : Int) (r5 : Int) (r6 : Bool) (w : World) (hr0_0 : Kd.C (Kd.int .u32) w A0_0 l0_0.length l0_0) (hc0_0 : l0_0.length ≤ c0_0) (hr0_1 : Kd.C k75 w A0_1 l0_1.length l0_1) (hc0_1 : l0_1.length ≤ c0_1) (hr0_2 : Kd.C k98 w A0_2 l0_2.length l0_2) (hc0_2 : l0_2.length ≤ c0_2) (hr1_17 : Kd.C (Kd.int .i64) w A1_17 l1_17.length l1_17) (hc1_17 : l1_17.length ≤ c1_17) (h : rotaref09_next.f l0_0 l0_1 l0_2 a1_0 a1_1 a1_2 a1_3 a1_4 a1_5 a1_6 a1_7 a1_8 a1_9 a1_10 a1_11 a1_12 a1_13 a1_14 a1_15 a1_16 l1_17 = some (r1, r2, r3, r4, r5, r6)) :
    Calls Try.prog 31 #[.agg #[.slice A0_0 l0_0.length c0_0, .slice A0_1 l0_1.length c0_1, .slice A0_2 l0_2.length c0_2], .agg #[.int .i64 a1_0, .int .i64 a1_1, .int .i64 a1_2, .int .i64 a1_3, .int .i64 a1_4, .int .i64 a1_5, .int .i64 a1_6, .int .i64 a1_7, .int .i64 a1_8, .int .i64 a1_9, .int .i64 a1_10, .int .i64 a1_11, .int .i64 a1_12, .int .i64 a1_13, .int .i64 a1_14, .int .i64 a1_15, .int .i64 a1_16, .slice A1_17 l1_17.length c1_17]] w fun e w' => e = .returned (.tuple #[.agg #[.int .i64 r1, .int .i64 r2, .int .i64 r3, .int .i64 r4, .int .i64 r5], .bool r6]) ∧ Below w.heap.size w w' := by
  have hu26 := Try.underlying26
  have hu30 := Try.underlying30
  have hu37 := Try.underlying37
  have HR0_0 := Aside0.mk hr0_0
  have HC0_0 := Aside0.mk hc0_0
  clear hr0_0 hc0_0
  have HR0_1 := Aside0.mk hr0_1
  have HC0_1 := Aside0.mk hc0_1
  clear hr0_1 hc0_1
  have HR0_2 := Aside0.mk hr0_2
  have HC0_2 := Aside0.mk hc0_2
  clear hr0_2 hc0_2
  have HR1_17 := Aside0.mk hr1_17
  have HC1_17 := Aside0.mk hc1_17
  clear hr1_17 hc1_17
  have HB := Aside0.mk (Below.refl w.heap.size w)
  have H : (if a1_0 < 0 then (some (0, 0, 0, 0, 0, false)) else (if a1_0 ≥ (l0_0.length : Int) then (some (0, 0, 0, 0, 0, false)) else (if 0 ≤ a1_0 then (if a1_0 < (l0_0.length : Int) then ((rotaref06_Decode.f (rd l0_0 a1_0)).bind fun bt200 => (some (bt200.1, bt200.2.1, bt200.2.2.1, bt200.2.2.2.1, bt200.2.2.2.2.1, (bt200.2.2.2.2.2 == 0)))) else (none)) else (none)))) = some (r1, r2, r3, r4, r5, r6) := h
  clear h
  by_cases c3 : a1_0 < 0
  · rw [if_pos c3] at H
    have c3b0 : decide (a1_0 < 0) = true := decide_eq_true c3
    clear c3
    simp only [Option.some.injEq, Prod.mk.injEq] at H
    obtain ⟨rfl, rfl, rfl, rfl, rfl, rfl⟩ := H
    go_enter Try.func31, Try.ntmps31
    go_wp2_with (first | ((with_reducible refine gate_dst (N := 2) rfl ?_); (try (refine gate_guard (by rfl) ?_; dsimp only)); refine box_event ?hg (N := 2) ?hd (cs := #[.slice A0_0 l0_0.length c0_0, .slice A0_1 l0_1.length c0_1, .slice A0_2 l0_2.length c0_2]) (t := 26) ?hr ?_; (case hd => rfl); (case hg => rfl); (case hr => first | (go_simp; done) | (go_simp; rfl)); intro gb196 hg w4 hbox hb; have n0_ := Aside0.mk (below_step (by repeat (first | (with_reducible first | exact HB.out | apply below_alloc | apply pw_below_drewN | apply below_drew1) | exact HB.out)) hb); have n1_ := Aside0.mk (hbox); have n2_ := Aside0.mk ((by rw [hg]; exact (below_size (by repeat (first | (with_reducible first | exact HB.out | apply below_alloc | apply pw_below_drewN | apply below_drew1) | exact HB.out))) : w.heap.size ≤ gb196)); have n3_ := Aside0.mk ((by rw [hg]; exact (below_size (by repeat (first | (with_reducible first | exact HB.out | apply below_alloc | apply pw_below_drewN | apply below_drew1) | exact HB.out))) : w.heap.size ≤ gb196)); clear HB; have HB := n0_; have BK196 := n1_; have GW196 := n2_; have GE196 := n3_; clear n0_ n1_ n2_ n3_; clear hb hbox hg) | ((with_reducible refine gate_dst (N := 3) rfl ?_); (try (refine gate_guard (by rfl) ?_; dsimp only)); refine box_event ?hg (N := 3) ?hd (cs := #[.int .i64 a1_0, .int .i64 a1_1, .int .i64 a1_2, .int .i64 a1_3, .int .i64 a1_4, .int .i64 a1_5, .int .i64 a1_6, .int .i64 a1_7, .int .i64 a1_8, .int .i64 a1_9, .int .i64 a1_10, .int .i64 a1_11, .int .i64 a1_12, .int .i64 a1_13, .int .i64 a1_14, .int .i64 a1_15, .int .i64 a1_16, .slice A1_17 l1_17.length c1_17]) (t := 30) ?hr ?_; (case hd => rfl); (case hg => rfl); (case hr => first | (go_simp; done) | (go_simp; rfl)); intro gb197 hg w5 hbox hb; have n0_ := Aside0.mk (blk_below (g := gb196) (o := .cells #[.slice A0_0 l0_0.length c0_0, .slice A0_1 l0_1.length c0_1, .slice A0_2 l0_2.length c0_2] 26 (0, 0)) (by (with_reducible repeat (first | refine blk_drewN ?_ _ | refine blk_drew ?_ | refine blk_alloc ?_ _)); exact BK196.out) hb); have n1_ := Aside0.mk (below_step (by repeat (first | (with_reducible first | exact HB.out | apply below_alloc | apply pw_below_drewN | apply below_drew1 | refine below_set ?_ GE196.out) | exact HB.out)) hb); have n2_ := Aside0.mk (hbox); have n3_ := Aside0.mk ((by rw [hg]; exact (below_size (by repeat (first | (with_reducible first | exact HB.out | apply below_alloc | apply pw_below_drewN | apply below_drew1 | refine below_set ?_ GE196.out) | exact HB.out))) : w.heap.size ≤ gb197)); have n4_ := Aside0.mk ((by rw [hg]; exact (below_size (by repeat (first | (with_reducible first | exact HB.out | apply below_alloc | apply pw_below_drewN | apply below_drew1 | refine below_set ?_ GE196.out) | exact HB.out))) : w.heap.size ≤ gb197)); have n5_ := Aside0.mk ((by rw [hg]; exact Nat.ne_of_lt (blk_lt (g := gb196) (o := .cells #[.slice A0_0 l0_0.length c0_0, .slice A0_1 l0_1.length c0_1, .slice A0_2 l0_2.length c0_2] 26 (0, 0)) (by (with_reducible repeat (first | refine blk_drewN ?_ _ | refine blk_drew ?_ | refine blk_alloc ?_ _)); exact BK196.out)) : gb196 ≠ gb197)); have n6_ := Aside0.mk ((by rw [hg]; exact Nat.ne_of_gt (blk_lt (g := gb196) (o := .cells #[.slice A0_0 l0_0.length c0_0, .slice A0_1 l0_1.length c0_1, .slice A0_2 l0_2.length c0_2] 26 (0, 0)) (by (with_reducible repeat (first | refine blk_drewN ?_ _ | refine blk_drew ?_ | refine blk_alloc ?_ _)); exact BK196.out)) : gb197 ≠ gb196)); clear BK196; clear HB; have BK196 := n0_; have HB := n1_; have BK197 := n2_; have GW197 := n3_; have GE197 := n4_; have NB196_197 := n5_; have NB197_196 := n6_; clear n0_ n1_ n2_ n3_ n4_ n5_ n6_; clear hb hbox hg) | ((with_reducible refine gate_dst (N := 4) rfl ?_); (try (refine gate_guard (by rfl) ?_; dsimp only)); refine box_event ?hg (N := 4) ?hd (cs := #[.int .i64 0, .int .i64 0, .int .i64 0, .int .i64 0, .int .i64 0]) (t := 37) ?hr ?_; (case hd => rfl); (case hg => rfl); (case hr => first | (go_simp; done) | (go_simp; rfl)); intro gb198 hg w6 hbox hb; have n0_ := Aside0.mk (blk_below (g := gb196) (o := .cells #[.slice A0_0 l0_0.length c0_0, .slice A0_1 l0_1.length c0_1, .slice A0_2 l0_2.length c0_2] 26 (0, 0)) (by (with_reducible repeat (first | refine blk_drewN ?_ _ | refine blk_drew ?_ | refine blk_alloc ?_ _)); exact BK196.out) hb); have n1_ := Aside0.mk (blk_below (g := gb197) (o := .cells #[.int .i64 a1_0, .int .i64 a1_1, .int .i64 a1_2, .int .i64 a1_3, .int .i64 a1_4, .int .i64 a1_5, .int .i64 a1_6, .int .i64 a1_7, .int .i64 a1_8, .int .i64 a1_9, .int .i64 a1_10, .int .i64 a1_11, .int .i64 a1_12, .int .i64 a1_13, .int .i64 a1_14, .int .i64 a1_15, .int .i64 a1_16, .slice A1_17 l1_17.length c1_17] 30 (0, 0)) (by (with_reducible repeat (first | refine blk_drewN ?_ _ | refine blk_drew ?_ | refine blk_alloc ?_ _)); exact BK197.out) hb); have n2_ := Aside0.mk (below_step (by repeat (first | (with_reducible first | exact HB.out | apply below_alloc | apply pw_below_drewN | apply below_drew1 | refine below_set ?_ GE196.out | refine below_set ?_ GE197.out) | exact HB.out)) hb); have n3_ := Aside0.mk (hbox); have n4_ := Aside0.mk ((by rw [hg]; exact (below_size (by repeat (first | (with_reducible first | exact HB.out | apply below_alloc | apply pw_below_drewN | apply below_drew1 | refine below_set ?_ GE196.out | refine below_set ?_ GE197.out) | exact HB.out))) : w.heap.size ≤ gb198)); have n5_ := Aside0.mk ((by rw [hg]; exact (below_size (by repeat (first | (with_reducible first | exact HB.out | apply below_alloc | apply pw_below_drewN | apply below_drew1 | refine below_set ?_ GE196.out | refine below_set ?_ GE197.out) | exact HB.out))) : w.heap.size ≤ gb198)); have n6_ := Aside0.mk ((by rw [hg]; exact Nat.ne_of_lt (blk_lt (g := gb196) (o := .cells #[.slice A0_0 l0_0.length c0_0, .slice A0_1 l0_1.length c0_1, .slice A0_2 l0_2.length c0_2] 26 (0, 0)) (by (with_reducible repeat (first | refine blk_drewN ?_ _ | refine blk_drew ?_ | refine blk_alloc ?_ _)); exact BK196.out)) : gb196 ≠ gb198)); have n7_ := Aside0.mk ((by rw [hg]; exact Nat.ne_of_gt (blk_lt (g := gb196) (o := .cells #[.slice A0_0 l0_0.length c0_0, .slice A0_1 l0_1.length c0_1, .slice A0_2 l0_2.length c0_2] 26 (0, 0)) (by (with_reducible repeat (first | refine blk_drewN ?_ _ | refine blk_drew ?_ | refine blk_alloc ?_ _)); exact BK196.out)) : gb198 ≠ gb196)); have n8_ := Aside0.mk ((by rw [hg]; exact Nat.ne_of_lt (blk_lt (g := gb197) (o := .cells #[.int .i64 a1_0, .int .i64 a1_1, .int .i64 a1_2, .int .i64 a1_3, .int .i64 a1_4, .int .i64 a1_5, .int .i64 a1_6, .int .i64 a1_7, .int .i64 a1_8, .int .i64 a1_9, .int .i64 a1_10, .int .i64 a1_11, .int .i64 a1_12, .int .i64 a1_13, .int .i64 a1_14, .int .i64 a1_15, .int .i64 a1_16, .slice A1_17 l1_17.length c1_17] 30 (0, 0)) (by (with_reducible repeat (first | refine blk_drewN ?_ _ | refine blk_drew ?_ | refine blk_alloc ?_ _)); exact BK197.out)) : gb197 ≠ gb198)); have n9_ := Aside0.mk ((by rw [hg]; exact Nat.ne_of_gt (blk_lt (g := gb197) (o := .cells #[.int .i64 a1_0, .int .i64 a1_1, .int .i64 a1_2, .int .i64 a1_3, .int .i64 a1_4, .int .i64 a1_5, .int .i64 a1_6, .int .i64 a1_7, .int .i64 a1_8, .int .i64 a1_9, .int .i64 a1_10, .int .i64 a1_11, .int .i64 a1_12, .int .i64 a1_13, .int .i64 a1_14, .int .i64 a1_15, .int .i64 a1_16, .slice A1_17 l1_17.length c1_17] 30 (0, 0)) (by (with_reducible repeat (first | refine blk_drewN ?_ _ | refine blk_drew ?_ | refine blk_alloc ?_ _)); exact BK197.out)) : gb198 ≠ gb197)); clear BK196; clear BK197; clear HB; have BK196 := n0_; have BK197 := n1_; have HB := n2_; have BK198 := n3_; have GW198 := n4_; have GE198 := n5_; have NB196_198 := n6_; have NB198_196 := n7_; have NB197_198 := n8_; have NB198_197 := n9_; clear n0_ n1_ n2_ n3_ n4_ n5_ n6_ n7_ n8_ n9_; clear hb hbox hg; have hnb7 := NB197_196.out; have hnc7 := NB196_197.out; have hnb8 := NB197_198.out; have hnc8 := NB198_197.out; have hcz9_0 : w6.cell? ⟨gb197, 0, none⟩ = some (.int .i64 a1_0) := (blk_cell BK197.out 0).trans rfl; have hcz9_1 : w6.cell? ⟨gb197, 1, none⟩ = some (.int .i64 a1_1) := (blk_cell BK197.out 1).trans rfl; have hcz9_2 : w6.cell? ⟨gb197, 2, none⟩ = some (.int .i64 a1_2) := (blk_cell BK197.out 2).trans rfl; have hcz9_3 : w6.cell? ⟨gb197, 3, none⟩ = some (.int .i64 a1_3) := (blk_cell BK197.out 3).trans rfl; have hcz9_4 : w6.cell? ⟨gb197, 4, none⟩ = some (.int .i64 a1_4) := (blk_cell BK197.out 4).trans rfl; have hcz9_5 : w6.cell? ⟨gb197, 5, none⟩ = some (.int .i64 a1_5) := (blk_cell BK197.out 5).trans rfl; have hcz9_6 : w6.cell? ⟨gb197, 6, none⟩ = some (.int .i64 a1_6) := (blk_cell BK197.out 6).trans rfl; have hcz9_7 : w6.cell? ⟨gb197, 7, none⟩ = some (.int .i64 a1_7) := (blk_cell BK197.out 7).trans rfl; have hcz9_8 : w6.cell? ⟨gb197, 8, none⟩ = some (.int .i64 a1_8) := (blk_cell BK197.out 8).trans rfl; have hcz9_9 : w6.cell? ⟨gb197, 9, none⟩ = some (.int .i64 a1_9) := (blk_cell BK197.out 9).trans rfl; have hcz9_10 : w6.cell? ⟨gb197, 10, none⟩ = some (.int .i64 a1_10) := (blk_cell BK197.out 10).trans rfl; have hcz9_11 : w6.cell? ⟨gb197, 11, none⟩ = some (.int .i64 a1_11) := (blk_cell BK197.out 11).trans rfl; have hcz9_12 : w6.cell? ⟨gb197, 12, none⟩ = some (.int .i64 a1_12) := (blk_cell BK197.out 12).trans rfl; have hcz9_13 : w6.cell? ⟨gb197, 13, none⟩ = some (.int .i64 a1_13) := (blk_cell BK197.out 13).trans rfl; have hcz9_14 : w6.cell? ⟨gb197, 14, none⟩ = some (.int .i64 a1_14) := (blk_cell BK197.out 14).trans rfl; have hcz9_15 : w6.cell? ⟨gb197, 15, none⟩ = some (.int .i64 a1_15) := (blk_cell BK197.out 15).trans rfl; have hcz9_16 : w6.cell? ⟨gb197, 16, none⟩ = some (.int .i64 a1_16) := (blk_cell BK197.out 16).trans rfl; have hcz9_17 : w6.cell? ⟨gb197, 17, none⟩ = some (.slice A1_17 l1_17.length c1_17) := (blk_cell BK197.out 17).trans rfl; have hfz9_0 := blk_frozen BK197.out 0; have hfz9_1 := blk_frozen BK197.out 1; have hfz9_2 := blk_frozen BK197.out 2; have hfz9_3 := blk_frozen BK197.out 3; have hfz9_4 := blk_frozen BK197.out 4; have hfz9_5 := blk_frozen BK197.out 5; have hfz9_6 := blk_frozen BK197.out 6; have hfz9_7 := blk_frozen BK197.out 7; have hfz9_8 := blk_frozen BK197.out 8; have hfz9_9 := blk_frozen BK197.out 9; have hfz9_10 := blk_frozen BK197.out 10; have hfz9_11 := blk_frozen BK197.out 11; have hfz9_12 := blk_frozen BK197.out 12; have hfz9_13 := blk_frozen BK197.out 13; have hfz9_14 := blk_frozen BK197.out 14; have hfz9_15 := blk_frozen BK197.out 15; have hfz9_16 := blk_frozen BK197.out 16; have hfz9_17 := blk_frozen BK197.out 17; have hnb10 := NB198_196.out; have hnc10 := NB196_198.out; have hcz11_0 : w6.cell? ⟨gb198, 0, none⟩ = some (.int .i64 0) := (blk_cell BK198.out 0).trans rfl; have hcz11_1 : w6.cell? ⟨gb198, 1, none⟩ = some (.int .i64 0) := (blk_cell BK198.out 1).trans rfl; have hcz11_2 : w6.cell? ⟨gb198, 2, none⟩ = some (.int .i64 0) := (blk_cell BK198.out 2).trans rfl; have hcz11_3 : w6.cell? ⟨gb198, 3, none⟩ = some (.int .i64 0) := (blk_cell BK198.out 3).trans rfl; have hcz11_4 : w6.cell? ⟨gb198, 4, none⟩ = some (.int .i64 0) := (blk_cell BK198.out 4).trans rfl; have hfz11_0 := blk_frozen BK198.out 0; have hfz11_1 := blk_frozen BK198.out 1; have hfz11_2 := blk_frozen BK198.out 2; have hfz11_3 := blk_frozen BK198.out 3; have hfz11_4 := blk_frozen BK198.out 4))
    refine bodyPost_ret (results_ct rfl _ _ gb198 37 #[.int .i64 0, .int .i64 0, .int .i64 0, .int .i64 0, .int .i64 0] (0, 0) _ rfl (by (with_reducible repeat (first | refine blk_drewN ?_ _ | refine blk_drew ?_ | refine blk_alloc ?_ _)); refine blk_put (cs := #[.int .i64 0, .int .i64 0, .int .i64 0, .int .i64 0, .int .i64 0]) ?_ 4 _ rfl; (with_reducible repeat (first | refine blk_drewN ?_ _ | refine blk_drew ?_ | refine blk_alloc ?_ _)); refine blk_put (cs := #[.int .i64 0, .int .i64 0, .int .i64 0, .int .i64 0, .int .i64 0]) ?_ 3 _ rfl; (with_reducible repeat (first | refine blk_drewN ?_ _ | refine blk_drew ?_ | refine blk_alloc ?_ _)); refine blk_put (cs := #[.int .i64 0, .int .i64 0, .int .i64 0, .int .i64 0, .int .i64 0]) ?_ 2 _ rfl; (with_reducible repeat (first | refine blk_drewN ?_ _ | refine blk_drew ?_ | refine blk_alloc ?_ _)); refine blk_put (cs := #[.int .i64 0, .int .i64 0, .int .i64 0, .int .i64 0, .int .i64 0]) ?_ 1 _ rfl; (with_reducible repeat (first | refine blk_drewN ?_ _ | refine blk_drew ?_ | refine blk_alloc ?_ _)); refine blk_put (cs := #[.int .i64 0, .int .i64 0, .int .i64 0, .int .i64 0, .int .i64 0]) ?_ 0 _ rfl; (with_reducible repeat (first | refine blk_drewN ?_ _ | refine blk_drew ?_ | refine blk_alloc ?_ _)); exact BK198.out) Try.underlying37 rfl (by kernel_rfl)) rfl ?_
    exact ⟨by first | rfl | (simp [errW_none, errW_some] <;> rfl) | (simp [*, errW_none, errW_some] <;> rfl), by repeat (first | (with_reducible first | exact HB.out | apply below_alloc | apply pw_below_drewN | apply below_drew1 | refine below_set ?_ GE196.out | refine below_set ?_ GE197.out | refine below_set ?_ GE198.out) | exact HB.out)⟩
  · rw [if_neg c3] at H
    have c3b0 : decide (a1_0 < 0) = false := decide_eq_false c3
    clear c3
    by_cases c12 : a1_0 ≥ (l0_0.length : Int)
    · rw [if_pos c12] at H
      have c12b0 : decide ((l0_0.length : Int) ≤ a1_0) = true := decide_eq_true c12
      clear c12
      simp only [Option.some.injEq, Prod.mk.injEq] at H
      obtain ⟨rfl, rfl, rfl, rfl, rfl, rfl⟩ := H
      go_enter Try.func31, Try.ntmps31
      go_wp2_with (first | ((with_reducible refine gate_dst (N := 2) rfl ?_); (try (refine gate_guard (by rfl) ?_; dsimp only)); refine box_event ?hg (N := 2) ?hd (cs := #[.slice A0_0 l0_0.length c0_0, .slice A0_1 l0_1.length c0_1, .slice A0_2 l0_2.length c0_2]) (t := 26) ?hr ?_; (case hd => rfl); (case hg => rfl); (case hr => first | (go_simp; done) | (go_simp; rfl)); intro gb196 hg w13 hbox hb; have n0_ := Aside0.mk (below_step (by repeat (first | (with_reducible first | exact HB.out | apply below_alloc | apply pw_below_drewN | apply below_drew1) | exact HB.out)) hb); have n1_ := Aside0.mk (hbox); have n2_ := Aside0.mk ((by rw [hg]; exact (below_size (by repeat (first | (with_reducible first | exact HB.out | apply below_alloc | apply pw_below_drewN | apply below_drew1) | exact HB.out))) : w.heap.size ≤ gb196)); have n3_ := Aside0.mk ((by rw [hg]; exact (below_size (by repeat (first | (with_reducible first | exact HB.out | apply below_alloc | apply pw_below_drewN | apply below_drew1) | exact HB.out))) : w.heap.size ≤ gb196)); clear HB; have HB := n0_; have BK196 := n1_; have GW196 := n2_; have GE196 := n3_; clear n0_ n1_ n2_ n3_; clear hb hbox hg) | ((with_reducible refine gate_dst (N := 3) rfl ?_); (try (refine gate_guard (by rfl) ?_; dsimp only)); refine box_event ?hg (N := 3) ?hd (cs := #[.int .i64 a1_0, .int .i64 a1_1, .int .i64 a1_2, .int .i64 a1_3, .int .i64 a1_4, .int .i64 a1_5, .int .i64 a1_6, .int .i64 a1_7, .int .i64 a1_8, .int .i64 a1_9, .int .i64 a1_10, .int .i64 a1_11, .int .i64 a1_12, .int .i64 a1_13, .int .i64 a1_14, .int .i64 a1_15, .int .i64 a1_16, .slice A1_17 l1_17.length c1_17]) (t := 30) ?hr ?_; (case hd => rfl); (case hg => rfl); (case hr => first | (go_simp; done) | (go_simp; rfl)); intro gb197 hg w14 hbox hb; have n0_ := Aside0.mk (blk_below (g := gb196) (o := .cells #[.slice A0_0 l0_0.length c0_0, .slice A0_1 l0_1.length c0_1, .slice A0_2 l0_2.length c0_2] 26 (0, 0)) (by (with_reducible repeat (first | refine blk_drewN ?_ _ | refine blk_drew ?_ | refine blk_alloc ?_ _)); exact BK196.out) hb); have n1_ := Aside0.mk (below_step (by repeat (first | (with_reducible first | exact HB.out | apply below_alloc | apply pw_below_drewN | apply below_drew1 | refine below_set ?_ GE196.out) | exact HB.out)) hb); have n2_ := Aside0.mk (hbox); have n3_ := Aside0.mk ((by rw [hg]; exact (below_size (by repeat (first | (with_reducible first | exact HB.out | apply below_alloc | apply pw_below_drewN | apply below_drew1 | refine below_set ?_ GE196.out) | exact HB.out))) : w.heap.size ≤ gb197)); have n4_ := Aside0.mk ((by rw [hg]; exact (below_size (by repeat (first | (with_reducible first | exact HB.out | apply below_alloc | apply pw_below_drewN | apply below_drew1 | refine below_set ?_ GE196.out) | exact HB.out))) : w.heap.size ≤ gb197)); have n5_ := Aside0.mk ((by rw [hg]; exact Nat.ne_of_lt (blk_lt (g := gb196) (o := .cells #[.slice A0_0 l0_0.length c0_0, .slice A0_1 l0_1.length c0_1, .slice A0_2 l0_2.length c0_2] 26 (0, 0)) (by (with_reducible repeat (first | refine blk_drewN ?_ _ | refine blk_drew ?_ | refine blk_alloc ?_ _)); exact BK196.out)) : gb196 ≠ gb197)); have n6_ := Aside0.mk ((by rw [hg]; exact Nat.ne_of_gt (blk_lt (g := gb196) (o := .cells #[.slice A0_0 l0_0.length c0_0, .slice A0_1 l0_1.length c0_1, .slice A0_2 l0_2.length c0_2] 26 (0, 0)) (by (with_reducible repeat (first | refine blk_drewN ?_ _ | refine blk_drew ?_ | refine blk_alloc ?_ _)); exact BK196.out)) : gb197 ≠ gb196)); clear BK196; clear HB; have BK196 := n0_; have HB := n1_; have BK197 := n2_; have GW197 := n3_; have GE197 := n4_; have NB196_197 := n5_; have NB197_196 := n6_; clear n0_ n1_ n2_ n3_ n4_ n5_ n6_; clear hb hbox hg) | ((with_reducible refine gate_dst (N := 4) rfl ?_); (try (refine gate_guard (by rfl) ?_; dsimp only)); refine box_event ?hg (N := 4) ?hd (cs := #[.int .i64 0, .int .i64 0, .int .i64 0, .int .i64 0, .int .i64 0]) (t := 37) ?hr ?_; (case hd => rfl); (case hg => rfl); (case hr => first | (go_simp; done) | (go_simp; rfl)); intro gb198 hg w15 hbox hb; have n0_ := Aside0.mk (blk_below (g := gb196) (o := .cells #[.slice A0_0 l0_0.length c0_0, .slice A0_1 l0_1.length c0_1, .slice A0_2 l0_2.length c0_2] 26 (0, 0)) (by (with_reducible repeat (first | refine blk_drewN ?_ _ | refine blk_drew ?_ | refine blk_alloc ?_ _)); exact BK196.out) hb); have n1_ := Aside0.mk (blk_below (g := gb197) (o := .cells #[.int .i64 a1_0, .int .i64 a1_1, .int .i64 a1_2, .int .i64 a1_3, .int .i64 a1_4, .int .i64 a1_5, .int .i64 a1_6, .int .i64 a1_7, .int .i64 a1_8, .int .i64 a1_9, .int .i64 a1_10, .int .i64 a1_11, .int .i64 a1_12, .int .i64 a1_13, .int .i64 a1_14, .int .i64 a1_15, .int .i64 a1_16, .slice A1_17 l1_17.length c1_17] 30 (0, 0)) (by (with_reducible repeat (first | refine blk_drewN ?_ _ | refine blk_drew ?_ | refine blk_alloc ?_ _)); exact BK197.out) hb); have n2_ := Aside0.mk (below_step (by repeat (first | (with_reducible first | exact HB.out | apply below_alloc | apply pw_below_drewN | apply below_drew1 | refine below_set ?_ GE196.out | refine below_set ?_ GE197.out) | exact HB.out)) hb); have n3_ := Aside0.mk (hbox); have n4_ := Aside0.mk ((by rw [hg]; exact (below_size (by repeat (first | (with_reducible first | exact HB.out | apply below_alloc | apply pw_below_drewN | apply below_drew1 | refine below_set ?_ GE196.out | refine below_set ?_ GE197.out) | exact HB.out))) : w.heap.size ≤ gb198)); have n5_ := Aside0.mk ((by rw [hg]; exact (below_size (by repeat (first | (with_reducible first | exact HB.out | apply below_alloc | apply pw_below_drewN | apply below_drew1 | refine below_set ?_ GE196.out | refine below_set ?_ GE197.out) | exact HB.out))) : w.heap.size ≤ gb198)); have n6_ := Aside0.mk ((by rw [hg]; exact Nat.ne_of_lt (blk_lt (g := gb196) (o := .cells #[.slice A0_0 l0_0.length c0_0, .slice A0_1 l0_1.length c0_1, .slice A0_2 l0_2.length c0_2] 26 (0, 0)) (by (with_reducible repeat (first | refine blk_drewN ?_ _ | refine blk_drew ?_ | refine blk_alloc ?_ _)); exact BK196.out)) : gb196 ≠ gb198)); have n7_ := Aside0.mk ((by rw [hg]; exact Nat.ne_of_gt (blk_lt (g := gb196) (o := .cells #[.slice A0_0 l0_0.length c0_0, .slice A0_1 l0_1.length c0_1, .slice A0_2 l0_2.length c0_2] 26 (0, 0)) (by (with_reducible repeat (first | refine blk_drewN ?_ _ | refine blk_drew ?_ | refine blk_alloc ?_ _)); exact BK196.out)) : gb198 ≠ gb196)); have n8_ := Aside0.mk ((by rw [hg]; exact Nat.ne_of_lt (blk_lt (g := gb197) (o := .cells #[.int .i64 a1_0, .int .i64 a1_1, .int .i64 a1_2, .int .i64 a1_3, .int .i64 a1_4, .int .i64 a1_5, .int .i64 a1_6, .int .i64 a1_7, .int .i64 a1_8, .int .i64 a1_9, .int .i64 a1_10, .int .i64 a1_11, .int .i64 a1_12, .int .i64 a1_13, .int .i64 a1_14, .int .i64 a1_15, .int .i64 a1_16, .slice A1_17 l1_17.length c1_17] 30 (0, 0)) (by (with_reducible repeat (first | refine blk_drewN ?_ _ | refine blk_drew ?_ | refine blk_alloc ?_ _)); exact BK197.out)) : gb197 ≠ gb198)); have n9_ := Aside0.mk ((by rw [hg]; exact Nat.ne_of_gt (blk_lt (g := gb197) (o := .cells #[.int .i64 a1_0, .int .i64 a1_1, .int .i64 a1_2, .int .i64 a1_3, .int .i64 a1_4, .int .i64 a1_5, .int .i64 a1_6, .int .i64 a1_7, .int .i64 a1_8, .int .i64 a1_9, .int .i64 a1_10, .int .i64 a1_11, .int .i64 a1_12, .int .i64 a1_13, .int .i64 a1_14, .int .i64 a1_15, .int .i64 a1_16, .slice A1_17 l1_17.length c1_17] 30 (0, 0)) (by (with_reducible repeat (first | refine blk_drewN ?_ _ | refine blk_drew ?_ | refine blk_alloc ?_ _)); exact BK197.out)) : gb198 ≠ gb197)); clear BK196; clear BK197; clear HB; have BK196 := n0_; have BK197 := n1_; have HB := n2_; have BK198 := n3_; have GW198 := n4_; have GE198 := n5_; have NB196_198 := n6_; have NB198_196 := n7_; have NB197_198 := n8_; have NB198_197 := n9_; clear n0_ n1_ n2_ n3_ n4_ n5_ n6_ n7_ n8_ n9_; clear hb hbox hg; have hnb16 := NB197_196.out; have hnc16 := NB196_197.out; have hnb17 := NB197_198.out; have hnc17 := NB198_197.out; have hcz18_0 : w15.cell? ⟨gb197, 0, none⟩ = some (.int .i64 a1_0) := (blk_cell BK197.out 0).trans rfl; have hcz18_1 : w15.cell? ⟨gb197, 1, none⟩ = some (.int .i64 a1_1) := (blk_cell BK197.out 1).trans rfl; have hcz18_2 : w15.cell? ⟨gb197, 2, none⟩ = some (.int .i64 a1_2) := (blk_cell BK197.out 2).trans rfl; have hcz18_3 : w15.cell? ⟨gb197, 3, none⟩ = some (.int .i64 a1_3) := (blk_cell BK197.out 3).trans rfl; have hcz18_4 : w15.cell? ⟨gb197, 4, none⟩ = some (.int .i64 a1_4) := (blk_cell BK197.out 4).trans rfl; have hcz18_5 : w15.cell? ⟨gb197, 5, none⟩ = some (.int .i64 a1_5) := (blk_cell BK197.out 5).trans rfl; have hcz18_6 : w15.cell? ⟨gb197, 6, none⟩ = some (.int .i64 a1_6) := (blk_cell BK197.out 6).trans rfl; have hcz18_7 : w15.cell? ⟨gb197, 7, none⟩ = some (.int .i64 a1_7) := (blk_cell BK197.out 7).trans rfl; have hcz18_8 : w15.cell? ⟨gb197, 8, none⟩ = some (.int .i64 a1_8) := (blk_cell BK197.out 8).trans rfl; have hcz18_9 : w15.cell? ⟨gb197, 9, none⟩ = some (.int .i64 a1_9) := (blk_cell BK197.out 9).trans rfl; have hcz18_10 : w15.cell? ⟨gb197, 10, none⟩ = some (.int .i64 a1_10) := (blk_cell BK197.out 10).trans rfl; have hcz18_11 : w15.cell? ⟨gb197, 11, none⟩ = some (.int .i64 a1_11) := (blk_cell BK197.out 11).trans rfl; have hcz18_12 : w15.cell? ⟨gb197, 12, none⟩ = some (.int .i64 a1_12) := (blk_cell BK197.out 12).trans rfl; have hcz18_13 : w15.cell? ⟨gb197, 13, none⟩ = some (.int .i64 a1_13) := (blk_cell BK197.out 13).trans rfl; have hcz18_14 : w15.cell? ⟨gb197, 14, none⟩ = some (.int .i64 a1_14) := (blk_cell BK197.out 14).trans rfl; have hcz18_15 : w15.cell? ⟨gb197, 15, none⟩ = some (.int .i64 a1_15) := (blk_cell BK197.out 15).trans rfl; have hcz18_16 : w15.cell? ⟨gb197, 16, none⟩ = some (.int .i64 a1_16) := (blk_cell BK197.out 16).trans rfl; have hcz18_17 : w15.cell? ⟨gb197, 17, none⟩ = some (.slice A1_17 l1_17.length c1_17) := (blk_cell BK197.out 17).trans rfl; have hfz18_0 := blk_frozen BK197.out 0; have hfz18_1 := blk_frozen BK197.out 1; have hfz18_2 := blk_frozen BK197.out 2; have hfz18_3 := blk_frozen BK197.out 3; have hfz18_4 := blk_frozen BK197.out 4; have hfz18_5 := blk_frozen BK197.out 5; have hfz18_6 := blk_frozen BK197.out 6; have hfz18_7 := blk_frozen BK197.out 7; have hfz18_8 := blk_frozen BK197.out 8; have hfz18_9 := blk_frozen BK197.out 9; have hfz18_10 := blk_frozen BK197.out 10; have hfz18_11 := blk_frozen BK197.out 11; have hfz18_12 := blk_frozen BK197.out 12; have hfz18_13 := blk_frozen BK197.out 13; have hfz18_14 := blk_frozen BK197.out 14; have hfz18_15 := blk_frozen BK197.out 15; have hfz18_16 := blk_frozen BK197.out 16; have hfz18_17 := blk_frozen BK197.out 17; have hnb19 := NB196_198.out; have hnc19 := NB198_196.out; have hcz20_0 : w15.cell? ⟨gb196, 0, none⟩ = some (.slice A0_0 l0_0.length c0_0) := (blk_cell BK196.out 0).trans rfl; have hcz20_1 : w15.cell? ⟨gb196, 1, none⟩ = some (.slice A0_1 l0_1.length c0_1) := (blk_cell BK196.out 1).trans rfl; have hcz20_2 : w15.cell? ⟨gb196, 2, none⟩ = some (.slice A0_2 l0_2.length c0_2) := (blk_cell BK196.out 2).trans rfl; have hfz20_0 := blk_frozen BK196.out 0; have hfz20_1 := blk_frozen BK196.out 1; have hfz20_2 := blk_frozen BK196.out 2; have hcz21_0 : w15.cell? ⟨gb198, 0, none⟩ = some (.int .i64 0) := (blk_cell BK198.out 0).trans rfl; have hcz21_1 : w15.cell? ⟨gb198, 1, none⟩ = some (.int .i64 0) := (blk_cell BK198.out 1).trans rfl; have hcz21_2 : w15.cell? ⟨gb198, 2, none⟩ = some (.int .i64 0) := (blk_cell BK198.out 2).trans rfl; have hcz21_3 : w15.cell? ⟨gb198, 3, none⟩ = some (.int .i64 0) := (blk_cell BK198.out 3).trans rfl; have hcz21_4 : w15.cell? ⟨gb198, 4, none⟩ = some (.int .i64 0) := (blk_cell BK198.out 4).trans rfl; have hfz21_0 := blk_frozen BK198.out 0; have hfz21_1 := blk_frozen BK198.out 1; have hfz21_2 := blk_frozen BK198.out 2; have hfz21_3 := blk_frozen BK198.out 3; have hfz21_4 := blk_frozen BK198.out 4))
      refine bodyPost_ret (results_ct rfl _ _ gb198 37 #[.int .i64 0, .int .i64 0, .int .i64 0, .int .i64 0, .int .i64 0] (0, 0) _ rfl (by (with_reducible repeat (first | refine blk_drewN ?_ _ | refine blk_drew ?_ | refine blk_alloc ?_ _)); refine blk_put (cs := #[.int .i64 0, .int .i64 0, .int .i64 0, .int .i64 0, .int .i64 0]) ?_ 4 _ rfl; (with_reducible repeat (first | refine blk_drewN ?_ _ | refine blk_drew ?_ | refine blk_alloc ?_ _)); refine blk_put (cs := #[.int .i64 0, .int .i64 0, .int .i64 0, .int .i64 0, .int .i64 0]) ?_ 3 _ rfl; (with_reducible repeat (first | refine blk_drewN ?_ _ | refine blk_drew ?_ | refine blk_alloc ?_ _)); refine blk_put (cs := #[.int .i64 0, .int .i64 0, .int .i64 0, .int .i64 0, .int .i64 0]) ?_ 2 _ rfl; (with_reducible repeat (first | refine blk_drewN ?_ _ | refine blk_drew ?_ | refine blk_alloc ?_ _)); refine blk_put (cs := #[.int .i64 0, .int .i64 0, .int .i64 0, .int .i64 0, .int .i64 0]) ?_ 1 _ rfl; (with_reducible repeat (first | refine blk_drewN ?_ _ | refine blk_drew ?_ | refine blk_alloc ?_ _)); refine blk_put (cs := #[.int .i64 0, .int .i64 0, .int .i64 0, .int .i64 0, .int .i64 0]) ?_ 0 _ rfl; (with_reducible repeat (first | refine blk_drewN ?_ _ | refine blk_drew ?_ | refine blk_alloc ?_ _)); exact BK198.out) Try.underlying37 rfl (by kernel_rfl)) rfl ?_
      exact ⟨by first | rfl | (simp [errW_none, errW_some] <;> rfl) | (simp [*, errW_none, errW_some] <;> rfl), by repeat (first | (with_reducible first | exact HB.out | apply below_alloc | apply pw_below_drewN | apply below_drew1 | refine below_set ?_ GE196.out | refine below_set ?_ GE197.out | refine below_set ?_ GE198.out) | exact HB.out)⟩
    · rw [if_neg c12] at H
      have c12b0 : decide ((l0_0.length : Int) ≤ a1_0) = false := decide_eq_false c12
      clear c12
      by_cases c22 : 0 ≤ a1_0
      · rw [if_pos c22] at H
        have c22b0 : decide (0 ≤ a1_0) = true := decide_eq_true c22
        clear c22
        by_cases c23 : a1_0 < (l0_0.length : Int)
        · rw [if_pos c23] at H
          have c23b0 : decide (a1_0 < (l0_0.length : Int)) = true := decide_eq_true c23
          clear c23
          replace H := Option.bind_eq_some_iff.mp H
          obtain ⟨⟨t200, t201, t202, t203, t204, t205⟩, A240, H⟩ := H
          replace H : (some (t200, t201, t202, t203, t204, (t205 == 0))) = some (r1, r2, r3, r4, r5, r6) := H
          have A24 := Aside0.mk A240
          clear A240
          simp only [Option.some.injEq, Prod.mk.injEq] at H
          obtain ⟨rfl, rfl, rfl, rfl, rfl, rfl⟩ := H
          go_enter Try.func31, Try.ntmps31
          go_wp2_with (first | ((with_reducible refine gate_dst (N := 2) rfl ?_); (try (refine gate_guard (by rfl) ?_; dsimp only)); refine box_event ?hg (N := 2) ?hd (cs := #[.slice A0_0 l0_0.length c0_0, .slice A0_1 l0_1.length c0_1, .slice A0_2 l0_2.length c0_2]) (t := 26) ?hr ?_; (case hd => rfl); (case hg => rfl); (case hr => first | (go_simp; done) | (go_simp; rfl)); intro gb196 hg w25 hbox hb; have n0_ := Aside0.mk (below_step (by repeat (first | (with_reducible first | exact HB.out | apply below_alloc | apply pw_below_drewN | apply below_drew1) | exact HB.out)) hb); have n1_ := Aside0.mk (hbox); have n2_ := Aside0.mk ((by rw [hg]; exact (below_size (by repeat (first | (with_reducible first | exact HB.out | apply below_alloc | apply pw_below_drewN | apply below_drew1) | exact HB.out))) : w.heap.size ≤ gb196)); have n3_ := Aside0.mk ((by rw [hg]; exact (below_size (by repeat (first | (with_reducible first | exact HB.out | apply below_alloc | apply pw_below_drewN | apply below_drew1) | exact HB.out))) : w.heap.size ≤ gb196)); clear HB; have HB := n0_; have BK196 := n1_; have GW196 := n2_; have GE196 := n3_; clear n0_ n1_ n2_ n3_; clear hb hbox hg) | ((with_reducible refine gate_dst (N := 3) rfl ?_); (try (refine gate_guard (by rfl) ?_; dsimp only)); refine box_event ?hg (N := 3) ?hd (cs := #[.int .i64 a1_0, .int .i64 a1_1, .int .i64 a1_2, .int .i64 a1_3, .int .i64 a1_4, .int .i64 a1_5, .int .i64 a1_6, .int .i64 a1_7, .int .i64 a1_8, .int .i64 a1_9, .int .i64 a1_10, .int .i64 a1_11, .int .i64 a1_12, .int .i64 a1_13, .int .i64 a1_14, .int .i64 a1_15, .int .i64 a1_16, .slice A1_17 l1_17.length c1_17]) (t := 30) ?hr ?_; (case hd => rfl); (case hg => rfl); (case hr => first | (go_simp; done) | (go_simp; rfl)); intro gb197 hg w26 hbox hb; have n0_ := Aside0.mk (blk_below (g := gb196) (o := .cells #[.slice A0_0 l0_0.length c0_0, .slice A0_1 l0_1.length c0_1, .slice A0_2 l0_2.length c0_2] 26 (0, 0)) (by (with_reducible repeat (first | refine blk_drewN ?_ _ | refine blk_drew ?_ | refine blk_alloc ?_ _)); exact BK196.out) hb); have n1_ := Aside0.mk (below_step (by repeat (first | (with_reducible first | exact HB.out | apply below_alloc | apply pw_below_drewN | apply below_drew1 | refine below_set ?_ GE196.out) | exact HB.out)) hb); have n2_ := Aside0.mk (hbox); have n3_ := Aside0.mk ((by rw [hg]; exact (below_size (by repeat (first | (with_reducible first | exact HB.out | apply below_alloc | apply pw_below_drewN | apply below_drew1 | refine below_set ?_ GE196.out) | exact HB.out))) : w.heap.size ≤ gb197)); have n4_ := Aside0.mk ((by rw [hg]; exact (below_size (by repeat (first | (with_reducible first | exact HB.out | apply below_alloc | apply pw_below_drewN | apply below_drew1 | refine below_set ?_ GE196.out) | exact HB.out))) : w.heap.size ≤ gb197)); have n5_ := Aside0.mk ((by rw [hg]; exact Nat.ne_of_lt (blk_lt (g := gb196) (o := .cells #[.slice A0_0 l0_0.length c0_0, .slice A0_1 l0_1.length c0_1, .slice A0_2 l0_2.length c0_2] 26 (0, 0)) (by (with_reducible repeat (first | refine blk_drewN ?_ _ | refine blk_drew ?_ | refine blk_alloc ?_ _)); exact BK196.out)) : gb196 ≠ gb197)); have n6_ := Aside0.mk ((by rw [hg]; exact Nat.ne_of_gt (blk_lt (g := gb196) (o := .cells #[.slice A0_0 l0_0.length c0_0, .slice A0_1 l0_1.length c0_1, .slice A0_2 l0_2.length c0_2] 26 (0, 0)) (by (with_reducible repeat (first | refine blk_drewN ?_ _ | refine blk_drew ?_ | refine blk_alloc ?_ _)); exact BK196.out)) : gb197 ≠ gb196)); clear BK196; clear HB; have BK196 := n0_; have HB := n1_; have BK197 := n2_; have GW197 := n3_; have GE197 := n4_; have NB196_197 := n5_; have NB197_196 := n6_; clear n0_ n1_ n2_ n3_ n4_ n5_ n6_; clear hb hbox hg) | ((with_reducible refine gate_dst (N := 4) rfl ?_); (try (refine gate_guard (by rfl) ?_; dsimp only)); refine box_event ?hg (N := 4) ?hd (cs := #[.int .i64 0, .int .i64 0, .int .i64 0, .int .i64 0, .int .i64 0]) (t := 37) ?hr ?_; (case hd => rfl); (case hg => rfl); (case hr => first | (go_simp; done) | (go_simp; rfl)); intro gb198 hg w27 hbox hb; have n0_ := Aside0.mk (blk_below (g := gb196) (o := .cells #[.slice A0_0 l0_0.length c0_0, .slice A0_1 l0_1.length c0_1, .slice A0_2 l0_2.length c0_2] 26 (0, 0)) (by (with_reducible repeat (first | refine blk_drewN ?_ _ | refine blk_drew ?_ | refine blk_alloc ?_ _)); exact BK196.out) hb); have n1_ := Aside0.mk (blk_below (g := gb197) (o := .cells #[.int .i64 a1_0, .int .i64 a1_1, .int .i64 a1_2, .int .i64 a1_3, .int .i64 a1_4, .int .i64 a1_5, .int .i64 a1_6, .int .i64 a1_7, .int .i64 a1_8, .int .i64 a1_9, .int .i64 a1_10, .int .i64 a1_11, .int .i64 a1_12, .int .i64 a1_13, .int .i64 a1_14, .int .i64 a1_15, .int .i64 a1_16, .slice A1_17 l1_17.length c1_17] 30 (0, 0)) (by (with_reducible repeat (first | refine blk_drewN ?_ _ | refine blk_drew ?_ | refine blk_alloc ?_ _)); exact BK197.out) hb); have n2_ := Aside0.mk (below_step (by repeat (first | (with_reducible first | exact HB.out | apply below_alloc | apply pw_below_drewN | apply below_drew1 | refine below_set ?_ GE196.out | refine below_set ?_ GE197.out) | exact HB.out)) hb); have n3_ := Aside0.mk (hbox); have n4_ := Aside0.mk ((by rw [hg]; exact (below_size (by repeat (first | (with_reducible first | exact HB.out | apply below_alloc | apply pw_below_drewN | apply below_drew1 | refine below_set ?_ GE196.out | refine below_set ?_ GE197.out) | exact HB.out))) : w.heap.size ≤ gb198)); have n5_ := Aside0.mk ((by rw [hg]; exact (below_size (by repeat (first | (with_reducible first | exact HB.out | apply below_alloc | apply pw_below_drewN | apply below_drew1 | refine below_set ?_ GE196.out | refine below_set ?_ GE197.out) | exact HB.out))) : w.heap.size ≤ gb198)); have n6_ := Aside0.mk ((by rw [hg]; exact Nat.ne_of_lt (blk_lt (g := gb196) (o := .cells #[.slice A0_0 l0_0.length c0_0, .slice A0_1 l0_1.length c0_1, .slice A0_2 l0_2.length c0_2] 26 (0, 0)) (by (with_reducible repeat (first | refine blk_drewN ?_ _ | refine blk_drew ?_ | refine blk_alloc ?_ _)); exact BK196.out)) : gb196 ≠ gb198)); have n7_ := Aside0.mk ((by rw [hg]; exact Nat.ne_of_gt (blk_lt (g := gb196) (o := .cells #[.slice A0_0 l0_0.length c0_0, .slice A0_1 l0_1.length c0_1, .slice A0_2 l0_2.length c0_2] 26 (0, 0)) (by (with_reducible repeat (first | refine blk_drewN ?_ _ | refine blk_drew ?_ | refine blk_alloc ?_ _)); exact BK196.out)) : gb198 ≠ gb196)); have n8_ := Aside0.mk ((by rw [hg]; exact Nat.ne_of_lt (blk_lt (g := gb197) (o := .cells #[.int .i64 a1_0, .int .i64 a1_1, .int .i64 a1_2, .int .i64 a1_3, .int .i64 a1_4, .int .i64 a1_5, .int .i64 a1_6, .int .i64 a1_7, .int .i64 a1_8, .int .i64 a1_9, .int .i64 a1_10, .int .i64 a1_11, .int .i64 a1_12, .int .i64 a1_13, .int .i64 a1_14, .int .i64 a1_15, .int .i64 a1_16, .slice A1_17 l1_17.length c1_17] 30 (0, 0)) (by (with_reducible repeat (first | refine blk_drewN ?_ _ | refine blk_drew ?_ | refine blk_alloc ?_ _)); exact BK197.out)) : gb197 ≠ gb198)); have n9_ := Aside0.mk ((by rw [hg]; exact Nat.ne_of_gt (blk_lt (g := gb197) (o := .cells #[.int .i64 a1_0, .int .i64 a1_1, .int .i64 a1_2, .int .i64 a1_3, .int .i64 a1_4, .int .i64 a1_5, .int .i64 a1_6, .int .i64 a1_7, .int .i64 a1_8, .int .i64 a1_9, .int .i64 a1_10, .int .i64 a1_11, .int .i64 a1_12, .int .i64 a1_13, .int .i64 a1_14, .int .i64 a1_15, .int .i64 a1_16, .slice A1_17 l1_17.length c1_17] 30 (0, 0)) (by (with_reducible repeat (first | refine blk_drewN ?_ _ | refine blk_drew ?_ | refine blk_alloc ?_ _)); exact BK197.out)) : gb198 ≠ gb197)); clear BK196; clear BK197; clear HB; have BK196 := n0_; have BK197 := n1_; have HB := n2_; have BK198 := n3_; have GW198 := n4_; have GE198 := n5_; have NB196_198 := n6_; have NB198_196 := n7_; have NB197_198 := n8_; have NB198_197 := n9_; clear n0_ n1_ n2_ n3_ n4_ n5_ n6_ n7_ n8_ n9_; clear hb hbox hg; have hnb28 := NB197_196.out; have hnc28 := NB196_197.out; have hnb29 := NB197_198.out; have hnc29 := NB198_197.out; have hcz30_0 : w27.cell? ⟨gb197, 0, none⟩ = some (.int .i64 a1_0) := (blk_cell BK197.out 0).trans rfl; have hcz30_1 : w27.cell? ⟨gb197, 1, none⟩ = some (.int .i64 a1_1) := (blk_cell BK197.out 1).trans rfl; have hcz30_2 : w27.cell? ⟨gb197, 2, none⟩ = some (.int .i64 a1_2) := (blk_cell BK197.out 2).trans rfl; have hcz30_3 : w27.cell? ⟨gb197, 3, none⟩ = some (.int .i64 a1_3) := (blk_cell BK197.out 3).trans rfl; have hcz30_4 : w27.cell? ⟨gb197, 4, none⟩ = some (.int .i64 a1_4) := (blk_cell BK197.out 4).trans rfl; have hcz30_5 : w27.cell? ⟨gb197, 5, none⟩ = some (.int .i64 a1_5) := (blk_cell BK197.out 5).trans rfl; have hcz30_6 : w27.cell? ⟨gb197, 6, none⟩ = some (.int .i64 a1_6) := (blk_cell BK197.out 6).trans rfl; have hcz30_7 : w27.cell? ⟨gb197, 7, none⟩ = some (.int .i64 a1_7) := (blk_cell BK197.out 7).trans rfl; have hcz30_8 : w27.cell? ⟨gb197, 8, none⟩ = some (.int .i64 a1_8) := (blk_cell BK197.out 8).trans rfl; have hcz30_9 : w27.cell? ⟨gb197, 9, none⟩ = some (.int .i64 a1_9) := (blk_cell BK197.out 9).trans rfl; have hcz30_10 : w27.cell? ⟨gb197, 10, none⟩ = some (.int .i64 a1_10) := (blk_cell BK197.out 10).trans rfl; have hcz30_11 : w27.cell? ⟨gb197, 11, none⟩ = some (.int .i64 a1_11) := (blk_cell BK197.out 11).trans rfl; have hcz30_12 : w27.cell? ⟨gb197, 12, none⟩ = some (.int .i64 a1_12) := (blk_cell BK197.out 12).trans rfl; have hcz30_13 : w27.cell? ⟨gb197, 13, none⟩ = some (.int .i64 a1_13) := (blk_cell BK197.out 13).trans rfl; have hcz30_14 : w27.cell? ⟨gb197, 14, none⟩ = some (.int .i64 a1_14) := (blk_cell BK197.out 14).trans rfl; have hcz30_15 : w27.cell? ⟨gb197, 15, none⟩ = some (.int .i64 a1_15) := (blk_cell BK197.out 15).trans rfl; have hcz30_16 : w27.cell? ⟨gb197, 16, none⟩ = some (.int .i64 a1_16) := (blk_cell BK197.out 16).trans rfl; have hcz30_17 : w27.cell? ⟨gb197, 17, none⟩ = some (.slice A1_17 l1_17.length c1_17) := (blk_cell BK197.out 17).trans rfl; have hfz30_0 := blk_frozen BK197.out 0; have hfz30_1 := blk_frozen BK197.out 1; have hfz30_2 := blk_frozen BK197.out 2; have hfz30_3 := blk_frozen BK197.out 3; have hfz30_4 := blk_frozen BK197.out 4; have hfz30_5 := blk_frozen BK197.out 5; have hfz30_6 := blk_frozen BK197.out 6; have hfz30_7 := blk_frozen BK197.out 7; have hfz30_8 := blk_frozen BK197.out 8; have hfz30_9 := blk_frozen BK197.out 9; have hfz30_10 := blk_frozen BK197.out 10; have hfz30_11 := blk_frozen BK197.out 11; have hfz30_12 := blk_frozen BK197.out 12; have hfz30_13 := blk_frozen BK197.out 13; have hfz30_14 := blk_frozen BK197.out 14; have hfz30_15 := blk_frozen BK197.out 15; have hfz30_16 := blk_frozen BK197.out 16; have hfz30_17 := blk_frozen BK197.out 17; have hnb31 := NB196_198.out; have hnc31 := NB198_196.out; have hcz32_0 : w27.cell? ⟨gb196, 0, none⟩ = some (.slice A0_0 l0_0.length c0_0) := (blk_cell BK196.out 0).trans rfl; have hcz32_1 : w27.cell? ⟨gb196, 1, none⟩ = some (.slice A0_1 l0_1.length c0_1) := (blk_cell BK196.out 1).trans rfl; have hcz32_2 : w27.cell? ⟨gb196, 2, none⟩ = some (.slice A0_2 l0_2.length c0_2) := (blk_cell BK196.out 2).trans rfl; have hfz32_0 := blk_frozen BK196.out 0; have hfz32_1 := blk_frozen BK196.out 1; have hfz32_2 := blk_frozen BK196.out 2; have p199 : 0 ≤ (a1_0 : Int) := of_decide_eq_true (by first | (with_reducible assumption) | assumption); have q199 : a1_0 < (l0_0.length : Int) := of_decide_eq_true (by first | (with_reducible assumption) | assumption); obtain ⟨ad199, e199, hx199_0⟩ := Kd.at_int HR0_0.out a1_0 p199 q199; cases e199; replace hx199_0 := (HB.out.cell (World.block_lt_of_cell? w _ hx199_0)).trans hx199_0; replace p199 := eq_true p199; replace q199 := eq_true q199) | ((with_reducible refine gate_callee (f := 22) rfl ?_); refine goesL_ (some 27) rfl rfl Try.func22 (by kernel_rfl) rfl #[.int .u32 (rd l0_0 a1_0)] rfl (by (try simp only [List.map_toArray, List.map_cons, List.map_nil]); first | done | rfl | (simp only [List.length_drop, List.length_take]; rfl)) ?_; (with_reducible refine (rotaref06_Decode.calls (rd l0_0 a1_0) t200 t201 t202 t203 t204 t205 _ A24.out).mono ?_); rintro e w33 ⟨rfl, hb⟩; refine ⟨_, rfl, ?_⟩; have n0_ := Aside0.mk (blk_below (g := gb196) (o := .cells #[.slice (some ad199) l0_0.length c0_0, .slice A0_1 l0_1.length c0_1, .slice A0_2 l0_2.length c0_2] 26 (0, 0)) (by (with_reducible repeat (first | refine blk_drewN ?_ _ | refine blk_drew ?_ | refine blk_alloc ?_ _)); exact BK196.out) hb); have n1_ := Aside0.mk (blk_below (g := gb197) (o := .cells #[.int .i64 a1_0, .int .i64 a1_1, .int .i64 a1_2, .int .i64 a1_3, .int .i64 a1_4, .int .i64 a1_5, .int .i64 a1_6, .int .i64 a1_7, .int .i64 a1_8, .int .i64 a1_9, .int .i64 a1_10, .int .i64 a1_11, .int .i64 a1_12, .int .i64 a1_13, .int .i64 a1_14, .int .i64 a1_15, .int .i64 a1_16, .slice A1_17 l1_17.length c1_17] 30 (0, 0)) (by (with_reducible repeat (first | refine blk_drewN ?_ _ | refine blk_drew ?_ | refine blk_alloc ?_ _)); exact BK197.out) hb); have n2_ := Aside0.mk (blk_below (g := gb198) (o := .cells #[.int .i64 0, .int .i64 0, .int .i64 0, .int .i64 0, .int .i64 0] 37 (0, 0)) (by (with_reducible repeat (first | refine blk_drewN ?_ _ | refine blk_drew ?_ | refine blk_alloc ?_ _)); exact BK198.out) hb); have n3_ := Aside0.mk (below_step (by repeat (first | (with_reducible first | exact HB.out | apply below_alloc | apply pw_below_drewN | apply below_drew1 | refine below_set ?_ GE196.out | refine below_set ?_ GE197.out | refine below_set ?_ GE198.out) | exact HB.out)) hb); clear BK196; clear BK197; clear BK198; clear HB; have BK196 := n0_; have BK197 := n1_; have BK198 := n2_; have HB := n3_; clear n0_ n1_ n2_ n3_; (try clear hb); (try clear hb2); (try clear hk); (try clear hi)) | ((with_reducible refine gate_dst (N := 6) rfl ?_); (try (refine gate_guard (by rfl) ?_; dsimp only)); refine box_event ?hg (N := 6) ?hd (cs := #[.int .i64 0, .int .i64 0, .int .i64 0, .int .i64 0, .int .i64 0]) (t := 37) ?hr ?_; (case hd => rfl); (case hg => rfl); (case hr => first | (go_simp; done) | (go_simp; rfl)); intro gb206 hg w34 hbox hb; have n0_ := Aside0.mk (blk_below (g := gb196) (o := .cells #[.slice (some ad199) l0_0.length c0_0, .slice A0_1 l0_1.length c0_1, .slice A0_2 l0_2.length c0_2] 26 (0, 0)) (by (with_reducible repeat (first | refine blk_drewN ?_ _ | refine blk_drew ?_ | refine blk_alloc ?_ _)); exact BK196.out) hb); have n1_ := Aside0.mk (blk_below (g := gb197) (o := .cells #[.int .i64 a1_0, .int .i64 a1_1, .int .i64 a1_2, .int .i64 a1_3, .int .i64 a1_4, .int .i64 a1_5, .int .i64 a1_6, .int .i64 a1_7, .int .i64 a1_8, .int .i64 a1_9, .int .i64 a1_10, .int .i64 a1_11, .int .i64 a1_12, .int .i64 a1_13, .int .i64 a1_14, .int .i64 a1_15, .int .i64 a1_16, .slice A1_17 l1_17.length c1_17] 30 (0, 0)) (by (with_reducible repeat (first | refine blk_drewN ?_ _ | refine blk_drew ?_ | refine blk_alloc ?_ _)); exact BK197.out) hb); have n2_ := Aside0.mk (blk_below (g := gb198) (o := .cells #[.int .i64 0, .int .i64 0, .int .i64 0, .int .i64 0, .int .i64 0] 37 (0, 0)) (by (with_reducible repeat (first | refine blk_drewN ?_ _ | refine blk_drew ?_ | refine blk_alloc ?_ _)); exact BK198.out) hb); have n3_ := Aside0.mk (below_step (by repeat (first | (with_reducible first | exact HB.out | apply below_alloc | apply pw_below_drewN | apply below_drew1 | refine below_set ?_ GE196.out | refine below_set ?_ GE197.out | refine below_set ?_ GE198.out) | exact HB.out)) hb); have n4_ := Aside0.mk (hbox); have n5_ := Aside0.mk ((by rw [hg]; exact (below_size (by repeat (first | (with_reducible first | exact HB.out | apply below_alloc | apply pw_below_drewN | apply below_drew1 | refine below_set ?_ GE196.out | refine below_set ?_ GE197.out | refine below_set ?_ GE198.out) | exact HB.out))) : w.heap.size ≤ gb206)); have n6_ := Aside0.mk ((by rw [hg]; exact (below_size (by repeat (first | (with_reducible first | exact HB.out | apply below_alloc | apply pw_below_drewN | apply below_drew1 | refine below_set ?_ GE196.out | refine below_set ?_ GE197.out | refine below_set ?_ GE198.out) | exact HB.out))) : w.heap.size ≤ gb206)); have n7_ := Aside0.mk ((by rw [hg]; exact Nat.ne_of_lt (blk_lt (g := gb196) (o := .cells #[.slice (some ad199) l0_0.length c0_0, .slice A0_1 l0_1.length c0_1, .slice A0_2 l0_2.length c0_2] 26 (0, 0)) (by (with_reducible repeat (first | refine blk_drewN ?_ _ | refine blk_drew ?_ | refine blk_alloc ?_ _)); exact BK196.out)) : gb196 ≠ gb206)); have n8_ := Aside0.mk ((by rw [hg]; exact Nat.ne_of_gt (blk_lt (g := gb196) (o := .cells #[.slice (some ad199) l0_0.length c0_0, .slice A0_1 l0_1.length c0_1, .slice A0_2 l0_2.length c0_2] 26 (0, 0)) (by (with_reducible repeat (first | refine blk_drewN ?_ _ | refine blk_drew ?_ | refine blk_alloc ?_ _)); exact BK196.out)) : gb206 ≠ gb196)); have n9_ := Aside0.mk ((by rw [hg]; exact Nat.ne_of_lt (blk_lt (g := gb197) (o := .cells #[.int .i64 a1_0, .int .i64 a1_1, .int .i64 a1_2, .int .i64 a1_3, .int .i64 a1_4, .int .i64 a1_5, .int .i64 a1_6, .int .i64 a1_7, .int .i64 a1_8, .int .i64 a1_9, .int .i64 a1_10, .int .i64 a1_11, .int .i64 a1_12, .int .i64 a1_13, .int .i64 a1_14, .int .i64 a1_15, .int .i64 a1_16, .slice A1_17 l1_17.length c1_17] 30 (0, 0)) (by (with_reducible repeat (first | refine blk_drewN ?_ _ | refine blk_drew ?_ | refine blk_alloc ?_ _)); exact BK197.out)) : gb197 ≠ gb206)); have n10_ := Aside0.mk ((by rw [hg]; exact Nat.ne_of_gt (blk_lt (g := gb197) (o := .cells #[.int .i64 a1_0, .int .i64 a1_1, .int .i64 a1_2, .int .i64 a1_3, .int .i64 a1_4, .int .i64 a1_5, .int .i64 a1_6, .int .i64 a1_7, .int .i64 a1_8, .int .i64 a1_9, .int .i64 a1_10, .int .i64 a1_11, .int .i64 a1_12, .int .i64 a1_13, .int .i64 a1_14, .int .i64 a1_15, .int .i64 a1_16, .slice A1_17 l1_17.length c1_17] 30 (0, 0)) (by (with_reducible repeat (first | refine blk_drewN ?_ _ | refine blk_drew ?_ | refine blk_alloc ?_ _)); exact BK197.out)) : gb206 ≠ gb197)); have n11_ := Aside0.mk ((by rw [hg]; exact Nat.ne_of_lt (blk_lt (g := gb198) (o := .cells #[.int .i64 0, .int .i64 0, .int .i64 0, .int .i64 0, .int .i64 0] 37 (0, 0)) (by (with_reducible repeat (first | refine blk_drewN ?_ _ | refine blk_drew ?_ | refine blk_alloc ?_ _)); exact BK198.out)) : gb198 ≠ gb206)); have n12_ := Aside0.mk ((by rw [hg]; exact Nat.ne_of_gt (blk_lt (g := gb198) (o := .cells #[.int .i64 0, .int .i64 0, .int .i64 0, .int .i64 0, .int .i64 0] 37 (0, 0)) (by (with_reducible repeat (first | refine blk_drewN ?_ _ | refine blk_drew ?_ | refine blk_alloc ?_ _)); exact BK198.out)) : gb206 ≠ gb198)); clear BK196; clear BK197; clear BK198; clear HB; have BK196 := n0_; have BK197 := n1_; have BK198 := n2_; have HB := n3_; have BK206 := n4_; have GW206 := n5_; have GE206 := n6_; have NB196_206 := n7_; have NB206_196 := n8_; have NB197_206 := n9_; have NB206_197 := n10_; have NB198_206 := n11_; have NB206_198 := n12_; clear n0_ n1_ n2_ n3_ n4_ n5_ n6_ n7_ n8_ n9_ n10_ n11_ n12_; clear hb hbox hg; have hnb35 := NB206_196.out; have hnc35 := NB196_206.out; have hnb36 := NB206_197.out; have hnc36 := NB197_206.out; have hnb37 := NB206_198.out; have hnc37 := NB198_206.out; have hcz38_0 : w34.cell? ⟨gb206, 0, none⟩ = some (.int .i64 0) := (blk_cell BK206.out 0).trans rfl; have hcz38_1 : w34.cell? ⟨gb206, 1, none⟩ = some (.int .i64 0) := (blk_cell BK206.out 1).trans rfl; have hcz38_2 : w34.cell? ⟨gb206, 2, none⟩ = some (.int .i64 0) := (blk_cell BK206.out 2).trans rfl; have hcz38_3 : w34.cell? ⟨gb206, 3, none⟩ = some (.int .i64 0) := (blk_cell BK206.out 3).trans rfl; have hcz38_4 : w34.cell? ⟨gb206, 4, none⟩ = some (.int .i64 0) := (blk_cell BK206.out 4).trans rfl; have hfz38_0 := blk_frozen BK206.out 0; have hfz38_1 := blk_frozen BK206.out 1; have hfz38_2 := blk_frozen BK206.out 2; have hfz38_3 := blk_frozen BK206.out 3; have hfz38_4 := blk_frozen BK206.out 4; have hcz39_0 : w34.cell? ⟨gb198, 0, none⟩ = some (.int .i64 0) := (blk_cell BK198.out 0).trans rfl; have hcz39_1 : w34.cell? ⟨gb198, 1, none⟩ = some (.int .i64 0) := (blk_cell BK198.out 1).trans rfl; have hcz39_2 : w34.cell? ⟨gb198, 2, none⟩ = some (.int .i64 0) := (blk_cell BK198.out 2).trans rfl; have hcz39_3 : w34.cell? ⟨gb198, 3, none⟩ = some (.int .i64 0) := (blk_cell BK198.out 3).trans rfl; have hcz39_4 : w34.cell? ⟨gb198, 4, none⟩ = some (.int .i64 0) := (blk_cell BK198.out 4).trans rfl; have hfz39_0 := blk_frozen BK198.out 0; have hfz39_1 := blk_frozen BK198.out 1; have hfz39_2 := blk_frozen BK198.out 2; have hfz39_3 := blk_frozen BK198.out 3; have hfz39_4 := blk_frozen BK198.out 4))
          refine bodyPost_ret (results_ct rfl _ _ gb198 37 #[.int .i64 t200, .int .i64 t201, .int .i64 t202, .int .i64 t203, .int .i64 t204] (0, 0) _ rfl (by (with_reducible repeat (first | refine blk_drewN ?_ _ | refine blk_drew ?_ | refine blk_alloc ?_ _)); refine blk_put (cs := #[.int .i64 t200, .int .i64 t201, .int .i64 t202, .int .i64 t203, .int .i64 0]) ?_ 4 _ rfl; (with_reducible repeat (first | refine blk_drewN ?_ _ | refine blk_drew ?_ | refine blk_alloc ?_ _)); refine blk_put (cs := #[.int .i64 t200, .int .i64 t201, .int .i64 t202, .int .i64 0, .int .i64 0]) ?_ 3 _ rfl; (with_reducible repeat (first | refine blk_drewN ?_ _ | refine blk_drew ?_ | refine blk_alloc ?_ _)); refine blk_put (cs := #[.int .i64 t200, .int .i64 t201, .int .i64 0, .int .i64 0, .int .i64 0]) ?_ 2 _ rfl; (with_reducible repeat (first | refine blk_drewN ?_ _ | refine blk_drew ?_ | refine blk_alloc ?_ _)); refine blk_put (cs := #[.int .i64 t200, .int .i64 0, .int .i64 0, .int .i64 0, .int .i64 0]) ?_ 1 _ rfl; (with_reducible repeat (first | refine blk_drewN ?_ _ | refine blk_drew ?_ | refine blk_alloc ?_ _)); refine blk_put (cs := #[.int .i64 0, .int .i64 0, .int .i64 0, .int .i64 0, .int .i64 0]) ?_ 0 _ rfl; (with_reducible repeat (first | refine blk_drewN ?_ _ | refine blk_drew ?_ | refine blk_alloc ?_ _)); refine blk_far ?_ NB198_206.out _; (with_reducible repeat (first | refine blk_drewN ?_ _ | refine blk_drew ?_ | refine blk_alloc ?_ _)); refine blk_far ?_ NB198_206.out _; (with_reducible repeat (first | refine blk_drewN ?_ _ | refine blk_drew ?_ | refine blk_alloc ?_ _)); refine blk_far ?_ NB198_206.out _; (with_reducible repeat (first | refine blk_drewN ?_ _ | refine blk_drew ?_ | refine blk_alloc ?_ _)); refine blk_far ?_ NB198_206.out _; (with_reducible repeat (first | refine blk_drewN ?_ _ | refine blk_drew ?_ | refine blk_alloc ?_ _)); refine blk_far ?_ NB198_206.out _; (with_reducible repeat (first | refine blk_drewN ?_ _ | refine blk_drew ?_ | refine blk_alloc ?_ _)); exact BK198.out) Try.underlying37 rfl (by kernel_rfl)) rfl ?_
          exact ⟨by first | rfl | (simp [errW_none, errW_some] <;> rfl) | (simp [*, errW_none, errW_some] <;> rfl), by repeat (first | (with_reducible first | exact HB.out | apply below_alloc | apply pw_below_drewN | apply below_drew1 | refine below_set ?_ GE196.out | refine below_set ?_ GE197.out | refine below_set ?_ GE198.out | refine below_set ?_ GE206.out) | exact HB.out)⟩
        · rw [if_neg c23] at H
          exact absurd H (by simp)
      · rw [if_neg c22] at H
        exact absurd H (by simp)

end Go.Proofs.Ythjfmlehkcccfaa.GA
end

section
-- laid by a program of this session (wip/gp.sh)
namespace Go.Proofs.Ythjfmlehkcccfaa.GA
open Go.RowKit Go.Proofs.YthjfmlehkcccfaaW.PrintWords Go.Proofs.YthjfmlehkcccfaaW.PrintLast Go.Proofs.YthjfmlehkcccfaaW.PrintMore
attribute [local go_sem] max2_int min2_int max_two min_two max_three min_three max_four min_four   -- for this text's walks alone
set_option linter.unusedVariables false
set_option linter.unusedSimpArgs false

/-! ### word_Cost: function 38 -/
def word_Cost.f (a0 : Int) : Option (Int × Int) := (word_find.f a0).bind fun bt374 => (some (bt374.2.2.1, bt374.2.2.2.2.2))
set_option maxHeartbeats 8000000 in
set_option maxRecDepth 100000 in
theorem word_Cost.calls (a0 : Int) (r1 : Int) (r2 : Int) (w : World) (h : word_Cost.f a0 = some (r1, r2)) :
    Calls Try.prog 38 #[.int .i64 a0] w fun e w' => e = .returned (.tuple #[.int .i64 r1, .int .i64 r2]) ∧ Below w.heap.size w w' := by
  have hu102 := Try.underlying102
  have HB := Aside0.mk (Below.refl w.heap.size w)
  have H : ((word_find.f a0).bind fun bt374 => (some (bt374.2.2.1, bt374.2.2.2.2.2))) = some (r1, r2) := h
  clear h
  replace H := Option.bind_eq_some_iff.mp H
  obtain ⟨⟨t374, t375, t376, t377, t378, t379⟩, A20, H⟩ := H
  replace H : (some (t376, t379)) = some (r1, r2) := H
  have A2 := Aside0.mk A20
  clear A20
  simp only [Option.some.injEq, Prod.mk.injEq] at H
  obtain ⟨rfl, rfl⟩ := H
  go_enter Try.func38, Try.ntmps38
  go_wp2_with (first | ((with_reducible refine gate_callee (f := 51) rfl ?_); refine goesL_ (some 8) rfl rfl Try.func51 (by kernel_rfl) rfl #[.int .i64 a0] rfl (by (try simp only [List.map_toArray, List.map_cons, List.map_nil]); first | done | rfl | (simp only [List.length_drop, List.length_take]; rfl)) ?_; (with_reducible refine (word_find.calls a0 t374 t375 t376 t377 t378 t379 _ A2.out).mono ?_); rintro e w3 ⟨rfl, hb⟩; refine ⟨_, rfl, ?_⟩; have n0_ := Aside0.mk (below_step (by repeat (first | (with_reducible first | exact HB.out | apply below_alloc | apply pw_below_drewN | apply below_drew1) | exact HB.out)) hb); clear HB; have HB := n0_; clear n0_; (try clear hb); (try clear hb2); (try clear hk); (try clear hi)) | ((with_reducible refine gate_dst (N := 4) rfl ?_); refine box_event ?hg (N := 4) ?hd (cs := #[.string (⟨#[]⟩ : ByteArray), .int .i64 0, .int .i64 0, .string (⟨#[]⟩ : ByteArray), .string (⟨#[]⟩ : ByteArray)]) (t := 102) ?hr ?_; (case hd => rfl); (case hg => rfl); (case hr => first | (go_simp; done) | (go_simp; rfl)); intro gb380 hg w4 hbox hb; have n0_ := Aside0.mk (below_step (by repeat (first | (with_reducible first | exact HB.out | apply below_alloc | apply pw_below_drewN | apply below_drew1) | exact HB.out)) hb); have n1_ := Aside0.mk (hbox); have n2_ := Aside0.mk ((by rw [hg]; exact (below_size (by repeat (first | (with_reducible first | exact HB.out | apply below_alloc | apply pw_below_drewN | apply below_drew1) | exact HB.out))) : w.heap.size ≤ gb380)); have n3_ := Aside0.mk ((by rw [hg]; exact (below_size (by repeat (first | (with_reducible first | exact HB.out | apply below_alloc | apply pw_below_drewN | apply below_drew1) | exact HB.out))) : w.heap.size ≤ gb380)); clear HB; have HB := n0_; have BK380 := n1_; have GW380 := n2_; have GE380 := n3_; clear n0_ n1_ n2_ n3_; clear hb hbox hg; have hcz5_0 : w4.cell? ⟨gb380, 0, none⟩ = some (.string (⟨#[]⟩ : ByteArray)) := (blk_cell BK380.out 0).trans rfl; have hcz5_1 : w4.cell? ⟨gb380, 1, none⟩ = some (.int .i64 0) := (blk_cell BK380.out 1).trans rfl; have hcz5_2 : w4.cell? ⟨gb380, 2, none⟩ = some (.int .i64 0) := (blk_cell BK380.out 2).trans rfl; have hcz5_3 : w4.cell? ⟨gb380, 3, none⟩ = some (.string (⟨#[]⟩ : ByteArray)) := (blk_cell BK380.out 3).trans rfl; have hcz5_4 : w4.cell? ⟨gb380, 4, none⟩ = some (.string (⟨#[]⟩ : ByteArray)) := (blk_cell BK380.out 4).trans rfl; have hfz5_0 := blk_frozen BK380.out 0; have hfz5_1 := blk_frozen BK380.out 1; have hfz5_2 := blk_frozen BK380.out 2; have hfz5_3 := blk_frozen BK380.out 3; have hfz5_4 := blk_frozen BK380.out 4))
  go_ret2
  exact ⟨by first | rfl | (simp [errW_none, errW_some] <;> rfl) | (simp [*, errW_none, errW_some] <;> rfl), by repeat (first | (with_reducible first | exact HB.out | apply below_alloc | apply pw_below_drewN | apply below_drew1 | refine below_set ?_ GE380.out) | exact HB.out)⟩

end Go.Proofs.Ythjfmlehkcccfaa.GA
end
