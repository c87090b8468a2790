import Derived.Test.YtphbepddhhdhmaaDoorMAg1
import Derived.Test.YtphbepddhhdhmaaDoorMAg9
import Derived.Test.YtphbepddhhdhmaaDoorMAg11
import Derived.Test.YtphbepddhhdhmaaDoorMAg6
import Derived.Test.YtphbepddhhdhmaaDoorMAg10
import Derived.Test.YtphbepddhhdhmaaDoorMAg2
import Derived.Test.YtphbepddhhdhmaaDoorMAg3
section
-- laid by a program of this session (wip/gp.sh)
namespace Go.Proofs.YtphbepddhhdhmaaDoor.GA
open Go.RowKit Go.Proofs.YtphbepddhhdhmaaDoorW.PrintWords Go.Proofs.YtphbepddhhdhmaaDoorW.PrintLast Go.Proofs.YtphbepddhhdhmaaDoorW.PrintMore
attribute [local go_sem] max2_int min2_int max_two min_two max_three min_three max_four min_four   -- for this text's walks alone
set_option linter.unusedVariables false
set_option linter.unusedSimpArgs false

/-! ### rotaref25_Print: function 27 -/
def rotaref25_Print.l0 : Nat → List (S36) → List Int → Int → Option (ByteArray × Int)
  | 0, _, _, _ => none
  | k + 1, x0, x6, x7 => if x7 < (x0.length : Int) then (if 0 ≤ x7 then ((rotaref25_Line.f k ((rd_T36 x0 x7).f0) ((rd_T36 x0 x7).f1) ((rd_T36 x0 x7).f2.f0) ((rd_T36 x0 x7).f2.f1) ((rd_T36 x0 x7).f3) ((rd_T36 x0 x7).f4) ((rd_T36 x0 x7).f5) ((rd_T36 x0 x7).f6)).bind fun t316 => (if x6.length + t316.size < 140737488355328 then ((some (x6 ++ bytesOf t316 : List Int)).bind fun y317 => (if y317.length < 140737488355328 then (rotaref25_Print.l0 k x0 (y317 ++ [10]) (wrap64 (x7 + 1))) else (none))) else (none))) else (none)) else (some (strOfNums x6, 0))
def rotaref25_Print.f (k : Nat) (l0 : List (S36)) : Option (ByteArray × Int) := (rotaref25_Check.f k l0).bind fun bt310 => (if bt310.2 = 0 then (rotaref25_Print.l0 k l0 (([] : List Int)) 0) else (some ((⟨#[]⟩ : ByteArray), bt310.2)))
theorem rotaref25_Print.mono_l : ∀ k, (∀ y0 y1 y2, LeO (rotaref25_Print.l0 k y0 y1 y2) (rotaref25_Print.l0 (k + 1) y0 y1 y2))
  | 0 => fun _ _ _ r h => by simp [rotaref25_Print.l0] at h
  | k + 1 => by
    have ih0 := rotaref25_Print.mono_l k
    · intro y0 y1 y2
      unfold rotaref25_Print.l0
      repeat' first
      | (with_reducible exact ih0 _ _ _)
      | (with_reducible exact rotaref25_Check.mono _ _)
      | (with_reducible exact rotaref25_Line.mono _ _ _ _ _ _ _ _ _)
      | (with_reducible exact LeO.refl _)
      | (with_reducible exact LeO.none _)
      | (with_reducible refine LeO.ite ?_ ?_)
      | (with_reducible refine LeO.bind ?_ (fun _ => ?_))
      | exact ih0 _ _ _
      | exact rotaref25_Check.mono _ _
      | exact rotaref25_Line.mono _ _ _ _ _ _ _ _ _
      | exact LeO.none _
      | refine LeO.ite ?_ ?_
      | refine LeO.bind ?_ (fun _ => ?_)
theorem rotaref25_Print.mono : ∀ a0 k, LeO (rotaref25_Print.f k a0) (rotaref25_Print.f (k + 1) a0) := by
  intro a0 k
  have ih0 := rotaref25_Print.mono_l k
  unfold rotaref25_Print.f
  repeat' first
      | (with_reducible exact ih0 _ _ _)
      | (with_reducible exact rotaref25_Check.mono _ _)
      | (with_reducible exact rotaref25_Line.mono _ _ _ _ _ _ _ _ _)
      | (with_reducible exact LeO.refl _)
      | (with_reducible exact LeO.none _)
      | (with_reducible refine LeO.ite ?_ ?_)
      | (with_reducible refine LeO.bind ?_ (fun _ => ?_))
      | exact ih0 _ _ _
      | exact rotaref25_Check.mono _ _
      | exact rotaref25_Line.mono _ _ _ _ _ _ _ _ _
      | exact LeO.none _
      | refine LeO.ite ?_ ?_
      | refine LeO.bind ?_ (fun _ => ?_)
set_option maxHeartbeats 8000000 in
set_option maxRecDepth 100000 in
theorem rotaref25_Print.calls (k : Nat) (A0 : Option Addr) (c0 : Nat) (l0 : List (S36)) (r1 : ByteArray) (r2 : Int) (w : World) (hr0 : Kd.C k36 w A0 l0.length l0) (hc0 : l0.length ≤ c0) (h : rotaref25_Print.f k l0 = some (r1, r2)) :
    Calls Tryd.prog 27 #[.slice A0 l0.length c0] w fun e w' => e = .returned (.tuple #[.string r1, .int .i64 r2]) ∧ Below w.heap.size w w' := by
  have hu36 := Tryd.underlying36
  have HR0 := Aside0.mk hr0
  have HC0 := Aside0.mk hc0
  clear hr0 hc0
  have HB := Aside0.mk (Below.refl w.heap.size w)
  have H : ((rotaref25_Check.f k l0).bind fun bt310 => (if bt310.2 = 0 then (rotaref25_Print.l0 k l0 (([] : List Int)) 0) else (some ((⟨#[]⟩ : ByteArray), bt310.2)))) = some (r1, r2) := h
  clear h
  replace H := Option.bind_eq_some_iff.mp H
  obtain ⟨⟨t310, t311⟩, A20, H⟩ := H
  replace H : (if t311 = 0 then (rotaref25_Print.l0 k l0 (([] : List Int)) 0) else (some ((⟨#[]⟩ : ByteArray), t311))) = some (r1, r2) := H
  have A2 := Aside0.mk A20
  clear A20
  by_cases c3 : t311 = 0
  · rw [if_pos c3] at H
    have c3b0 : (t311 == 0) = true := beq_iff_eq.mpr c3
    have c3b1 : (t311 != 0) = false := bne_eq_false_iff_eq.mpr c3
    clear c3
    obtain ⟨y312, hy312⟩ : ∃ y_ : List Int, y_ = (([] : List Int)) := ⟨_, rfl⟩
    replace H : (rotaref25_Print.l0 k l0 y312 0) = some (r1, r2) := by first | (rw [hy312]; with_reducible exact H) | (have H2_ := (Option.bind_some _ _).symm.trans H; rw [hy312]; with_reducible exact H2_) | (have H2_ := (Option.bind_some _ _).symm.trans H; with_reducible exact H2_) | with_reducible exact H | (rw [hy312]; exact H) | exact H
    have Ny312 := Aside0.mk hy312
    clear hy312
    have H' := Aside0.mk H
    clear H
    go_enter Tryd.func27, Tryd.ntmps27
    go_wp2_with (first | ((with_reducible refine gate_callee (f := 16) rfl ?_); refine goesL_ (some 10) rfl rfl Tryd.func16 (by kernel_rfl) rfl #[.slice A0 l0.length c0] rfl (by (try simp only [List.map_toArray, List.map_cons, List.map_nil]); first | done | rfl | (simp only [List.length_drop, List.length_take]; rfl)) ?_; (with_reducible refine (rotaref25_Check.calls k _ _ l0 t310 t311 _ ?side1 ?side2 A2.out).mono ?_); (case side1 => repeat (first | exact HR0.out | (with_reducible refine Kd.C_alloc ?_ _) | (with_reducible refine Kd.C_drewN ?_ _) | (with_reducible refine Kd.C_drew ?_))); (case side2 => exact HC0.out); rintro e w4 ⟨rfl, hb⟩; refine ⟨_, rfl, ?_⟩; have n0_ := Aside0.mk (below_step (by repeat (first | (with_reducible first | exact HB.out | apply below_alloc | apply pw_below_drewN | apply below_drew1) | exact HB.out)) hb); clear HB; have HB := n0_; clear n0_; (try clear hb); (try clear hb2); (try clear hk); (try clear hi)) | ((with_reducible refine gate_dst (N := 16) rfl ?_); refine Kd.R_lit (Kd.int .u8) _ 5 ?hg (N := 16) ?hd (xs := ([] : List Int)) (inner := []) (ok := fun _ => True) (okp := fun _ => True) ?hr ?hp (fun _ hk => hk) trivial (Below.refl _ _) (Nat.le_refl _) (by simp) ?_; (case hd => rfl); (case hg => rfl); (case hr => first | (go_simp; done) | (go_simp; rfl)); (case hp => exact (Reps.none _ _)); intro v313 w5 ho6 hb hg_ hnew_; clear hg_ hnew_; (first | rw [← Ny312.out] at ho6 | (simp only [Int.reduceToNat] at ho6; rw [← Ny312.out] at ho6)); have n0_ := Aside0.mk (Kd.R_lower ho6 (below_size (by repeat (first | (with_reducible first | exact HB.out | apply below_alloc | apply pw_below_drewN | apply below_drew1) | exact HB.out)))); have n1_ := Aside0.mk (below_step (by repeat (first | (with_reducible first | exact HB.out | apply below_alloc | apply pw_below_drewN | apply below_drew1) | exact HB.out)) hb); clear HB; have HO314 := n0_; have HB := n1_; clear n0_ n1_; clear hb ho6))
    go_loopg [6, 7] k (fun kq v6 v7 w' => ∃ (x6_1 : List Int) (x7_1 : Int), v7 = .int .i64 x7_1 ∧ Aside0 (rotaref25_Print.l0 kq l0 x6_1 x7_1 = some (r1, r2)) ∧ Aside0 (kq ≤ k) ∧ Aside0 (Kd.R (Kd.int .u8) 5 w' w.heap.size (fun _ => True) v6 x6_1) ∧ Aside0 (Below w.heap.size w w'))
    case atStart => exact ⟨(y312), (0), (by first | rfl | (simp; done) | (simp [*]; done)), H', ⟨Nat.le_refl _⟩, ⟨by (with_reducible repeat (first | apply Kd.R_alloc | apply Kd.R_drewN | apply Kd.R_drew)); exact HO314.out⟩, ⟨by repeat (first | (with_reducible first | exact HB.out | apply below_alloc | apply pw_below_drewN | apply below_drew1) | exact HB.out)⟩⟩
    case round =>
      clear H'
      try clear c1
      try clear c2
      try clear p2
      try clear c3
      try clear c3b0
      try clear c3b1
      obtain ⟨x6_1, x7_1, rfl, HA, HK1, HO_6, HB⟩ := hrel
      cases gk with
      | zero => exact absurd HA.out (by simp [rotaref25_Print.l0])
      | succ k1 =>
        have H := HA.out
        clear HA
        simp only [rotaref25_Print.l0] at H
        by_cases c7 : x7_1 < (l0.length : Int)
        · rw [if_pos c7] at H
          have c7b0 : decide (x7_1 < (l0.length : Int)) = true := decide_eq_true c7
          clear c7
          by_cases c8 : 0 ≤ x7_1
          · rw [if_pos c8] at H
            have c8b0 : decide (0 ≤ x7_1) = true := decide_eq_true c8
            clear c8
            replace H := Option.bind_eq_some_iff.mp H
            obtain ⟨t316, A90, H⟩ := H
            replace H : (if x6_1.length + t316.size < 140737488355328 then ((some (x6_1 ++ bytesOf t316 : List Int)).bind fun y317 => (if y317.length < 140737488355328 then (rotaref25_Print.l0 k1 l0 (y317 ++ [10]) (wrap64 (x7_1 + 1))) else (none))) else (none)) = some (r1, r2) := H
            have A9 := Aside0.mk A90
            clear A90
            by_cases c10 : x6_1.length + t316.size < 140737488355328
            · rw [if_pos c10] at H
              have LMc10 := Aside0.mk c10
              clear c10
              obtain ⟨y317, hy317⟩ : ∃ y_ : List Int, y_ = (x6_1 ++ bytesOf t316) := ⟨_, rfl⟩
              replace H : (if y317.length < 140737488355328 then (rotaref25_Print.l0 k1 l0 (y317 ++ [10]) (wrap64 (x7_1 + 1))) else (none)) = some (r1, r2) := by first | (rw [hy317]; with_reducible exact H) | (have H2_ := (Option.bind_some _ _).symm.trans H; rw [hy317]; with_reducible exact H2_) | (have H2_ := (Option.bind_some _ _).symm.trans H; with_reducible exact H2_) | with_reducible exact H | (rw [hy317]; exact H) | exact H
              have Ny317 := Aside0.mk hy317
              clear hy317
              by_cases c11 : y317.length < 140737488355328
              · rw [if_pos c11] at H
                have LMc11 := Aside0.mk c11
                clear c11
                obtain ⟨y320, hy320⟩ : ∃ y_ : List Int, y_ = (y317 ++ [10]) := ⟨_, rfl⟩
                replace H : (rotaref25_Print.l0 k1 l0 y320 (wrap64 (x7_1 + 1))) = some (r1, r2) := by first | (rw [hy320]; with_reducible exact H) | (have H2_ := (Option.bind_some _ _).symm.trans H; rw [hy320]; with_reducible exact H2_) | (have H2_ := (Option.bind_some _ _).symm.trans H; with_reducible exact H2_) | with_reducible exact H | (rw [hy320]; exact H) | exact H
                have Ny320 := Aside0.mk hy320
                clear hy320
                have H' := Aside0.mk H
                clear H
                have p315 : 0 ≤ (x7_1 : Int) := of_decide_eq_true (by first | (with_reducible assumption) | assumption)
                have q315 : x7_1 < (l0.length : Int) := of_decide_eq_true (by first | (with_reducible assumption) | assumption)
                obtain ⟨ad315, e315, hx315_0, hx315_1, hx315_2, hx315_3, hx315_4, hx315_5, hx315_6, hx315_7⟩ := at_T36 HR0.out x7_1 p315 q315
                cases e315
                replace hx315_0 := (HB.out.cell (World.block_lt_of_cell? w _ hx315_0)).trans hx315_0
                replace hx315_1 := (HB.out.cell (World.block_lt_of_cell? w _ hx315_1)).trans hx315_1
                replace hx315_2 := (HB.out.cell (World.block_lt_of_cell? w _ hx315_2)).trans hx315_2
                replace hx315_3 := (HB.out.cell (World.block_lt_of_cell? w _ hx315_3)).trans hx315_3
                replace hx315_4 := (HB.out.cell (World.block_lt_of_cell? w _ hx315_4)).trans hx315_4
                replace hx315_5 := (HB.out.cell (World.block_lt_of_cell? w _ hx315_5)).trans hx315_5
                replace hx315_6 := (HB.out.cell (World.block_lt_of_cell? w _ hx315_6)).trans hx315_6
                replace hx315_7 := (HB.out.cell (World.block_lt_of_cell? w _ hx315_7)).trans hx315_7
                replace p315 := eq_true p315
                replace q315 := eq_true q315
                go_wp2_with (first | ((with_reducible refine gate_callee (f := 41) rfl ?_); refine goesL_ (some 28) rfl rfl Tryd.func41 (by kernel_rfl) rfl #[.agg #[.int .u64 ((rd_T36 l0 x7_1).f0), .int .i64 ((rd_T36 l0 x7_1).f1), .int .i64 ((rd_T36 l0 x7_1).f2.f0), .int .i64 ((rd_T36 l0 x7_1).f2.f1), .int .i64 ((rd_T36 l0 x7_1).f3), .int .i64 ((rd_T36 l0 x7_1).f4), .int .i64 ((rd_T36 l0 x7_1).f5), .int .i64 ((rd_T36 l0 x7_1).f6)]] rfl (by (try simp only [List.map_toArray, List.map_cons, List.map_nil]); first | done | rfl | (simp only [List.length_drop, List.length_take]; rfl)) ?_; (with_reducible refine (rotaref25_Line.calls k1 ((rd_T36 l0 x7_1).f0) ((rd_T36 l0 x7_1).f1) ((rd_T36 l0 x7_1).f2.f0) ((rd_T36 l0 x7_1).f2.f1) ((rd_T36 l0 x7_1).f3) ((rd_T36 l0 x7_1).f4) ((rd_T36 l0 x7_1).f5) ((rd_T36 l0 x7_1).f6) t316 _ A9.out).mono ?_); rintro e w12 ⟨rfl, hb⟩; refine ⟨_, rfl, ?_⟩; have n0_ := Aside0.mk (Kd.R_below (by (with_reducible repeat (first | apply Kd.R_alloc | apply Kd.R_drewN | apply Kd.R_drew)); exact HO_6.out) hb); have n1_ := Aside0.mk (below_step (by repeat (first | (with_reducible first | exact HB.out | apply below_alloc | apply pw_below_drewN | apply below_drew1) | exact HB.out)) hb); clear HO_6; clear HB; have HO_6 := n0_; have HB := n1_; clear n0_ n1_; (try clear hb); (try clear hb2); (try clear hk); (try clear hi)) | (at_builtin; refine print_append_str (w0 := w) w.heap.size rfl (.tmp 23) _ 58 9 5 rfl Tryd.underlying58 Tryd.underlying9 info5 u6 x6_1 t316 rfl rfl ?aO ?aB ?aS ?aL ?_; (case aB => exact (by repeat (first | (with_reducible first | exact HB.out | apply below_alloc | apply pw_below_drewN | apply below_drew1) | exact HB.out))); (case aO => exact (Kd.own_of_R (by (with_reducible repeat (first | apply Kd.R_alloc | apply Kd.R_drewN | apply Kd.R_drew)); exact HO_6.out))); (case aS => exact (below_size (by repeat (first | (with_reducible first | exact HB.out | apply below_alloc | apply pw_below_drewN | apply below_drew1) | exact HB.out)))); (case aL => have := LMc10.out; omega); intro v318 w13 ho0 hb hg; have ho := Kd.R_of_own (h1 := fun _ => rfl) (ok := fun _ => True) ho0 (fun _ _ => trivial); clear ho0; have hat := True.intro; rw [← Ny317.out] at ho; change Kd.R (Kd.int .u8) 5 w13 w.heap.size (fun _ => True) v318 y317 at ho; have n0_ := Aside0.mk (hb); have n1_ := Aside0.mk (ho); clear HB; clear HO_6; have HB := n0_; have HO319 := n1_; clear n0_ n1_; clear ho hb hg hat) | ((with_reducible refine gate_builtin (b := .append) (xs := #[.tmp 30, .tmp 31]) rfl ?_); at_builtin; refine Kd.R_append (Kd.int .u8) (w0 := w) w.heap.size rfl (.tmp 30) (.tmp 31) 58 5 (.int .u8 0) 1 rfl Tryd.underlying58 info5 rfl (by decide) (by omega) v318 y317 10 [.int .u8 10] (fun _ => True) (fun _ => False) rfl rfl ?aP (fun _ hk => hk.elim) ?aF ?aO ?aB ?aS ?aL ?_; (case aP => exact rfl); (case aB => exact (by repeat (first | (with_reducible first | exact HB.out | apply below_alloc | apply pw_below_drewN | apply below_drew1) | exact HB.out))); (case aF => exact (fun _ _ => trivial)); (case aO => exact (by (with_reducible repeat (first | apply Kd.R_alloc | apply Kd.R_drewN | apply Kd.R_drew)); exact HO319.out)); (case aS => exact (below_size (by repeat (first | (with_reducible first | exact HB.out | apply below_alloc | apply pw_below_drewN | apply below_drew1) | exact HB.out)))); (case aL => have := LMc11.out; omega); intro v321 w14 ho hb hg hat; rw [← Ny320.out] at ho; have n0_ := Aside0.mk (hb); have n1_ := Aside0.mk (ho); clear HB; clear HO319; have HB := n0_; have HO322 := n1_; clear n0_ n1_; clear ho hb hg hat))
                go_roundg k1
                case measure => have := HK1.out; omega
                case rel => exact ⟨(y320), (wrap64 (x7_1 + 1)), (by first | rfl | (simp; done) | (simp [*]; done)), H', ⟨by have := HK1.out; omega⟩, ⟨by (with_reducible repeat (first | apply Kd.R_alloc | apply Kd.R_drewN | apply Kd.R_drew)); exact HO322.out⟩, ⟨by repeat (first | (with_reducible first | exact HB.out | apply below_alloc | apply pw_below_drewN | apply below_drew1) | exact HB.out)⟩⟩
              · rw [if_neg c11] at H
                exact absurd H (by simp)
            · rw [if_neg c10] at H
              exact absurd H (by simp)
          · rw [if_neg c8] at H
            exact absurd H (by simp)
        · rw [if_neg c7] at H
          have c7b0 : decide (x7_1 < (l0.length : Int)) = false := decide_eq_false c7
          clear c7
          simp only [Option.some.injEq, Prod.mk.injEq] at H
          obtain ⟨rfl, rfl⟩ := H
          have hcv15 := own_string (P := Tryd.prog) Tryd.underlying58 Tryd.underlying5 Tryd.underlying9 (Kd.own_of_R HO_6.out)
          go_wp2
          go_ret2
          exact ⟨by first | rfl | (simp [errW_none, errW_some] <;> rfl) | (simp [*, errW_none, errW_some] <;> rfl), by repeat (first | (with_reducible first | exact HB.out | apply below_alloc | apply pw_below_drewN | apply below_drew1) | exact HB.out)⟩
  · rw [if_neg c3] at H
    have c3b0 : (t311 == 0) = false := beq_eq_false_iff_ne.mpr c3
    have c3b1 : (t311 != 0) = true := bne_iff_ne.mpr c3
    simp only [Option.some.injEq, Prod.mk.injEq] at H
    obtain ⟨rfl, rfl⟩ := H
    go_enter Tryd.func27, Tryd.ntmps27
    go_wp2_with (first | ((with_reducible refine gate_callee (f := 16) rfl ?_); refine goesL_ (some 10) rfl rfl Tryd.func16 (by kernel_rfl) rfl #[.slice A0 l0.length c0] rfl (by (try simp only [List.map_toArray, List.map_cons, List.map_nil]); first | done | rfl | (simp only [List.length_drop, List.length_take]; rfl)) ?_; (with_reducible refine (rotaref25_Check.calls k _ _ l0 t310 t311 _ ?side1 ?side2 A2.out).mono ?_); (case side1 => repeat (first | exact HR0.out | (with_reducible refine Kd.C_alloc ?_ _) | (with_reducible refine Kd.C_drewN ?_ _) | (with_reducible refine Kd.C_drew ?_))); (case side2 => exact HC0.out); rintro e w16 ⟨rfl, hb⟩; refine ⟨_, rfl, ?_⟩; have n0_ := Aside0.mk (below_step (by repeat (first | (with_reducible first | exact HB.out | apply below_alloc | apply pw_below_drewN | apply below_drew1) | exact HB.out)) hb); clear HB; have HB := n0_; clear n0_; (try clear hb); (try clear hb2); (try clear hk); (try clear hi)))
    go_ret2
    exact ⟨by first | rfl | (simp [errW_none, errW_some] <;> rfl) | (simp [*, errW_none, errW_some] <;> rfl), by repeat (first | (with_reducible first | exact HB.out | apply below_alloc | apply pw_below_drewN | apply below_drew1) | exact HB.out)⟩

end Go.Proofs.YtphbepddhhdhmaaDoor.GA
end

section
/-
  TracePrints in plain Lean: what may be is a line each, on both sides.
-/
set_option linter.unusedVariables false
set_option linter.unusedSimpArgs false
namespace Go.Proofs.YtphbepddhhdhmaaDoor.Q
open Go.RowKit Go.Proofs.YtphbepddhhdhmaaDoorW.PrintWords Go.Proofs.YtphbepddhhdhmaaDoorW.PrintLast Go.Proofs.YtphbepddhhdhmaaDoorW.PrintMore Go.Proofs.YtphbepddhhdhmaaDoor.GA Hof
/-- What an event's fields are at all. -/
def EvIn (x : S36) : Prop := (0 ≤ x.f0 ∧ x.f0 < 18446744073709551616) ∧ I64 x.f1 ∧ I64 x.f2.f0 ∧ I64 x.f2.f1 ∧ I64 x.f3 ∧ I64 x.f4 ∧ I64 x.f5 ∧ I64 x.f6
theorem EvIn.ok {x : S36} (h : EvIn x) (k : 1 ≤ x.f3 ∧ x.f3 ≤ 36) : EvOk x := ⟨h.1, h.2.1, h.2.2.1, h.2.2.2.1, k, h.2.2.2.2.2.1, h.2.2.2.2.2.2.1, h.2.2.2.2.2.2.2⟩
theorem may_kind {a b c d e f g h : Int} {t : Bool} (hm : trace_may.f a b c d e f g h = some t) (ht : t = true) : 1 ≤ e ∧ e ≤ 36 := by
  subst ht
  unfold trace_may.f at hm
  by_cases c1 : e < 1
  · rw [if_pos c1] at hm; exact absurd hm (by simp)
  · by_cases c2 : e > 36
    · rw [if_neg c1, if_pos c2] at hm; exact absurd hm (by simp)
    · omega
theorem check_kinds (xs : List S36) (hl : xs.length < 2 ^ 62) : ∀ (k i : Nat) (r1 : Int), trace_Check.l0 k xs xs (xs.length : Int) (i : Int) = some (r1, 0) → ∀ j, i ≤ j → (hj : j < xs.length) → 1 ≤ xs[j].f3 ∧ xs[j].f3 ≤ 36
  | 0, i, r1, h, _, _, _ => absurd h (by simp [trace_Check.l0])
  | k + 1, i, r1, h, j, hij, hj => by
    have hA : (i : Int) < (xs.length : Int) := by omega
    have hB : 0 ≤ (i : Int) := by omega
    have w1 : wrap64 ((i : Int) + 1) = ((i + 1 : Nat) : Int) := by
      rw [Int.natCast_add]
      exact IntWalk.wrap64_in _ (by omega)
    simp only [trace_Check.l0, if_pos hA, if_pos hB, rd36 xs i (by omega), w1] at h
    obtain ⟨t, ht, h⟩ := Option.bind_eq_some_iff.1 h
    by_cases h3 : t = true
    case neg => rw [if_neg h3] at h; exact absurd h (by simp)
    rw [if_pos h3] at h
    have hrec : trace_Check.l0 k xs xs (xs.length : Int) ((i + 1 : Nat) : Int) = some (r1, 0) := by
      by_cases h4 : (i : Int) > 0
      case neg => rw [if_neg h4] at h; exact h
      have w2 : wrap64 ((i : Int) - 1) = (i : Int) - 1 := IntWalk.wrap64_in _ (by omega)
      rw [if_pos h4, w2, if_pos (by omega), if_pos (by omega)] at h
      by_cases h5 : xs[i].f0 < (rd_T36 xs ((i : Int) - 1)).f0
      · rw [if_pos h5] at h; exact absurd h (by simp)
      · rw [if_neg h5] at h; exact h
    by_cases he : i = j
    · subst he; exact may_kind ht h3
    · exact check_kinds xs hl k (i + 1) r1 hrec j (by omega) hj
theorem name25 (e : Int) (h : 1 ≤ e ∧ e ≤ 36) : rotaref25_Name.f e = some (Laid.nameAt (e - 1).toNat, 0) := by
  obtain ⟨s, c, n1, n2⟩ := name_eq e (by omega) (by omega)
  unfold trace_Name.f at n1
  rw [if_pos h] at n1
  rw [n2, ← n1]
theorem sp : (⟨#[32]⟩ : ByteArray) = sB [32] := rfl
theorem line25 (k : Nat) (hk : 20 ≤ k) (x : S36) (hx : EvOk x) : rotaref25_Line.f k x.f0 x.f1 x.f2.f0 x.f2.f1 x.f3 x.f4 x.f5 x.f6 = some (sB (lineE x)) := by
  have hle := lineE_len x hx
  obtain ⟨⟨h0, h1⟩, h2, h3, h4, h5, h7, h8, h9⟩ := hx
  have hp : 10 ^ 20 ≤ 10 ^ k := Nat.pow_le_pow_right (by omega) hk
  have e0 : rotaref25_number.f k x.f0 = some (sB (Lib.decDigits x.f0.toNat)) := by
    have := number_is k x.f0.toNat (by omega) (by omega) (by omega)
    rwa [Int.toNat_of_nonneg h0] at this
  have nm : Laid.nameAt (x.f3 - 1).toNat = sB (Laid.nameAt (x.f3 - 1).toNat).data.toList := by simp [sB]
  have e1 := Number_is k hk x.f1 (by have := h2; unfold I64 at this; omega) (by have := h2; unfold I64 at this; omega)
  have e2 := Number_is k hk x.f2.f0 (by have := h3; unfold I64 at this; omega) (by have := h3; unfold I64 at this; omega)
  have e3 := Number_is k hk x.f2.f1 (by have := h4; unfold I64 at this; omega) (by have := h4; unfold I64 at this; omega)
  have e5 := Number_is k hk x.f4 (by have := h7; unfold I64 at this; omega) (by have := h7; unfold I64 at this; omega)
  have e6 := Number_is k hk x.f5 (by have := h8; unfold I64 at this; omega) (by have := h8; unfold I64 at this; omega)
  have e7 := Number_is k hk x.f6 (by have := h9; unfold I64 at this; omega) (by have := h9; unfold I64 at this; omega)
  have hn := name25 x.f3 h5
  rw [nm] at hn
  unfold lineE lineOf numsB at hle
  simp only [List.length_append, List.flatMap_cons, List.flatMap_nil, List.length_cons, List.length_nil] at hle
  unfold rotaref25_Line.f
  simp only [hn, e0, e1, e2, e3, e5, e6, e7, Option.bind_some, sp, sB_app, sB_size, List.length_append, List.length_cons, List.length_nil]
  repeat rw [if_pos (by omega)]
  congr 2
  unfold lineE lineOf numsB
  simp [List.append_assoc]
theorem prints25 (xs : List S36) (hl : xs.length ≤ 1048576) (hx : ∀ x ∈ xs, EvOk x) : ∀ (d k i : Nat), i + d = xs.length → d + 20 < k → rotaref25_Print.l0 k xs (bI (textE (xs.take i))) (i : Int) = some (sB (textE xs), 0) := by
  intro d
  induction d with
  | zero =>
    intro k i h1 h2
    obtain ⟨k, rfl⟩ : ∃ j, k = j + 1 := ⟨k - 1, by omega⟩
    rw [rotaref25_Print.l0, if_neg (by omega), List.take_of_length_le (by omega), bI_str]
  | succ d ih =>
    intro k i h1 h2
    obtain ⟨k, rfl⟩ : ∃ j, k = j + 1 := ⟨k - 1, by omega⟩
    have hi : i < xs.length := by omega
    have w1 : wrap64 ((i : Int) + 1) = ((i + 1 : Nat) : Int) := by
      rw [Int.natCast_add]
      exact IntWalk.wrap64_in _ (by omega)
    have hev : EvOk (rd_T36 xs (i : Int)) := by rw [rd36 xs i hi]; exact hx _ (List.getElem_mem _)
    have l1 := textE_len (xs.take i) (fun y hy => hx y (List.mem_of_mem_take hy))
    have l2 : (xs.take i).length ≤ xs.length := List.length_take_le' _ _
    have l3 := lineE_len _ hev
    have hb : bytesOf (sB (lineE (rd_T36 xs (i : Int)))) = bI (lineE (rd_T36 xs (i : Int))) := rfl
    rw [rotaref25_Print.l0, if_pos (by omega), if_pos (by omega), line25 k (by omega) _ hev, Option.bind_some, sB_size, bI_len, if_pos (by omega), Option.bind_some, hb, ← bI_app, bI_len, List.length_append, if_pos (by omega), w1]
    have e : bI (textE (xs.take i) ++ lineE (rd_T36 xs (i : Int))) ++ [10] = bI (textE (xs.take (i + 1))) := by
      rw [textE_snoc xs i hi, bI_app (textE (xs.take i) ++ lineE (rd_T36 xs (i : Int))) [10]]; rfl
    rw [e]
    exact ih k (i + 1) (by omega) (by omega)
/-- Both sides, told. -/
theorem prints (xs : List S36) (hl : xs.length ≤ 1048576) (hx : ∀ x ∈ xs, EvIn x) : ∃ k r1 r2, rotalaw25_twin.f k xs = some xs ∧ trace_Check.f k xs = some (r1, r2) ∧ (r2 = 0 → ∀ x ∈ xs, EvOk x) ∧ rotaref25_Print.f k xs = some (if r2 = 0 then sB (textE xs) else ⟨#[]⟩, r2) := by
  obtain ⟨⟨r1, r2⟩, c1, c2⟩ := check_some xs (by omega) xs.length (xs.length + 40) 0 (by omega) (by omega)
  have t := twin_is xs (by omega) xs.length (xs.length + 40) 0 (by omega) (by omega)
  have hg : r2 = 0 → ∀ x ∈ xs, EvOk x := fun h x hm => by
    subst h
    obtain ⟨j, hj, rfl⟩ := List.getElem_of_mem hm
    exact (hx _ hm).ok (check_kinds xs (by omega) _ 0 r1 c1 j (by omega) hj)
  refine ⟨xs.length + 40, r1, r2, t, c1, hg, ?_⟩
  unfold rotaref25_Print.f rotaref25_Check.f
  have c2' : rotaref25_Check.l0 (xs.length + 40) xs 0 = some (r1, r2) := c2
  rw [c2', Option.bind_some]
  by_cases h : r2 = 0
  · rw [if_pos h, if_pos h, h]
    exact prints25 xs hl (hg h) xs.length (xs.length + 40) 0 (by omega) (by omega)
  · rw [if_neg h, if_neg h]
end Go.Proofs.YtphbepddhhdhmaaDoor.Q
end

section
/-
  What a line's pieces are: plain Lean.
-/
set_option linter.unusedVariables false
set_option linter.unusedSimpArgs false
namespace Go.Proofs.YtphbepddhhdhmaaDoor.Hof
open Go.RowKit Go.Shelf Go.Proofs.YtphbepddhhdhmaaDoorW.PrintWords Go.Proofs.YtphbepddhhdhmaaDoorW.PrintLast Go.Proofs.YtphbepddhhdhmaaDoorW.PrintMore GA Num Q
def nameL (q : Nat) : List UInt8 := (Laid.nameAt q).data.toList
/-- A line's eight pieces. -/
def piecesE (x : S36) : List (List UInt8) := [Lib.decDigits x.f0.toNat, Lib.itoa x.f1, Lib.itoa x.f2.f0, Lib.itoa x.f2.f1, nameL (x.f3 - 1).toNat, Lib.itoa x.f4, Lib.itoa x.f5, Lib.itoa x.f6]
theorem line_join (x : S36) : lineE x = joinC 32 (piecesE x) := by
  unfold lineE lineOf numsB piecesE nameL
  simp [joinC]
theorem names_no : ∀ q < 36, (32 : UInt8) ∉ nameL q ∧ (10 : UInt8) ∉ nameL q := by decide
theorem names_one : ∀ p < 36, ∀ q < 36, nameL p = nameL q → p = q := by decide +kernel
theorem pieces_no (x : S36) (hx : EvOk x) (c : UInt8) (hc : c = 32 ∨ c = 10) : ∀ p ∈ piecesE x, c ∉ p := by
  have h45 : c.toNat < 45 := by rcases hc with rfl | rfl <;> decide
  obtain ⟨n1, n2⟩ := names_no (x.f3 - 1).toNat (by have := hx.2.2.2.2.1; omega)
  intro p hp
  simp only [piecesE, List.mem_cons, List.not_mem_nil, or_false] at hp
  rcases hp with rfl | rfl | rfl | rfl | rfl | rfl | rfl | rfl
  · exact dec_no _ _ h45
  · exact itoa_no _ _ h45
  · exact itoa_no _ _ h45
  · exact itoa_no _ _ h45
  · rcases hc with rfl | rfl
    · exact n1
    · exact n2
  · exact itoa_no _ _ h45
  · exact itoa_no _ _ h45
  · exact itoa_no _ _ h45
/-- An event that may be, and this text is its line. -/
def Valid (s : ByteArray) (x : S36) : Prop := EvOk x ∧ trace_may.f x.f0 x.f1 x.f2.f0 x.f2.f1 x.f3 x.f4 x.f5 x.f6 = some true ∧ s = sB (lineE x)
theorem line_pcs (x : S36) (hx : EvOk x) : (pcs (sB (lineE x)) 32).map (·.data.toList) = piecesE x := by
  rw [line_join]
  exact pcs_join (piecesE x) 32 (by simp [piecesE]) (pieces_no x hx 32 (.inl rfl))
theorem line_nl (x : S36) (hx : EvOk x) : (10 : UInt8) ∉ lineE x := by
  rw [line_join]
  have h := pieces_no x hx 10 (.inr rfl)
  intro hm
  simp only [piecesE, List.mem_cons, List.not_mem_nil, or_false, forall_eq_or_imp, forall_eq] at h
  simp only [piecesE, joinC, List.mem_append, List.mem_cons] at hm
  obtain ⟨h1, h2, h3, h4, h5, h6, h7, h8⟩ := h
  have hd : ¬ (10 : UInt8) = 32 := by decide
  simp only [h1, h2, h3, h4, h5, h6, h7, h8, hd, or_self] at hm
/-- The kind that a name tells (the last that bears it; 0: none), of the first n names. -/
def kindOf (s : ByteArray) : Nat → Int
  | 0 => 0
  | n + 1 => if Laid.nameAt n = s then ((n + 1 : Nat) : Int) else kindOf s n
theorem kind_in (s : ByteArray) : ∀ n, 0 ≤ kindOf s n ∧ kindOf s n ≤ n
  | 0 => ⟨Int.le_refl _, Int.le_refl _⟩
  | n + 1 => by
    have := kind_in s n
    unfold kindOf
    split <;> omega
theorem kind_none (q : Nat) (hq : q < 36) : ∀ n, n ≤ q → kindOf (Laid.nameAt q) n = 0
  | 0, _ => rfl
  | n + 1, h => by
    rw [kindOf, if_neg, kind_none q hq n (by omega)]
    intro he
    have := names_one n (by omega) q hq (by unfold nameL; rw [he])
    omega
theorem kind_is (q : Nat) (hq : q < 36) : ∀ n, q < n → n ≤ 36 → kindOf (Laid.nameAt q) n = ((q + 1 : Nat) : Int)
  | 0, h, _ => absurd h (by omega)
  | n + 1, h, h2 => by
    rw [kindOf]
    by_cases e : n = q
    · subst e; rw [if_pos rfl]
    · rw [if_neg, kind_is q hq n (by omega) (by omega)]
      intro he
      exact e (names_one n (by omega) q hq (by unfold nameL; rw [he]))
/-- What the pieces of a valid line read as. -/
theorem valid_reads {s : ByteArray} {x : S36} (h : Valid s x) {p0 p1 p2 p3 p4 p5 p6 p7 : ByteArray} (hp : pcs s 32 = [p0, p1, p2, p3, p4, p5, p6, p7]) :
    Lib.parseUintB 64 p0.data.toList = .ok x.f0.toNat ∧ Lib.atoiAll p1.data.toList = .ok x.f1 ∧ Lib.atoiAll p2.data.toList = .ok x.f2.f0 ∧ Lib.atoiAll p3.data.toList = .ok x.f2.f1 ∧ kindOf p4 36 = x.f3 ∧
    Lib.parseIntB 64 p5.data.toList = .ok x.f4 ∧ Lib.parseIntB 64 p6.data.toList = .ok x.f5 ∧ Lib.parseIntB 64 p7.data.toList = .ok x.f6 := by
  obtain ⟨hx, _, rfl⟩ := h
  have hl := line_pcs x hx
  rw [hp] at hl
  simp only [piecesE, List.map_cons, List.map_nil, List.cons.injEq, and_true] at hl
  obtain ⟨e0, e1, e2, e3, e4, e5, e6, e7⟩ := hl
  obtain ⟨⟨h0, h1⟩, h2, h3, h4, ⟨h5, h6⟩, h7, h8, h9⟩ := hx
  have e4' : p4 = Laid.nameAt (x.f3 - 1).toNat := by
    apply ByteArray.ext
    apply Array.toList_inj.1
    exact e4
  refine ⟨by rw [e0]; exact uintB_digits _ (by omega), by rw [e1]; exact atoi_itoa _ h2.1 h2.2, by rw [e2]; exact atoi_itoa _ h3.1 h3.2, by rw [e3]; exact atoi_itoa _ h4.1 h4.2, ?_, by rw [e5]; exact int_itoa _ h7.1 h7.2, by rw [e6]; exact int_itoa _ h8.1 h8.2, by rw [e7]; exact int_itoa _ h9.1 h9.2⟩
  rw [e4', kind_is (x.f3 - 1).toNat (by omega) 36 (by omega) (by omega)]
  omega
theorem valid_eight {s : ByteArray} {x : S36} (h : Valid s x) : (pcs s 32).length = 8 := by
  obtain ⟨hx, _, rfl⟩ := h
  have := congrArg List.length (line_pcs x hx)
  rw [List.length_map] at this
  rw [this]; rfl
/-- What a reader tells of a text: an event, and whether the text is its line; if the text is any valid event's line, then this one's. -/
def Reads (s : ByteArray) (x : S36) (ok : Bool) : Prop := Q.EvIn x ∧ (ok = true → Valid s x) ∧ ∀ y, Valid s y → ok = true ∧ x = y
theorem reads_same {s : ByteArray} {x y : S36} {a b : Bool} (h : Reads s x a) (k : Reads s y b) : a = b ∧ (a = true → x = y) := by
  cases a
  · cases b
    · exact ⟨rfl, fun h => by simp at h⟩
    · exact absurd (h.2.2 y (k.2.1 rfl)).1 (by simp)
  · obtain ⟨e, e2⟩ := k.2.2 x (h.2.1 rfl)
    exact ⟨e.symm, fun _ => e2.symm⟩
end Go.Proofs.YtphbepddhhdhmaaDoor.Hof
end

section
/-
  Two more events: a slice that is written out, and what strings.Split makes, as boxes of the call's own memory.
-/
set_option linter.unusedVariables false
set_option linter.unusedSimpArgs false
namespace Go.Proofs.YtphbepddhhdhmaaDoor.Hof
open Go.RowKit Go.Shelf Go.Proofs.YtphbepddhhdhmaaDoorW.PrintWords Go.Proofs.YtphbepddhhdhmaaDoorW.PrintLast Go.Proofs.YtphbepddhhdhmaaDoorW.PrintMore GA Hctx
section
variable {P : Program} {ops : Array Oper} {rest : List Oper} {o : Oper} {a : Act} {Q : Exit → Act → World → Prop} {e : List TypeId} {w0 W : World} {l : List (Nat × Array Value × TypeId)} {rows : List Row}
/-- A slice written out: a box. -/
theorem eBS (M : Aside0 (Mem e w0 W l rows)) (N : Tmp) (n : Nat) (cs : Array Value) (t : TypeId)
    (h : ∀ g w1, Aside0 (Mem e w0 w1 (l ++ [(g, cs, t)]) rows) → wpList P ops Q rest (a.put o.dst (.slice (some ⟨g, 0, none⟩) n n)) w1)
    (hd : o.dst = some N := by with_reducible rfl) (hgd : o.guard = none := by with_reducible rfl) (he : t ∉ e := by decide)
    (hr : (execOp a.eval o).run P W = .ok (.value (.slice (some ⟨W.heap.size, 0, none⟩) n n)) (W.alloc (.cells cs t (0, 0))) := by first | (go_simp; done) | (go_simp; rfl)) :
    wpList P ops Q (o :: rest) a W := by
  refine Kd.event_run hgd hr ?_
  refine h W.heap.size _ ⟨Mem.box M.out rfl ?_ ?_ he⟩
  · exact blk_new W _
  · exact below_alloc (Below.refl _ _) _
end
theorem split_mem {es : List TypeId} {w0 W : World} {l : List (Nat × Array Value × TypeId)} {rows : List Row} (M : Aside0 (Mem es w0 W l rows)) (S : Std w0) (s : ByteArray) (c : UInt8) (hs : s.size ≤ 268435457) (ht : 9 ∉ es) :
    Calls Tryd.prog 52 #[.string s, .string ⟨#[c]⟩] W fun e W' => ∃ g, e = .returned (.slice (some ⟨g, 0, none⟩) (pcs s c).length (pcs s c).length) ∧ Aside0 (Mem es w0 W' (l ++ [(g, ((pcs s c).map Value.string).toArray, 9)]) rows) := by
  refine (split_calls (S.below M.out.below) s c hs).mono ?_
  rintro e W' ⟨he, rfl⟩
  refine ⟨W.heap.size, he, ⟨Mem.box M.out rfl ?_ ?_ ht⟩⟩
  · exact blk_new W _
  · exact below_alloc (Below.refl _ _) _
theorem splitB_size (sep : ByteArray) : ∀ (k : Nat) (s : ByteArray), ∀ p ∈ Lib.splitB sep 0 k s, p.size ≤ s.size
  | 0, s, p, h => by rw [Lib.splitB_zero, List.mem_singleton] at h; rw [h]; exact Nat.le_refl _
  | k + 1, s, p, h => by
    rw [Lib.splitB] at h
    split at h
    · rw [List.mem_singleton] at h; rw [h]; exact Nat.le_refl _
    · rcases List.mem_cons.1 h with rfl | h
      · simp only [ByteArray.size_extract]; omega
      · have := splitB_size sep k _ p h
        simp only [ByteArray.size_extract] at this; omega
theorem pcs_size {s : ByteArray} {c : UInt8} {p : ByteArray} (h : p ∈ pcs s c) : p.size ≤ s.size := splitB_size _ _ _ p h
theorem str_ne {a b : ByteArray} (h : ¬ a = b) : (a.toList == b.toList) = false := beq_eq_false_iff_ne.mpr fun e => h (by rw [ByteArray.toList_eq, ByteArray.toList_eq] at e; exact ByteArray.ext (Array.toList_inj.1 e))
theorem list8 {α : Type} {l : List α} (h : l.length = 8) : ∃ a b c d e f g i, l = [a, b, c, d, e, f, g, i] := by
  match l, h with
  | [a, b, c, d, e, f, g, i], _ => exact ⟨a, b, c, d, e, f, g, i, rfl⟩
/-- The table of names, as a value. -/
def namesV : List Value := Laid.names.map Value.string
theorem namesV_at (i : Nat) (hi : i < 36) : namesV[i]? = some (.string (Laid.nameAt i)) := by
  have hl : Laid.names.length = 36 := rfl
  unfold namesV Laid.nameAt
  rw [List.getElem?_map, List.getElem?_eq_getElem (by omega), List.getD_eq_getElem?_getD, List.getElem?_eq_getElem (by omega)]
  rfl
theorem names_range {w : World} (h : Laid.LaidNames w) : w.rangeAt 0 0 namesV := fun j u hu => by
  have hj : j < 36 := by
    have hl : namesV.length = 36 := rfl
    have := (List.getElem?_eq_some_iff.1 hu).1
    omega
  rw [namesV_at j hj] at hu
  rw [Nat.zero_add, h j hj]
  exact hu
theorem index_names (i : Nat) (hi : i < 36) (w : World) : (Instr.index 50 (.agg namesV.toArray) (.int .i64 (i : Int))).run Tryd.prog w = .ok (.string (Laid.nameAt i)) w := by
  have h := namesV_at i hi
  have h2 : (0 ≤ (i : Int) ∧ (i : Int) < ((36 : Nat) : Int)) := by omega
  have hz := Tryd.sizeOf9
  have ha := Tryd.isAgg9
  simp [Instr.index, run_underlying Tryd.underlying50, asIntOf, h2, part, go_sem, h]
  intro hh
  omega
section
variable {ops : Array Oper} {rest : List Oper} {o : Oper} {a : Act} {Q : Exit → Act → World → Prop} {W : World}
/-- An element of the table of names. -/
theorem eName (N : Tmp) (i : Nat) (hi : i < 36) {p q : Tmp} (h : wpList Tryd.prog ops Q rest (a.put o.dst (.string (Laid.nameAt i))) W)
    (hd : o.dst = some N := by with_reducible rfl) (hgd : o.guard = none := by with_reducible rfl) (ho : o.op = .index 50 (.tmp p) (.tmp q) := by with_reducible rfl)
    (hx : a.eval (.tmp p) = .agg namesV.toArray := by rfl) (hq : a.eval (.tmp q) = .int .i64 (i : Int) := by rfl) : wpList Tryd.prog ops Q (o :: rest) a W := by
  refine Kd.event_run (v := .string (Laid.nameAt i)) (w1 := W) hgd ?_ h
  unfold execOp
  simp only [ho, hx, hq, Sem.run_bind, index_names i hi W, Result.andThen_ok, Sem.run_pure]
end
section
variable {P : Program} {ops : Array Oper} {md : Region.Mode} {o : Oper} {a : Act} {Q : Exit → Act → World → Prop} {e : List TypeId} {w0 w W : World} {l L : List (Nat × Array Value × TypeId)} {T : List (Addr × Value)} {rows : List Row} {fuel : Nat} {listed : Array Bool} {ds : List Nat}
theorem dStart2 {id : Nat} (ds : List Nat) (L : List (Nat × Array Value × TypeId)) (M : Aside0 (Mem e w0 W l rows))
    (h : ∀ W', Aside0 (Mem e w0 W' l rows) → wpAnyLast P .any ops (NoPanic Q) (Held L []) ds ops.size (Array.replicate ops.size false) a W')
    (hm : P.follows .mixedOrders = true := by kernel_rfl) (hl : l.take L.length = L := by rfl) : (Code.region id ops true).wp P Q a W := by
  refine wp_region_noPanic ?_
  exact wp_region_last_drew hm ((Mem.drew M.out).held (Cells.nil _) hl) (fun _ => h _ ⟨Mem.drew M.out⟩)
/-- An event that only reads. -/
theorem qC (M : Aside0 (Mem e w0 w l rows)) (i : Nat) (N : Tmp) (u : Value) {rs : List Nat}
    (hrun : (execOp a.eval o).run P w = .ok (.value u) w)
    (h : wpAnyLast P md ops Q (Held L T) ds fuel (listed.setIfInBounds i true) (a.put (some N) u) w)
    (hrest : AllReadyL P md ops Q (Held L T) ds fuel listed a w rs)
    (hoi : ops[i]? = some o := by rfl) (hN : o.dst = some N := by rfl) (hw : Region.wanted o (yielded ops a.tmps) = true := by rfl) (hd : i ∉ ds := by decide)
    (hl : l.take L.length = L := by rfl) (hT : Cells w0 T := by first | exact Cells.nil _ | assumption) : AllReadyL P md ops Q (Held L T) ds fuel listed a w (i :: rs) := by
  refine AllReadyL.cons hoi hd (fun K hK => ?_) hrest
  rw [if_pos hw]
  unfold Oper.wp
  rw [hrun]
  show K (a.put o.dst _) _
  rw [hN]
  exact hK.out _ _ (M.out.held hT hl) (fun _ => h)
/-- string(b), run. -/
theorem run_str {o : Oper} {a : Act} {W : World} {A : Option Addr} {n c : Nat} {m : List UInt8} (HR : (Kd.int .u8).C W A n (bI m)) {x : Operand} (ho : o.op = .convert 58 9 x) (hx : a.eval x = .slice A n c) : (execOp a.eval o).run Tryd.prog W = .ok (.value (.string ⟨m.toArray⟩)) W := by
  have hc := Kd.C_string (c := c) Tryd.underlying58 Tryd.underlying5 Tryd.underlying9 HR
  rw [bI_str] at hc
  unfold execOp
  simp only [ho, hx, Sem.run_bind, hc, Result.andThen_ok, Sem.run_pure]
end
theorem perm5 {α : Type} (a b c d e : α) : [a, b, c, d, e].Perm [c, b, d, e, a] :=
  (List.perm_middle (l₁ := [a, b])).trans (List.Perm.cons c (List.perm_append_comm (l₁ := [a]) (l₂ := [b, d, e])))
theorem line_nil {w0 W : World} {L : List (Nat × Array Value × TypeId)} (M : Aside0 (Mem [5] w0 W L [])) (S : Std w0) (x : S36) (hx : EvOk x) :
    Calls Tryd.prog 40 #[.slice none 0 0, .agg (evC x)] W fun e W' => ∃ (B : Option Addr) (c : Nat), e = .returned (.slice B (bI (lineE x)).length c) ∧ Aside0 (Mem [5] w0 W' L [⟨Kd.int .u8, 5, .slice B (bI (lineE x)).length c, bI (lineE x)⟩]) :=
  line_mem (m := []) ⟨Mem.nilRow M.out (by decide)⟩ x hx (by simp) (Nat.lt_of_le_of_lt (Nat.zero_le _) S.size) S.tab S.names
/-- What reads as a valid line's event is that event. -/
theorem valid_same {s p0 p1 p2 p3 p4 p5 p6 p7 : ByteArray} {u : Nat} {x1 x2 x3 y1 y2 y3 : Int} (hp : pcs s 32 = [p0, p1, p2, p3, p4, p5, p6, p7]) (hu : Lib.parseUintB 64 p0.data.toList = .ok u)
    (h1 : Lib.atoiAll p1.data.toList = .ok x1) (h2 : Lib.atoiAll p2.data.toList = .ok x2) (h3 : Lib.atoiAll p3.data.toList = .ok x3) (h5 : Lib.parseIntB 64 p5.data.toList = .ok y1) (h6 : Lib.parseIntB 64 p6.data.toList = .ok y2) (h7 : Lib.parseIntB 64 p7.data.toList = .ok y3)
    (y : S36) (hy : Valid s y) : (⟨(u : Int), x1, ⟨x2, x3⟩, kindOf p4 36, y1, y2, y3⟩ : S36) = y := by
  obtain ⟨r0, r1, r2, r3, r4, r5, r6, r7⟩ := valid_reads hy hp
  have q0 : (u : Int) = y.f0 := by
    have := Lib.NumEnd.ok.inj (hu.symm.trans r0)
    have h0 := hy.1.1.1
    omega
  have q1 : x1 = y.f1 := Lib.NumEnd.ok.inj (h1.symm.trans r1)
  have q2 : x2 = y.f2.f0 := Lib.NumEnd.ok.inj (h2.symm.trans r2)
  have q3 : x3 = y.f2.f1 := Lib.NumEnd.ok.inj (h3.symm.trans r3)
  have q5 : y1 = y.f4 := Lib.NumEnd.ok.inj (h5.symm.trans r5)
  have q6 : y2 = y.f5 := Lib.NumEnd.ok.inj (h6.symm.trans r6)
  have q7 : y3 = y.f6 := Lib.NumEnd.ok.inj (h7.symm.trans r7)
  rw [q0, q1, q2, q3, r4, q5, q6, q7]
end Go.Proofs.YtphbepddhhdhmaaDoor.Hof
end

section
/-
  What both parsers tell of a text (plain Lean), and the event of an append of one struct to a row of the call's own.
-/
set_option linter.unusedVariables false
set_option linter.unusedSimpArgs false
namespace Go.Proofs.YtphbepddhhdhmaaDoor.Hof
open Go.RowKit Go.Shelf Go.Proofs.YtphbepddhhdhmaaDoorW.PrintWords Go.Proofs.YtphbepddhhdhmaaDoorW.PrintLast Go.Proofs.YtphbepddhhdhmaaDoorW.PrintMore GA Hctx Num Q
open Classical in
/-- The event whose line a text is. -/
noncomputable def evOf (s : ByteArray) : Option S36 := if h : ∃ x, Valid s x then some (Classical.choose h) else none
theorem evOf_yes {s : ByteArray} {x : S36} {ok : Bool} (h : Reads s x ok) (hk : ok = true) : evOf s = some x := by
  have h1 : ∃ x, Valid s x := ⟨x, h.2.1 hk⟩
  unfold evOf
  rw [dif_pos h1, ← (h.2.2 _ (Classical.choose_spec h1)).2]
theorem evOf_no {s : ByteArray} {x : S36} {ok : Bool} (h : Reads s x ok) (hk : ok = false) : evOf s = none := by
  unfold evOf
  rw [dif_neg]
  rintro ⟨y, hy⟩
  have := (h.2.2 y hy).1
  rw [hk] at this
  cases this
theorem evOf_valid {s : ByteArray} {x : S36} (h : evOf s = some x) : Valid s x := by
  unfold evOf at h
  by_cases h1 : ∃ x, Valid s x
  · rw [dif_pos h1] at h
    rw [← Option.some.inj h]
    exact Classical.choose_spec h1
  · rw [dif_neg h1] at h; cases h
/-- Is an event earlier than the last one? -/
def low (done : List S36) (x : S36) : Prop := 0 < done.length ∧ x.f0 < (rd_T36 done ((done.length : Int) - 1)).f0
open Classical in
/-- What is told of a text, its bytes one by one; cur: the line's bytes so far. -/
noncomputable def scan (cur : List UInt8) (done : List S36) : List UInt8 → List S36 × Int × Int
  | [] => if cur = [] then (done, 0, 0) else ([], 250, (done.length : Int) + 1)
  | b :: r => if b = 10 then (match evOf (sB cur) with
      | none => ([], 250, (done.length : Int) + 1)
      | some x => if low done x then ([], 251, (done.length : Int) + 1) else scan [] (done ++ [x]) r)
    else scan (cur ++ [b]) done r
theorem scan_hit (done : List S36) : ∀ (p r cur : List UInt8), (10 : UInt8) ∉ p → scan cur done (p ++ 10 :: r) = scan (cur ++ p) done (10 :: r)
  | [], r, cur, _ => by rw [List.nil_append, List.append_nil]
  | b :: p, r, cur, h => by
    have hb : ¬ b = 10 := fun e => h (by rw [e]; exact List.mem_cons_self)
    rw [List.cons_append, scan, if_neg hb, scan_hit done p r (cur ++ [b]) (fun e => h (List.mem_cons_of_mem _ e)), List.append_assoc, List.singleton_append]
theorem scan_none (done : List S36) (cur r : List UInt8) (h : evOf (sB cur) = none) : scan cur done (10 :: r) = ([], 250, (done.length : Int) + 1) := by
  rw [scan, if_pos rfl, h]
theorem scan_low (done : List S36) (cur r : List UInt8) (x : S36) (h : evOf (sB cur) = some x) (hl : low done x) : scan cur done (10 :: r) = ([], 251, (done.length : Int) + 1) := by
  rw [scan, if_pos rfl, h]
  exact if_pos hl
theorem scan_some (done : List S36) (cur r : List UInt8) (x : S36) (h : evOf (sB cur) = some x) (hl : ¬ low done x) : scan cur done (10 :: r) = scan [] (done ++ [x]) r := by
  conv => lhs; rw [scan, if_pos rfl, h]
  exact if_neg hl
theorem scan_miss (done : List S36) : ∀ (p cur : List UInt8), (10 : UInt8) ∉ p → cur ++ p ≠ [] → scan cur done p = ([], 250, (done.length : Int) + 1)
  | [], cur, _, h2 => by rw [scan, if_neg (by simpa using h2)]
  | b :: p, cur, h, h2 => by
    have hb : ¬ b = 10 := fun e => h (by rw [e]; exact List.mem_cons_self)
    rw [scan, if_neg hb, scan_miss done p (cur ++ [b]) (fun e => h (List.mem_cons_of_mem _ e)) (by simp)]
/-- What Parse tells. -/
noncomputable def parseR (s : ByteArray) : List S36 × Int × Int := if 268435456 < s.size then ([], 2, 0) else scan [] [] s.data.toList
/-- A parser's answer. -/
def Parsed (res : List S36 × Int × Int) (w : World) (e : Ending) (w' : World) : Prop :=
  ∃ (v : Value), e = .returned (.tuple #[v, .int .i64 res.2.1, .int .i64 res.2.2]) ∧ Kd.R k36 36 w' w.heap.size (fun _ => True) v res.1 ∧ Below w.heap.size w w'
theorem parsed_nil {w w' : World} (c n : Int) (hb : Below w.heap.size w w') : Parsed ([], c, n) w (.returned (.tuple #[.slice none 0 0, .int .i64 c, .int .i64 n])) w' :=
  ⟨_, rfl, Kd.R_nil _ _ _ _ _, hb⟩
section
variable {P : Program} {ops : Array Oper} {rest : List Oper} {o : Oper} {a : Act} {Q : Exit → Act → World → Prop} {es : List TypeId} {w0 W W1 : World} {l : List (Nat × Array Value × TypeId)} {rows : List Row}
/-- 'append(s, x)' of one struct on the first row, its slice just made. -/
theorem eApp1 {α : Type} {d : Kd α} {e : TypeId} {v : Value} {xs : List α} (M : Aside0 (Mem es w0 W l (⟨d, e, v, xs⟩ :: rows))) (N : Tmp) (p : α) (cs : List Value) (z : Value) (bytes : Nat) (hp : d.M W w0.heap.size (fun _ => False) p cs) (hl : (xs.length + 1) * bytes ≤ 140737488355328)
    (h : ∀ v' w1, Aside0 (Mem es w0 w1 l (⟨d, e, v', xs ++ [p]⟩ :: rows)) → wpList P ops Q rest (a.put o.dst v') w1)
    {s x : Operand} {t : TypeId} (ho : o.op = .call { callee := .builtin .append, args := #[s, x], argTypes := #[t, t] } := by with_reducible rfl) (hd : o.dst = some N := by with_reducible rfl) (hgd : o.guard = none := by with_reducible rfl)
    (ht : P.underlying t = some (.slice e) := by kernel_rfl) (hinfo : (P.info? e).map (fun i => (i.zero, i.size, i.bytes)) = some (some z, d.sz, bytes) := by kernel_rfl)
    (hz : z.cells.size = d.sz := by rfl) (hs0 : 0 < d.sz := by decide) (hb0 : 0 < bytes := by decide) (hs : a.eval s = v := by rfl) (hx : a.eval x = .slice (some ⟨W.heap.size, 0, none⟩) 1 1 := by rfl) : wpList P ops Q (o :: rest) a (W.alloc (.cells cs.toArray e)) := by
  have M0 := M.out
  refine Kd.R_append d (w0 := w0) w0.heap.size hgd s x t e z bytes ho ht hinfo hz hs0 hb0 v xs p cs (okOf (⟨d, e, v, xs⟩ :: rows) 0) (fun _ => False) hs hx hp (fun _ hk => hk.elim)
    (fun k hk => M0.okFresh 0 k hk) (M0.owns 0 _ rfl) M0.below M0.below.size hl (fun v1 w1 hR hB hg hat => ?_)
  exact h v1 w1 ⟨M0.written hB hg hR hat⟩
end
section
variable {w W : World} {v : Value} {xs : List S36}
/-- The last event of a row, its number's cell. -/
theorem last_cell (h : Kd.R k36 36 W w.heap.size (fun _ => True) v xs) (hn : 0 < xs.length) : ∃ ad c, v = .slice (some ad) xs.length c ∧ W.cell? (ad.add (((xs.length : Int) - 1).toNat * 8)) = some (.int .u64 (rd_T36 xs ((xs.length : Int) - 1)).f0) := by
  obtain ⟨A, c, rfl⟩ := Kd.R_slice h
  have hC := (Kd.R_reads' h).2.2
  obtain ⟨ad, rfl, h1, _⟩ := at_T36 hC ((xs.length : Int) - 1) (by omega) (by omega)
  exact ⟨ad, c, rfl, h1⟩
theorem Mem.nilS {α : Type} {d : Kd α} {e : TypeId} {es : List TypeId} {w0 W : World} {L : List (Nat × Array Value × TypeId)} (M : Mem es w0 W L []) (h : ∀ q, q ∈ e :: d.E → q ∈ es) : Mem es w0 W L [⟨d, e, .slice Option.none 0 0, []⟩] :=
  ⟨M.below, M.blk, M.apart, (fun r hr => by
    rw [List.mem_singleton] at hr; subst hr; exact h), (fun i r hr => by
    cases i with
    | zero => obtain rfl : _ = r := by simpa using hr
              exact Kd.R_nil _ _ _ _ _
    | succ i => simp at hr)⟩
theorem cut_hit (S : Std w) (t : ByteArray) (p r : List UInt8) (ht : t.data.toList = p ++ 10 :: r) (h : (10 : UInt8) ∉ p) (hs : t.size ≤ 268435457) :
    Calls Tryd.prog 42 #[.string t, .string ⟨#[10]⟩] w fun e w' => e = .returned (.tuple #[.string (sB p), .string (sB r), .bool true]) ∧ Below w.heap.size w w' := by
  refine (cut_calls S t 10 hs).mono ?_
  rintro e w' ⟨rfl, hb⟩
  rw [ht, Num.cut_hit1 10 p r h]
  exact ⟨rfl, hb⟩
theorem cut_miss (S : Std w) (t : ByteArray) (h : (10 : UInt8) ∉ t.data.toList) (hs : t.size ≤ 268435457) :
    Calls Tryd.prog 42 #[.string t, .string ⟨#[10]⟩] w fun e w' => e = .returned (.tuple #[.string t, .string ⟨#[]⟩, .bool false]) ∧ Below w.heap.size w w' := by
  refine (cut_calls S t 10 hs).mono ?_
  rintro e w' ⟨rfl, hb⟩
  rw [Num.cut_miss1 10 _ h]
  exact ⟨rfl, hb⟩
theorem first10 (l : List UInt8) (h : (10 : UInt8) ∈ l) : ∃ p r, l = p ++ 10 :: r ∧ (10 : UInt8) ∉ p := by
  obtain ⟨p, r, h1, h2⟩ := List.append_of_mem h |> fun _ => List.eq_append_cons_of_mem h
  exact ⟨p, r, h1, h2⟩
end
end Go.Proofs.YtphbepddhhdhmaaDoor.Hof
end
