import Derived.Test.YtphbepddhhdhmaaDoorMPr0
import Derived.Test.YtphbepddhhdhmaaDoorMPr8
import Derived.Test.YtphbepddhhdhmaaDoorMPr10
import Derived.Test.YtphbepddhhdhmaaDoorMPr5
import Derived.Test.YtphbepddhhdhmaaDoorMPr9
import Derived.Test.YtphbepddhhdhmaaDoorMPr6
import Derived.Deep.QuietTactic
import Derived.BigQuiet
import Derived.Lib.Hide
import Derived.WalkKit
import Derived.Outline
import Derived.Test.YtphbepddhhdhmaaDoorRows
import Derived.Test.YtphbepddhhdhmaaDoorMPr1
import Derived.Lib.LaidTab
import Derived.Test.YtphbepddhhdhmaaDoorCards
import Derived.Test.YtphbepddhhdhmaaDoorTie
import Derived.ProofKit
import Derived.OpenShut
import Derived.ShutString
import Derived.ChangeOld
import Derived.Below
import Derived.SizedLaws
import Derived.Lib.SmallJoins
import Derived.Deep.DeepHandedRow
section
-- laid by a program of this session (wip/gp.sh)
namespace Go.Proofs.YtphbepddhhdhmaaDoor.GA
open Go.RowKit Go.Proofs.YtphbepddhhdhmaaDoorW.PrintWords Go.Proofs.YtphbepddhhdhmaaDoorW.PrintLast Go.Proofs.YtphbepddhhdhmaaDoorW.PrintMore
attribute [local go_sem] max2_int min2_int max_two min_two max_three min_three max_four min_four   -- for this text's walks alone
set_option linter.unusedVariables false
set_option linter.unusedSimpArgs false

/-! ### rotaref25_Print: function 27 -/
def rotaref25_Print.l0 : Nat → List (S36) → List Int → Int → Option (ByteArray × Int)
  | 0, _, _, _ => none
  | k + 1, x0, x6, x7 => if x7 < (x0.length : Int) then (if 0 ≤ x7 then ((rotaref25_Line.f k ((rd_T36 x0 x7).f0) ((rd_T36 x0 x7).f1) ((rd_T36 x0 x7).f2.f0) ((rd_T36 x0 x7).f2.f1) ((rd_T36 x0 x7).f3) ((rd_T36 x0 x7).f4) ((rd_T36 x0 x7).f5) ((rd_T36 x0 x7).f6)).bind fun t316 => (if x6.length + t316.size < 140737488355328 then ((some (x6 ++ bytesOf t316 : List Int)).bind fun y317 => (if y317.length < 140737488355328 then (rotaref25_Print.l0 k x0 (y317 ++ [10]) (wrap64 (x7 + 1))) else (none))) else (none))) else (none)) else (some (strOfNums x6, 0))
def rotaref25_Print.f (k : Nat) (l0 : List (S36)) : Option (ByteArray × Int) := (rotaref25_Check.f k l0).bind fun bt310 => (if bt310.2 = 0 then (rotaref25_Print.l0 k l0 (([] : List Int)) 0) else (some ((⟨#[]⟩ : ByteArray), bt310.2)))
theorem rotaref25_Print.mono_l : ∀ k, (∀ y0 y1 y2, LeO (rotaref25_Print.l0 k y0 y1 y2) (rotaref25_Print.l0 (k + 1) y0 y1 y2))
  | 0 => fun _ _ _ r h => by simp [rotaref25_Print.l0] at h
  | k + 1 => by
    have ih0 := rotaref25_Print.mono_l k
    · intro y0 y1 y2
      unfold rotaref25_Print.l0
      repeat' first
      | (with_reducible exact ih0 _ _ _)
      | (with_reducible exact rotaref25_Check.mono _ _)
      | (with_reducible exact rotaref25_Line.mono _ _ _ _ _ _ _ _ _)
      | (with_reducible exact LeO.refl _)
      | (with_reducible exact LeO.none _)
      | (with_reducible refine LeO.ite ?_ ?_)
      | (with_reducible refine LeO.bind ?_ (fun _ => ?_))
      | exact ih0 _ _ _
      | exact rotaref25_Check.mono _ _
      | exact rotaref25_Line.mono _ _ _ _ _ _ _ _ _
      | exact LeO.none _
      | refine LeO.ite ?_ ?_
      | refine LeO.bind ?_ (fun _ => ?_)
theorem rotaref25_Print.mono : ∀ a0 k, LeO (rotaref25_Print.f k a0) (rotaref25_Print.f (k + 1) a0) := by
  intro a0 k
  have ih0 := rotaref25_Print.mono_l k
  unfold rotaref25_Print.f
  repeat' first
      | (with_reducible exact ih0 _ _ _)
      | (with_reducible exact rotaref25_Check.mono _ _)
      | (with_reducible exact rotaref25_Line.mono _ _ _ _ _ _ _ _ _)
      | (with_reducible exact LeO.refl _)
      | (with_reducible exact LeO.none _)
      | (with_reducible refine LeO.ite ?_ ?_)
      | (with_reducible refine LeO.bind ?_ (fun _ => ?_))
      | exact ih0 _ _ _
      | exact rotaref25_Check.mono _ _
      | exact rotaref25_Line.mono _ _ _ _ _ _ _ _ _
      | exact LeO.none _
      | refine LeO.ite ?_ ?_
      | refine LeO.bind ?_ (fun _ => ?_)
set_option maxHeartbeats 8000000 in
set_option maxRecDepth 100000 in
theorem rotaref25_Print.calls (k : Nat) (A0 : Option Addr) (c0 : Nat) (l0 : List (S36)) (r1 : ByteArray) (r2 : Int) (w : World) (hr0 : Kd.C k36 w A0 l0.length l0) (hc0 : l0.length ≤ c0) (h : rotaref25_Print.f k l0 = some (r1, r2)) :
    Calls Tryd.prog 27 #[.slice A0 l0.length c0] w fun e w' => e = .returned (.tuple #[.string r1, .int .i64 r2]) ∧ Below w.heap.size w w' := by
  have hu36 := Tryd.underlying36
  have HR0 := Aside0.mk hr0
  have HC0 := Aside0.mk hc0
  clear hr0 hc0
  have HB := Aside0.mk (Below.refl w.heap.size w)
  have H : ((rotaref25_Check.f k l0).bind fun bt310 => (if bt310.2 = 0 then (rotaref25_Print.l0 k l0 (([] : List Int)) 0) else (some ((⟨#[]⟩ : ByteArray), bt310.2)))) = some (r1, r2) := h
  clear h
  replace H := Option.bind_eq_some_iff.mp H
  obtain ⟨⟨t310, t311⟩, A20, H⟩ := H
  replace H : (if t311 = 0 then (rotaref25_Print.l0 k l0 (([] : List Int)) 0) else (some ((⟨#[]⟩ : ByteArray), t311))) = some (r1, r2) := H
  have A2 := Aside0.mk A20
  clear A20
  by_cases c3 : t311 = 0
  · rw [if_pos c3] at H
    have c3b0 : (t311 == 0) = true := beq_iff_eq.mpr c3
    have c3b1 : (t311 != 0) = false := bne_eq_false_iff_eq.mpr c3
    clear c3
    obtain ⟨y312, hy312⟩ : ∃ y_ : List Int, y_ = (([] : List Int)) := ⟨_, rfl⟩
    replace H : (rotaref25_Print.l0 k l0 y312 0) = some (r1, r2) := by first | (rw [hy312]; with_reducible exact H) | (have H2_ := (Option.bind_some _ _).symm.trans H; rw [hy312]; with_reducible exact H2_) | (have H2_ := (Option.bind_some _ _).symm.trans H; with_reducible exact H2_) | with_reducible exact H | (rw [hy312]; exact H) | exact H
    have Ny312 := Aside0.mk hy312
    clear hy312
    have H' := Aside0.mk H
    clear H
    go_enter Tryd.func27, Tryd.ntmps27
    go_wp2_with (first | ((with_reducible refine gate_callee (f := 16) rfl ?_); refine goesL_ (some 10) rfl rfl Tryd.func16 (by kernel_rfl) rfl #[.slice A0 l0.length c0] rfl (by (try simp only [List.map_toArray, List.map_cons, List.map_nil]); first | done | rfl | (simp only [List.length_drop, List.length_take]; rfl)) ?_; (with_reducible refine (rotaref25_Check.calls k _ _ l0 t310 t311 _ ?side1 ?side2 A2.out).mono ?_); (case side1 => repeat (first | exact HR0.out | (with_reducible refine Kd.C_alloc ?_ _) | (with_reducible refine Kd.C_drewN ?_ _) | (with_reducible refine Kd.C_drew ?_))); (case side2 => exact HC0.out); rintro e w4 ⟨rfl, hb⟩; refine ⟨_, rfl, ?_⟩; have n0_ := Aside0.mk (below_step (by repeat (first | (with_reducible first | exact HB.out | apply below_alloc | apply pw_below_drewN | apply below_drew1) | exact HB.out)) hb); clear HB; have HB := n0_; clear n0_; (try clear hb); (try clear hb2); (try clear hk); (try clear hi)) | ((with_reducible refine gate_dst (N := 16) rfl ?_); refine Kd.R_lit (Kd.int .u8) _ 5 ?hg (N := 16) ?hd (xs := ([] : List Int)) (inner := []) (ok := fun _ => True) (okp := fun _ => True) ?hr ?hp (fun _ hk => hk) trivial (Below.refl _ _) (Nat.le_refl _) (by simp) ?_; (case hd => rfl); (case hg => rfl); (case hr => first | (go_simp; done) | (go_simp; rfl)); (case hp => exact (Reps.none _ _)); intro v313 w5 ho6 hb hg_ hnew_; clear hg_ hnew_; (first | rw [← Ny312.out] at ho6 | (simp only [Int.reduceToNat] at ho6; rw [← Ny312.out] at ho6)); have n0_ := Aside0.mk (Kd.R_lower ho6 (below_size (by repeat (first | (with_reducible first | exact HB.out | apply below_alloc | apply pw_below_drewN | apply below_drew1) | exact HB.out)))); have n1_ := Aside0.mk (below_step (by repeat (first | (with_reducible first | exact HB.out | apply below_alloc | apply pw_below_drewN | apply below_drew1) | exact HB.out)) hb); clear HB; have HO314 := n0_; have HB := n1_; clear n0_ n1_; clear hb ho6))
    go_loopg [6, 7] k (fun kq v6 v7 w' => ∃ (x6_1 : List Int) (x7_1 : Int), v7 = .int .i64 x7_1 ∧ Aside0 (rotaref25_Print.l0 kq l0 x6_1 x7_1 = some (r1, r2)) ∧ Aside0 (kq ≤ k) ∧ Aside0 (Kd.R (Kd.int .u8) 5 w' w.heap.size (fun _ => True) v6 x6_1) ∧ Aside0 (Below w.heap.size w w'))
    case atStart => exact ⟨(y312), (0), (by first | rfl | (simp; done) | (simp [*]; done)), H', ⟨Nat.le_refl _⟩, ⟨by (with_reducible repeat (first | apply Kd.R_alloc | apply Kd.R_drewN | apply Kd.R_drew)); exact HO314.out⟩, ⟨by repeat (first | (with_reducible first | exact HB.out | apply below_alloc | apply pw_below_drewN | apply below_drew1) | exact HB.out)⟩⟩
    case round =>
      clear H'
      try clear c1
      try clear c2
      try clear p2
      try clear c3
      try clear c3b0
      try clear c3b1
      obtain ⟨x6_1, x7_1, rfl, HA, HK1, HO_6, HB⟩ := hrel
      cases gk with
      | zero => exact absurd HA.out (by simp [rotaref25_Print.l0])
      | succ k1 =>
        have H := HA.out
        clear HA
        simp only [rotaref25_Print.l0] at H
        by_cases c7 : x7_1 < (l0.length : Int)
        · rw [if_pos c7] at H
          have c7b0 : decide (x7_1 < (l0.length : Int)) = true := decide_eq_true c7
          clear c7
          by_cases c8 : 0 ≤ x7_1
          · rw [if_pos c8] at H
            have c8b0 : decide (0 ≤ x7_1) = true := decide_eq_true c8
            clear c8
            replace H := Option.bind_eq_some_iff.mp H
            obtain ⟨t316, A90, H⟩ := H
            replace H : (if x6_1.length + t316.size < 140737488355328 then ((some (x6_1 ++ bytesOf t316 : List Int)).bind fun y317 => (if y317.length < 140737488355328 then (rotaref25_Print.l0 k1 l0 (y317 ++ [10]) (wrap64 (x7_1 + 1))) else (none))) else (none)) = some (r1, r2) := H
            have A9 := Aside0.mk A90
            clear A90
            by_cases c10 : x6_1.length + t316.size < 140737488355328
            · rw [if_pos c10] at H
              have LMc10 := Aside0.mk c10
              clear c10
              obtain ⟨y317, hy317⟩ : ∃ y_ : List Int, y_ = (x6_1 ++ bytesOf t316) := ⟨_, rfl⟩
              replace H : (if y317.length < 140737488355328 then (rotaref25_Print.l0 k1 l0 (y317 ++ [10]) (wrap64 (x7_1 + 1))) else (none)) = some (r1, r2) := by first | (rw [hy317]; with_reducible exact H) | (have H2_ := (Option.bind_some _ _).symm.trans H; rw [hy317]; with_reducible exact H2_) | (have H2_ := (Option.bind_some _ _).symm.trans H; with_reducible exact H2_) | with_reducible exact H | (rw [hy317]; exact H) | exact H
              have Ny317 := Aside0.mk hy317
              clear hy317
              by_cases c11 : y317.length < 140737488355328
              · rw [if_pos c11] at H
                have LMc11 := Aside0.mk c11
                clear c11
                obtain ⟨y320, hy320⟩ : ∃ y_ : List Int, y_ = (y317 ++ [10]) := ⟨_, rfl⟩
                replace H : (rotaref25_Print.l0 k1 l0 y320 (wrap64 (x7_1 + 1))) = some (r1, r2) := by first | (rw [hy320]; with_reducible exact H) | (have H2_ := (Option.bind_some _ _).symm.trans H; rw [hy320]; with_reducible exact H2_) | (have H2_ := (Option.bind_some _ _).symm.trans H; with_reducible exact H2_) | with_reducible exact H | (rw [hy320]; exact H) | exact H
                have Ny320 := Aside0.mk hy320
                clear hy320
                have H' := Aside0.mk H
                clear H
                have p315 : 0 ≤ (x7_1 : Int) := of_decide_eq_true (by first | (with_reducible assumption) | assumption)
                have q315 : x7_1 < (l0.length : Int) := of_decide_eq_true (by first | (with_reducible assumption) | assumption)
                obtain ⟨ad315, e315, hx315_0, hx315_1, hx315_2, hx315_3, hx315_4, hx315_5, hx315_6, hx315_7⟩ := at_T36 HR0.out x7_1 p315 q315
                cases e315
                replace hx315_0 := (HB.out.cell (World.block_lt_of_cell? w _ hx315_0)).trans hx315_0
                replace hx315_1 := (HB.out.cell (World.block_lt_of_cell? w _ hx315_1)).trans hx315_1
                replace hx315_2 := (HB.out.cell (World.block_lt_of_cell? w _ hx315_2)).trans hx315_2
                replace hx315_3 := (HB.out.cell (World.block_lt_of_cell? w _ hx315_3)).trans hx315_3
                replace hx315_4 := (HB.out.cell (World.block_lt_of_cell? w _ hx315_4)).trans hx315_4
                replace hx315_5 := (HB.out.cell (World.block_lt_of_cell? w _ hx315_5)).trans hx315_5
                replace hx315_6 := (HB.out.cell (World.block_lt_of_cell? w _ hx315_6)).trans hx315_6
                replace hx315_7 := (HB.out.cell (World.block_lt_of_cell? w _ hx315_7)).trans hx315_7
                replace p315 := eq_true p315
                replace q315 := eq_true q315
                go_wp2_with (first | ((with_reducible refine gate_callee (f := 41) rfl ?_); refine goesL_ (some 28) rfl rfl Tryd.func41 (by kernel_rfl) rfl #[.agg #[.int .u64 ((rd_T36 l0 x7_1).f0), .int .i64 ((rd_T36 l0 x7_1).f1), .int .i64 ((rd_T36 l0 x7_1).f2.f0), .int .i64 ((rd_T36 l0 x7_1).f2.f1), .int .i64 ((rd_T36 l0 x7_1).f3), .int .i64 ((rd_T36 l0 x7_1).f4), .int .i64 ((rd_T36 l0 x7_1).f5), .int .i64 ((rd_T36 l0 x7_1).f6)]] rfl (by (try simp only [List.map_toArray, List.map_cons, List.map_nil]); first | done | rfl | (simp only [List.length_drop, List.length_take]; rfl)) ?_; (with_reducible refine (rotaref25_Line.calls k1 ((rd_T36 l0 x7_1).f0) ((rd_T36 l0 x7_1).f1) ((rd_T36 l0 x7_1).f2.f0) ((rd_T36 l0 x7_1).f2.f1) ((rd_T36 l0 x7_1).f3) ((rd_T36 l0 x7_1).f4) ((rd_T36 l0 x7_1).f5) ((rd_T36 l0 x7_1).f6) t316 _ A9.out).mono ?_); rintro e w12 ⟨rfl, hb⟩; refine ⟨_, rfl, ?_⟩; have n0_ := Aside0.mk (Kd.R_below (by (with_reducible repeat (first | apply Kd.R_alloc | apply Kd.R_drewN | apply Kd.R_drew)); exact HO_6.out) hb); have n1_ := Aside0.mk (below_step (by repeat (first | (with_reducible first | exact HB.out | apply below_alloc | apply pw_below_drewN | apply below_drew1) | exact HB.out)) hb); clear HO_6; clear HB; have HO_6 := n0_; have HB := n1_; clear n0_ n1_; (try clear hb); (try clear hb2); (try clear hk); (try clear hi)) | (at_builtin; refine print_append_str (w0 := w) w.heap.size rfl (.tmp 23) _ 58 9 5 rfl Tryd.underlying58 Tryd.underlying9 info5 u6 x6_1 t316 rfl rfl ?aO ?aB ?aS ?aL ?_; (case aB => exact (by repeat (first | (with_reducible first | exact HB.out | apply below_alloc | apply pw_below_drewN | apply below_drew1) | exact HB.out))); (case aO => exact (Kd.own_of_R (by (with_reducible repeat (first | apply Kd.R_alloc | apply Kd.R_drewN | apply Kd.R_drew)); exact HO_6.out))); (case aS => exact (below_size (by repeat (first | (with_reducible first | exact HB.out | apply below_alloc | apply pw_below_drewN | apply below_drew1) | exact HB.out)))); (case aL => have := LMc10.out; omega); intro v318 w13 ho0 hb hg; have ho := Kd.R_of_own (h1 := fun _ => rfl) (ok := fun _ => True) ho0 (fun _ _ => trivial); clear ho0; have hat := True.intro; rw [← Ny317.out] at ho; change Kd.R (Kd.int .u8) 5 w13 w.heap.size (fun _ => True) v318 y317 at ho; have n0_ := Aside0.mk (hb); have n1_ := Aside0.mk (ho); clear HB; clear HO_6; have HB := n0_; have HO319 := n1_; clear n0_ n1_; clear ho hb hg hat) | ((with_reducible refine gate_builtin (b := .append) (xs := #[.tmp 30, .tmp 31]) rfl ?_); at_builtin; refine Kd.R_append (Kd.int .u8) (w0 := w) w.heap.size rfl (.tmp 30) (.tmp 31) 58 5 (.int .u8 0) 1 rfl Tryd.underlying58 info5 rfl (by decide) (by omega) v318 y317 10 [.int .u8 10] (fun _ => True) (fun _ => False) rfl rfl ?aP (fun _ hk => hk.elim) ?aF ?aO ?aB ?aS ?aL ?_; (case aP => exact rfl); (case aB => exact (by repeat (first | (with_reducible first | exact HB.out | apply below_alloc | apply pw_below_drewN | apply below_drew1) | exact HB.out))); (case aF => exact (fun _ _ => trivial)); (case aO => exact (by (with_reducible repeat (first | apply Kd.R_alloc | apply Kd.R_drewN | apply Kd.R_drew)); exact HO319.out)); (case aS => exact (below_size (by repeat (first | (with_reducible first | exact HB.out | apply below_alloc | apply pw_below_drewN | apply below_drew1) | exact HB.out)))); (case aL => have := LMc11.out; omega); intro v321 w14 ho hb hg hat; rw [← Ny320.out] at ho; have n0_ := Aside0.mk (hb); have n1_ := Aside0.mk (ho); clear HB; clear HO319; have HB := n0_; have HO322 := n1_; clear n0_ n1_; clear ho hb hg hat))
                go_roundg k1
                case measure => have := HK1.out; omega
                case rel => exact ⟨(y320), (wrap64 (x7_1 + 1)), (by first | rfl | (simp; done) | (simp [*]; done)), H', ⟨by have := HK1.out; omega⟩, ⟨by (with_reducible repeat (first | apply Kd.R_alloc | apply Kd.R_drewN | apply Kd.R_drew)); exact HO322.out⟩, ⟨by repeat (first | (with_reducible first | exact HB.out | apply below_alloc | apply pw_below_drewN | apply below_drew1) | exact HB.out)⟩⟩
              · rw [if_neg c11] at H
                exact absurd H (by simp)
            · rw [if_neg c10] at H
              exact absurd H (by simp)
          · rw [if_neg c8] at H
            exact absurd H (by simp)
        · rw [if_neg c7] at H
          have c7b0 : decide (x7_1 < (l0.length : Int)) = false := decide_eq_false c7
          clear c7
          simp only [Option.some.injEq, Prod.mk.injEq] at H
          obtain ⟨rfl, rfl⟩ := H
          have hcv15 := own_string (P := Tryd.prog) Tryd.underlying58 Tryd.underlying5 Tryd.underlying9 (Kd.own_of_R HO_6.out)
          go_wp2
          go_ret2
          exact ⟨by first | rfl | (simp [errW_none, errW_some] <;> rfl) | (simp [*, errW_none, errW_some] <;> rfl), by repeat (first | (with_reducible first | exact HB.out | apply below_alloc | apply pw_below_drewN | apply below_drew1) | exact HB.out)⟩
  · rw [if_neg c3] at H
    have c3b0 : (t311 == 0) = false := beq_eq_false_iff_ne.mpr c3
    have c3b1 : (t311 != 0) = true := bne_iff_ne.mpr c3
    simp only [Option.some.injEq, Prod.mk.injEq] at H
    obtain ⟨rfl, rfl⟩ := H
    go_enter Tryd.func27, Tryd.ntmps27
    go_wp2_with (first | ((with_reducible refine gate_callee (f := 16) rfl ?_); refine goesL_ (some 10) rfl rfl Tryd.func16 (by kernel_rfl) rfl #[.slice A0 l0.length c0] rfl (by (try simp only [List.map_toArray, List.map_cons, List.map_nil]); first | done | rfl | (simp only [List.length_drop, List.length_take]; rfl)) ?_; (with_reducible refine (rotaref25_Check.calls k _ _ l0 t310 t311 _ ?side1 ?side2 A2.out).mono ?_); (case side1 => repeat (first | exact HR0.out | (with_reducible refine Kd.C_alloc ?_ _) | (with_reducible refine Kd.C_drewN ?_ _) | (with_reducible refine Kd.C_drew ?_))); (case side2 => exact HC0.out); rintro e w16 ⟨rfl, hb⟩; refine ⟨_, rfl, ?_⟩; have n0_ := Aside0.mk (below_step (by repeat (first | (with_reducible first | exact HB.out | apply below_alloc | apply pw_below_drewN | apply below_drew1) | exact HB.out)) hb); clear HB; have HB := n0_; clear n0_; (try clear hb); (try clear hb2); (try clear hk); (try clear hi)))
    go_ret2
    exact ⟨by first | rfl | (simp [errW_none, errW_some] <;> rfl) | (simp [*, errW_none, errW_some] <;> rfl), by repeat (first | (with_reducible first | exact HB.out | apply below_alloc | apply pw_below_drewN | apply below_drew1) | exact HB.out)⟩

end Go.Proofs.YtphbepddhhdhmaaDoor.GA
end

section
/-
  TracePrints in plain Lean: what may be is a line each, on both sides.
-/
set_option linter.unusedVariables false
set_option linter.unusedSimpArgs false
namespace Go.Proofs.YtphbepddhhdhmaaDoor.Q
open Go.RowKit Go.Proofs.YtphbepddhhdhmaaDoorW.PrintWords Go.Proofs.YtphbepddhhdhmaaDoorW.PrintLast Go.Proofs.YtphbepddhhdhmaaDoorW.PrintMore Go.Proofs.YtphbepddhhdhmaaDoor.GA Hof
/-- What an event's fields are at all. -/
def EvIn (x : S36) : Prop := (0 ≤ x.f0 ∧ x.f0 < 18446744073709551616) ∧ I64 x.f1 ∧ I64 x.f2.f0 ∧ I64 x.f2.f1 ∧ I64 x.f3 ∧ I64 x.f4 ∧ I64 x.f5 ∧ I64 x.f6
theorem EvIn.ok {x : S36} (h : EvIn x) (k : 1 ≤ x.f3 ∧ x.f3 ≤ 36) : EvOk x := ⟨h.1, h.2.1, h.2.2.1, h.2.2.2.1, k, h.2.2.2.2.2.1, h.2.2.2.2.2.2.1, h.2.2.2.2.2.2.2⟩
theorem may_kind {a b c d e f g h : Int} {t : Bool} (hm : trace_may.f a b c d e f g h = some t) (ht : t = true) : 1 ≤ e ∧ e ≤ 36 := by
  subst ht
  unfold trace_may.f at hm
  by_cases c1 : e < 1
  · rw [if_pos c1] at hm; exact absurd hm (by simp)
  · by_cases c2 : e > 36
    · rw [if_neg c1, if_pos c2] at hm; exact absurd hm (by simp)
    · omega
theorem check_kinds (xs : List S36) (hl : xs.length < 2 ^ 62) : ∀ (k i : Nat) (r1 : Int), trace_Check.l0 k xs xs (xs.length : Int) (i : Int) = some (r1, 0) → ∀ j, i ≤ j → (hj : j < xs.length) → 1 ≤ xs[j].f3 ∧ xs[j].f3 ≤ 36
  | 0, i, r1, h, _, _, _ => absurd h (by simp [trace_Check.l0])
  | k + 1, i, r1, h, j, hij, hj => by
    have hA : (i : Int) < (xs.length : Int) := by omega
    have hB : 0 ≤ (i : Int) := by omega
    have w1 : wrap64 ((i : Int) + 1) = ((i + 1 : Nat) : Int) := by
      rw [Int.natCast_add]
      exact IntWalk.wrap64_in _ (by omega)
    simp only [trace_Check.l0, if_pos hA, if_pos hB, rd36 xs i (by omega), w1] at h
    obtain ⟨t, ht, h⟩ := Option.bind_eq_some_iff.1 h
    by_cases h3 : t = true
    case neg => rw [if_neg h3] at h; exact absurd h (by simp)
    rw [if_pos h3] at h
    have hrec : trace_Check.l0 k xs xs (xs.length : Int) ((i + 1 : Nat) : Int) = some (r1, 0) := by
      by_cases h4 : (i : Int) > 0
      case neg => rw [if_neg h4] at h; exact h
      have w2 : wrap64 ((i : Int) - 1) = (i : Int) - 1 := IntWalk.wrap64_in _ (by omega)
      rw [if_pos h4, w2, if_pos (by omega), if_pos (by omega)] at h
      by_cases h5 : xs[i].f0 < (rd_T36 xs ((i : Int) - 1)).f0
      · rw [if_pos h5] at h; exact absurd h (by simp)
      · rw [if_neg h5] at h; exact h
    by_cases he : i = j
    · subst he; exact may_kind ht h3
    · exact check_kinds xs hl k (i + 1) r1 hrec j (by omega) hj
theorem name25 (e : Int) (h : 1 ≤ e ∧ e ≤ 36) : rotaref25_Name.f e = some (Laid.nameAt (e - 1).toNat, 0) := by
  obtain ⟨s, c, n1, n2⟩ := name_eq e (by omega) (by omega)
  unfold trace_Name.f at n1
  rw [if_pos h] at n1
  rw [n2, ← n1]
theorem sp : (⟨#[32]⟩ : ByteArray) = sB [32] := rfl
theorem line25 (k : Nat) (hk : 20 ≤ k) (x : S36) (hx : EvOk x) : rotaref25_Line.f k x.f0 x.f1 x.f2.f0 x.f2.f1 x.f3 x.f4 x.f5 x.f6 = some (sB (lineE x)) := by
  have hle := lineE_len x hx
  obtain ⟨⟨h0, h1⟩, h2, h3, h4, h5, h7, h8, h9⟩ := hx
  have hp : 10 ^ 20 ≤ 10 ^ k := Nat.pow_le_pow_right (by omega) hk
  have e0 : rotaref25_number.f k x.f0 = some (sB (Lib.decDigits x.f0.toNat)) := by
    have := number_is k x.f0.toNat (by omega) (by omega) (by omega)
    rwa [Int.toNat_of_nonneg h0] at this
  have nm : Laid.nameAt (x.f3 - 1).toNat = sB (Laid.nameAt (x.f3 - 1).toNat).data.toList := by simp [sB]
  have e1 := Number_is k hk x.f1 (by have := h2; unfold I64 at this; omega) (by have := h2; unfold I64 at this; omega)
  have e2 := Number_is k hk x.f2.f0 (by have := h3; unfold I64 at this; omega) (by have := h3; unfold I64 at this; omega)
  have e3 := Number_is k hk x.f2.f1 (by have := h4; unfold I64 at this; omega) (by have := h4; unfold I64 at this; omega)
  have e5 := Number_is k hk x.f4 (by have := h7; unfold I64 at this; omega) (by have := h7; unfold I64 at this; omega)
  have e6 := Number_is k hk x.f5 (by have := h8; unfold I64 at this; omega) (by have := h8; unfold I64 at this; omega)
  have e7 := Number_is k hk x.f6 (by have := h9; unfold I64 at this; omega) (by have := h9; unfold I64 at this; omega)
  have hn := name25 x.f3 h5
  rw [nm] at hn
  unfold lineE lineOf numsB at hle
  simp only [List.length_append, List.flatMap_cons, List.flatMap_nil, List.length_cons, List.length_nil] at hle
  unfold rotaref25_Line.f
  simp only [hn, e0, e1, e2, e3, e5, e6, e7, Option.bind_some, sp, sB_app, sB_size, List.length_append, List.length_cons, List.length_nil]
  repeat rw [if_pos (by omega)]
  congr 2
  unfold lineE lineOf numsB
  simp [List.append_assoc]
theorem prints25 (xs : List S36) (hl : xs.length ≤ 1048576) (hx : ∀ x ∈ xs, EvOk x) : ∀ (d k i : Nat), i + d = xs.length → d + 20 < k → rotaref25_Print.l0 k xs (bI (textE (xs.take i))) (i : Int) = some (sB (textE xs), 0) := by
  intro d
  induction d with
  | zero =>
    intro k i h1 h2
    obtain ⟨k, rfl⟩ : ∃ j, k = j + 1 := ⟨k - 1, by omega⟩
    rw [rotaref25_Print.l0, if_neg (by omega), List.take_of_length_le (by omega), bI_str]
  | succ d ih =>
    intro k i h1 h2
    obtain ⟨k, rfl⟩ : ∃ j, k = j + 1 := ⟨k - 1, by omega⟩
    have hi : i < xs.length := by omega
    have w1 : wrap64 ((i : Int) + 1) = ((i + 1 : Nat) : Int) := by
      rw [Int.natCast_add]
      exact IntWalk.wrap64_in _ (by omega)
    have hev : EvOk (rd_T36 xs (i : Int)) := by rw [rd36 xs i hi]; exact hx _ (List.getElem_mem _)
    have l1 := textE_len (xs.take i) (fun y hy => hx y (List.mem_of_mem_take hy))
    have l2 : (xs.take i).length ≤ xs.length := List.length_take_le' _ _
    have l3 := lineE_len _ hev
    have hb : bytesOf (sB (lineE (rd_T36 xs (i : Int)))) = bI (lineE (rd_T36 xs (i : Int))) := rfl
    rw [rotaref25_Print.l0, if_pos (by omega), if_pos (by omega), line25 k (by omega) _ hev, Option.bind_some, sB_size, bI_len, if_pos (by omega), Option.bind_some, hb, ← bI_app, bI_len, List.length_append, if_pos (by omega), w1]
    have e : bI (textE (xs.take i) ++ lineE (rd_T36 xs (i : Int))) ++ [10] = bI (textE (xs.take (i + 1))) := by
      rw [textE_snoc xs i hi, bI_app (textE (xs.take i) ++ lineE (rd_T36 xs (i : Int))) [10]]; rfl
    rw [e]
    exact ih k (i + 1) (by omega) (by omega)
/-- Both sides, told. -/
theorem prints (xs : List S36) (hl : xs.length ≤ 1048576) (hx : ∀ x ∈ xs, EvIn x) : ∃ k r1 r2, rotalaw25_twin.f k xs = some xs ∧ trace_Check.f k xs = some (r1, r2) ∧ (r2 = 0 → ∀ x ∈ xs, EvOk x) ∧ rotaref25_Print.f k xs = some (if r2 = 0 then sB (textE xs) else ⟨#[]⟩, r2) := by
  obtain ⟨⟨r1, r2⟩, c1, c2⟩ := check_some xs (by omega) xs.length (xs.length + 40) 0 (by omega) (by omega)
  have t := twin_is xs (by omega) xs.length (xs.length + 40) 0 (by omega) (by omega)
  have hg : r2 = 0 → ∀ x ∈ xs, EvOk x := fun h x hm => by
    subst h
    obtain ⟨j, hj, rfl⟩ := List.getElem_of_mem hm
    exact (hx _ hm).ok (check_kinds xs (by omega) _ 0 r1 c1 j (by omega) hj)
  refine ⟨xs.length + 40, r1, r2, t, c1, hg, ?_⟩
  unfold rotaref25_Print.f rotaref25_Check.f
  have c2' : rotaref25_Check.l0 (xs.length + 40) xs 0 = some (r1, r2) := c2
  rw [c2', Option.bind_some]
  by_cases h : r2 = 0
  · rw [if_pos h, if_pos h, h]
    exact prints25 xs hl (hg h) xs.length (xs.length + 40) 0 (by omega) (by omega)
  · rw [if_neg h, if_neg h]
end Go.Proofs.YtphbepddhhdhmaaDoor.Q
end

section
-- laid by a program of this session (wip/gp.sh)
namespace Go.Proofs.YtphbepddhhdhmaaDoor.GA
open Go.RowKit Go.Proofs.YtphbepddhhdhmaaDoorW.PrintWords Go.Proofs.YtphbepddhhdhmaaDoorW.PrintLast Go.Proofs.YtphbepddhhdhmaaDoorW.PrintMore
attribute [local go_sem] max2_int min2_int max_two min_two max_three min_three max_four min_four   -- for this text's walks alone
set_option linter.unusedVariables false
set_option linter.unusedSimpArgs false

/-! ### rotalaw25_long: function 25 -/
def rotalaw25_long.f (l0 : List (S36)) : Option (Bool) := some (decide ((l0.length : Int) > 1048576))
set_option maxHeartbeats 8000000 in
set_option maxRecDepth 100000 in
theorem rotalaw25_long.calls (A0 : Option Addr) (c0 : Nat) (l0 : List (S36)) (r : Bool) (w : World) (hr0 : Kd.C k36 w A0 l0.length l0) (hc0 : l0.length ≤ c0) (h : rotalaw25_long.f l0 = some r) :
    Calls Tryd.prog 25 #[.slice A0 l0.length c0] w fun e w' => e = .returned (.bool r) ∧ Drawn0 w w' := by
  have HR0 := Aside0.mk hr0
  have HC0 := Aside0.mk hc0
  clear hr0 hc0
  have H : (some (decide ((l0.length : Int) > 1048576))) = some r := h
  clear h
  obtain rfl := Option.some.inj H
  go_enter Tryd.func25, Tryd.ntmps25
  go_wp2
  go_ret
  exact ⟨by first | rfl | (simp; done) | (simp [*]; done), by repeat (first | exact Drawn0.refl _ | apply Drawn0.step)⟩

end Go.Proofs.YtphbepddhhdhmaaDoor.GA
end

section
/-
  TracePrints, walked: trace.Print and the frozen Print tell one text.
-/
set_option linter.unusedVariables false
set_option linter.unusedSimpArgs false
namespace Go.Proofs.YtphbepddhhdhmaaDoor.Hof
open Go.RowKit Go.Shelf Go.Proofs.YtphbepddhhdhmaaDoorW.PrintWords Go.Proofs.YtphbepddhhdhmaaDoorW.PrintLast Go.Proofs.YtphbepddhhdhmaaDoorW.PrintMore GA Hctx Hof

theorem below_drawn0 {w w' : World} (h : Drawn0 w w') : Below w.heap.size w w' := h.below
theorem tab_step {w W : World} (h : TabB w.heap.size w) (hb : Below w.heap.size w W) : TabB W.heap.size W := fun w' hb' => h w' (below_step hb hb')
set_option maxHeartbeats 4000000 in
set_option maxRecDepth 100000 in
theorem law7_calls (A : Option Addr) (c : Nat) (l : List S36) (w : World) (hl : Kd.C k36 w A l.length l) (kl : l.length ≤ c) (hx : ∀ x ∈ l, Q.EvIn x) (hB0 : 0 < w.heap.size) (htab : TabB w.heap.size w) (hLN : Laid.LaidNames w) :
    Calls Tryd.prog 7 #[.slice A l.length c] w fun e w' => e = .returned (.bool true) ∧ Below w.heap.size w w' := by
  have hu36 := Tryd.underlying36
  have HL := Aside0.mk hl
  have HTB := Lib.hid htab
  have HLN := Lib.hid hLN
  have HX := Lib.hid hx
  clear hl htab hLN hx
  by_cases bL : l.length > 1048576
  · have hLg : rotalaw25_long.f l = some true := by unfold rotalaw25_long.f; rw [decide_eq_true (by omega)]
    obtain ⟨k, r1, r2, tw, ck, hg, p25⟩ := Q.prints ([] : List S36) (by first | omega | simp) (fun x h => by simp at h)
    obtain ⟨sT, hsT⟩ : ∃ s : ByteArray, s = (if r2 = 0 then ⟨(textE ([] : List S36)).toArray⟩ else ⟨#[]⟩) := ⟨_, rfl⟩
    have p25' : rotaref25_Print.f k ([] : List S36) = some (sT, r2) := by rw [hsT]; exact p25
    have TW := Lib.hid tw
    have P25 := Lib.hid p25'
    have CP := Lib.hid (fun (A : Option Addr) (c : Nat) (W : World) (h1 : Kd.C k36 W A ([] : List S36).length ([] : List S36)) (h2 : ([] : List S36).length ≤ c) (h3 : 0 < W.heap.size) (h4 : TabB W.heap.size W) (h5 : Laid.LaidNames W) => show Calls Tryd.prog 26 #[.slice A ([] : List S36).length c] W (fun e w' => e = .returned (.tuple #[.string sT, .int .i64 r2]) ∧ Below W.heap.size W w') by rw [hsT]; exact print_calls k A c ([] : List S36) r1 r2 W h1 h2 (by first | omega | simp) h3 h4 h5 ck hg)
    clear tw ck hg p25 p25' hsT
    go_enter Tryd.func7, Tryd.ntmps7
    go_wp2_with fail
    refine (rotalaw25_long.calls A c l _ _ HL.out kl hLg).mono ?_
    rintro e w1 ⟨rfl, hd⟩
    have HB := Aside0.mk (below_drawn0 hd)
    clear hd
    go_wp2_with fail
    refine (rotalaw25_twin.calls k none 0 ([] : List S36) ([] : List S36) _ (Kd.C_nil k36 _) (by simp) TW.out).mono ?_
    rintro e w2 ⟨v2, rfl, hR, hb⟩
    obtain ⟨A2, c2, rfl⟩ := Kd.R_slice hR
    have HB2 := Aside0.mk (below_step HB.out hb)
    have HR := Aside0.mk (Kd.R_reads' hR)
    clear hR hb HB
    go_wp2_with fail
    refine (CP.out A2 c2 _ HR.out.2.2 HR.out.2.1 (Nat.lt_of_lt_of_le hB0 HB2.out.size) (tab_step HTB.out HB2.out) (HLN.out.below HB2.out)).mono ?_
    rintro e w3 ⟨rfl, hb⟩
    have HB3 := Aside0.mk (below_step HB2.out hb)
    clear hb HB2 HR
    go_wp2_with fail
    refine (rotaref25_Print.calls k none 0 ([] : List S36) sT r2 _ (Kd.C_nil k36 _) (by simp) P25.out).mono ?_
    rintro e w4 ⟨rfl, hb⟩
    have HB4 := Aside0.mk (below_step HB3.out hb)
    clear hb HB3
    go_wp2_with fail
    refine (rotalaw25_lives.calls true _ (HLN.out.below HB4.out) Q.lives).mono ?_
    rintro e w5 ⟨rfl, hd⟩
    have HB5 := Aside0.mk (below_step HB4.out (below_drawn0 hd))
    clear hd HB4
    go_wp2_with fail
    go_ret
    exact ⟨by first | rfl | simp, HB5.out⟩
  · have hLg : rotalaw25_long.f l = some false := by unfold rotalaw25_long.f; rw [decide_eq_false (by omega)]
    obtain ⟨k, r1, r2, tw, ck, hg, p25⟩ := Q.prints l (by first | omega | simp) HX.out
    obtain ⟨sT, hsT⟩ : ∃ s : ByteArray, s = (if r2 = 0 then ⟨(textE l).toArray⟩ else ⟨#[]⟩) := ⟨_, rfl⟩
    have p25' : rotaref25_Print.f k l = some (sT, r2) := by rw [hsT]; exact p25
    have TW := Lib.hid tw
    have P25 := Lib.hid p25'
    have CP := Lib.hid (fun (A : Option Addr) (c : Nat) (W : World) (h1 : Kd.C k36 W A l.length l) (h2 : l.length ≤ c) (h3 : 0 < W.heap.size) (h4 : TabB W.heap.size W) (h5 : Laid.LaidNames W) => show Calls Tryd.prog 26 #[.slice A l.length c] W (fun e w' => e = .returned (.tuple #[.string sT, .int .i64 r2]) ∧ Below W.heap.size W w') by rw [hsT]; exact print_calls k A c l r1 r2 W h1 h2 (by first | omega | simp) h3 h4 h5 ck hg)
    clear tw ck hg p25 p25' hsT
    go_enter Tryd.func7, Tryd.ntmps7
    go_wp2_with fail
    refine (rotalaw25_long.calls A c l _ _ HL.out kl hLg).mono ?_
    rintro e w1 ⟨rfl, hd⟩
    have HB := Aside0.mk (below_drawn0 hd)
    clear hd
    go_wp2_with fail
    refine (rotalaw25_twin.calls k A c l l _ (Kd.C_below HL.out HB.out) kl TW.out).mono ?_
    rintro e w2 ⟨v2, rfl, hR, hb⟩
    obtain ⟨A2, c2, rfl⟩ := Kd.R_slice hR
    have HB2 := Aside0.mk (below_step HB.out hb)
    have HR := Aside0.mk (Kd.R_reads' hR)
    clear hR hb HB
    go_wp2_with fail
    refine (CP.out A2 c2 _ HR.out.2.2 HR.out.2.1 (Nat.lt_of_lt_of_le hB0 HB2.out.size) (tab_step HTB.out HB2.out) (HLN.out.below HB2.out)).mono ?_
    rintro e w3 ⟨rfl, hb⟩
    have HB3 := Aside0.mk (below_step HB2.out hb)
    clear hb HB2 HR
    go_wp2_with fail
    refine (rotaref25_Print.calls k A c l sT r2 _ (Kd.C_below HL.out HB3.out) kl P25.out).mono ?_
    rintro e w4 ⟨rfl, hb⟩
    have HB4 := Aside0.mk (below_step HB3.out hb)
    clear hb HB3
    go_wp2_with fail
    refine (rotalaw25_lives.calls true _ (HLN.out.below HB4.out) Q.lives).mono ?_
    rintro e w5 ⟨rfl, hd⟩
    have HB5 := Aside0.mk (below_step HB4.out (below_drawn0 hd))
    clear hd HB4
    go_wp2_with fail
    go_ret
    exact ⟨by first | rfl | simp, HB5.out⟩
end Go.Proofs.YtphbepddhhdhmaaDoor.Hof
end

section
/-
  What the arguments' types open to: events and slices of them.
-/
namespace Go.Proofs.YtphbepddhhdhmaaDoor.Kinds
open Go.Proofs.YtphbepddhhdhmaaDoorW.PrintWords Go.Proofs.YtphbepddhhdhmaaDoor.Opn Go.Proofs.YtphbepddhhdhmaaDoor.GA
theorem o3 : Opens Tryd.prog 3 (Kd.int .i64) (GInt .i64) := opens_int Tryd.underlying3 (by kernel_rfl)
theorem o2 : Opens Tryd.prog 2 (Kd.int .i64) (GInt .i64) := opens_int Tryd.underlying2 (by kernel_rfl)
theorem o34 : Opens Tryd.prog 34 (Kd.int .u64) (GInt .u64) := opens_int Tryd.underlying34 (by kernel_rfl)
def G33 (x : S33) (n : Nat) : Prop := GPair (GInt .i64) (GInt .i64) (x.f0, x.f1) n
theorem o33 : Opens Tryd.prog 33 k33 G33 :=
  opens_struct (seq_cons o3 (seq_one o3)) Tryd.underlying33 (by kernel_rfl) (by kernel_rfl) (by kernel_rfl) _ (fun a => ⟨a.1, a.2⟩) (fun _ => rfl)
def G36 (x : S36) (n : Nat) : Prop := GPair (GInt .u64) (GPair (GInt .i64) (GPair G33 (GPair (GInt .i64) (GPair (GInt .i64) (GPair (GInt .i64) (GInt .i64)))))) (x.f0, x.f1, x.f2, x.f3, x.f4, x.f5, x.f6) n
theorem o36 : Opens Tryd.prog 36 k36 G36 :=
  opens_struct (seq_cons o34 (seq_cons o3 (seq_cons o33 (seq_cons o3 (seq_cons o2 (seq_cons o2 (seq_one o2))))))) Tryd.underlying36 (by kernel_rfl) (by kernel_rfl) (by kernel_rfl) _ (fun a => ⟨a.1, a.2.1, a.2.2.1, a.2.2.2.1, a.2.2.2.2.1, a.2.2.2.2.2.1, a.2.2.2.2.2.2⟩) (fun _ => rfl)
theorem o22 : Opens Tryd.prog 22 (Kd.slice 36 k36) (GSl 64 G36) := opens_slice o36 Tryd.underlying22 (by kernel_rfl) (B := 64) (by kernel_rfl)
end Go.Proofs.YtphbepddhhdhmaaDoor.Kinds
end

section
/-
  The listed table of powers of ten.
-/
set_option linter.unusedVariables false
namespace Go.Proofs.YtphbepddhhdhmaaDoor.Laid
open Go.RowKit Go.Proofs.YtphbepddhhdhmaaDoorW.PrintWords
theorem tab_of {w : World} {laid : List (String × DataW Unit)} (h : laidMet Tryd.prog laid w) (hm : ("internal/strconv.uint64pow10", Rows.laid_internal_strconv_uint64pow10) ∈ laid) : Hof.TabB w.heap.size w := by
  obtain ⟨ps, hps, _⟩ := h
  obtain ⟨g, t, cs, fuel, p, hg, ht, hvar, hd⟩ := laidVars_mem hps hm
  have e : (Rows.laid_internal_strconv_uint64pow10 : DataW Unit) = Lib.tabData .u64 Lib.pow10Tab := by kernel_rfl
  rw [e] at hd
  obtain rfl := Option.some.inj (hg.symm.trans (show Tryd.prog.globalNamed "internal/strconv.uint64pow10" = some 2 by kernel_rfl))
  obtain rfl := Option.some.inj (ht.symm.trans (show (Tryd.prog.globals[2]?).map (·.type) = some 106 by kernel_rfl))
  have hc := Lib.cells_of_tab (show Tryd.prog.underlying 106 = some (.array 20 34) by kernel_rfl) (show Tryd.prog.underlying 34 = some (.int .u64) by kernel_rfl) (by kernel_rfl) (by kernel_rfl) hd
  refine Lib.tabBelow_of_tabIs ?_
  unfold Lib.TabIs
  rw [hvar, ← hc]
end Go.Proofs.YtphbepddhhdhmaaDoor.Laid
end

section
/-
  Print tells what the frozen one tells, on any events.
-/
set_option linter.unusedVariables false
set_option linter.unusedSimpArgs false
namespace Go.Proofs.YtphbepddhhdhmaaDoor.tracePrints
open Go.ChangeShapes Go.WideShapes Go.ChangeAt Go.RowKit Go.Proofs.YtphbepddhhdhmaaDoorW.PrintWords Go.Proofs.YtphbepddhhdhmaaDoor.Opn
open Go.ChangeMaps (open_string shut_string)
theorem own : ownKnob Tryd.prog.godebug = none := by kernel_rfl
theorem laidOut : laidOutB Tryd.prog = true := by kernel_rfl
set_option maxRecDepth 100000 in
theorem contract (H : Type) (enc : TypeId × Value → H) (W : World) (base : Nat) (args : Array Value) (ds gs : List (DataW H)) (before : List MemPlace)
    (hval0 : ∀ (j : Nat) t v, Tryd.f7.params[j]? = some t → args[j]? = some v → Value.okWide Tryd.prog W .any base t v)
    (hW : DataW.Whole enc Tryd.prog Tryd.f7.params.toList Rows.tracePrintsSpec.vars false W args.toList ds gs before)
    (hsz0 : (DataW.weightsEach Tryd.prog (Tryd.f7.params.toList ++ (OpenSpec.ofChange Rows.tracePrintsSpec).bare.plain.varTypes Tryd.prog) (ds ++ gs)).all (· ≤ reachBytes) = true)
    (hL : laidMetH Tryd.prog Rows.tracePrintsRow.laid W) :
    Calls Tryd.prog 7 args W fun e W' => ∃ v, e = .returned v ∧ Rows.tracePrintsSpec.post enc Tryd.prog Tryd.f7 false true false false W args v W' := by
  have hsz : (DataW.weightsEach Tryd.prog (Tryd.f7.params.toList ++ Rows.tracePrintsSpec.plain.varTypes Tryd.prog) (ds ++ gs)).all (· ≤ reachBytes) = true := hsz0
  have hval : ∀ (j : Nat) t v, Tryd.f7.params[j]? = some t → args[j]? = some v → Value.okWide Tryd.prog W .any base t v := hval0
  have hLN : Laid.LaidNames W := Laid.names_of hL (by unfold Rows.tracePrintsRow; repeat (first | exact List.mem_cons_self | apply List.mem_cons_of_mem))
  have htab : Hof.TabB W.heap.size W := Laid.tab_of hL (by unfold Rows.tracePrintsRow; repeat (first | exact List.mem_cons_self | apply List.mem_cons_of_mem))
  have hB0 : 0 < W.heap.size := block_lt_of_cell (hLN 0 (by omega))
  have hW' := hW
  obtain ⟨p, q, hA0, hV, rfl, hfz, hnd⟩ := hW
  have hA : DataW.TrodAll enc Tryd.prog W 0 (fun _ => true) true Tryd.f7.params.toList args.toList ds p := hA0
  rw [Tryd.params7] at hA hval hsz
  obtain ⟨v0, vs0, d0, ds0, p0, q0, hargs, rfl, rfl, h0, r0⟩ := trodAll_cons hA
  obtain ⟨rfl, rfl, rfl⟩ := trodAll_nil r0
  obtain rfl : args = #[v0] := by cases args; simp_all
  obtain ⟨rfl, rfl⟩ := trodVars_none hV
  have k0 := h0
  have lt0 : ∀ x ∈ p0, x.block < W.heap.size := by obtain ⟨m, hm⟩ := k0; exact DataW.trod_lt m _ _ _ hm
  have ws0 : ∀ n ∈ d0.weights Tryd.prog 22, n ≤ reachBytes := fun n hn => by simpa using List.all_eq_true.1 hsz n (DataW.weights_mem_each (j := 0) rfl rfl n hn)
  obtain ⟨x0, K0, G0⟩ : ∃ x, (Kd.slice 36 GA.k36).K W x v0.cells.toList ∧ GSl 64 Kinds.G36 x (Rows.uptoBulk d0) := by
    obtain ⟨fuel, hf⟩ := h0
    exact Kinds.o22.opens enc W 0 _ _ fuel _ _ hf ws0
  obtain ⟨a0, len0, cap0, rfl⟩ := okWide_slice Tryd.underlying22 (hval 0 22 v0 rfl rfl)
  obtain ⟨A0, c0, e0, hc0, hC0⟩ := K0
  simp only [Value.cells, List.cons.injEq, and_true, Value.slice.injEq] at e0
  obtain ⟨rfl, rfl, rfl⟩ := e0
  clear hA0 hval hsz
  have ev0 : ∀ x ∈ x0, Q.EvIn x := fun x hx => by
    obtain ⟨g0, g1, ⟨g2, g3⟩, g4, g5, g6, g7⟩ := G0.2.2.2 x hx
    have g0' : (Lit.int .u64 x.f0).wf = true := g0
    have g1' : (Lit.int .i64 x.f1).wf = true := g1
    have g2' : (Lit.int .i64 x.f2.f0).wf = true := g2
    have g3' : (Lit.int .i64 x.f2.f1).wf = true := g3
    have g4' : (Lit.int .i64 x.f3).wf = true := g4
    have g5' : (Lit.int .i64 x.f4).wf = true := g5
    have g6' : (Lit.int .i64 x.f5).wf = true := g6
    have g7' : (Lit.int .i64 x.f6).wf = true := g7
    clear g0 g1 g2 g3 g4 g5 g6 g7
    simp [Lit.wf, IntKind.min, IntKind.max, IntKind.signed, IntKind.bits] at g0' g1' g2' g3' g4' g5' g6' g7'
    unfold Q.EvIn Hof.I64
    omega
  refine (Hof.law7_calls _ _ x0 W hC0 hc0 ev0 hB0 htab hLN).mono fun e W' ⟨he, bel⟩ => ?_
  subst he
  exact ⟨_, rfl, _, _, _, [], _, [], hW', trodAll_mk1 (shut_bool Tryd.underlying4 _), (trodAll_cons_mk (Below.trod laidOut (by kernel_rfl) (of_decide_eq_true (by kernel_rfl)) k0 bel lt0) trodAll_mk0), rfl, bel.frame _, fun h => by cases h⟩
def lay (cs : Array Value) : Obj → Obj
  | .cells _ t frozen => .cells cs t frozen
  | o => o
noncomputable def laidWorld (os : Os) : World := { World.holding Tryd.prog os ⟨#[], #[], []⟩ with heap := (((((World.holding Tryd.prog os ⟨#[], #[], []⟩).heap.modify 0 (lay (Laid.names.map Value.string).toArray)).modify 2 (lay #[.int .u64 1, .int .u64 10, .int .u64 100, .int .u64 1000, .int .u64 10000, .int .u64 100000, .int .u64 1000000, .int .u64 10000000, .int .u64 100000000, .int .u64 1000000000, .int .u64 10000000000, .int .u64 100000000000, .int .u64 1000000000000, .int .u64 10000000000000, .int .u64 100000000000000, .int .u64 1000000000000000, .int .u64 10000000000000000, .int .u64 100000000000000000, .int .u64 1000000000000000000, .int .u64 10000000000000000000])).modify 5 (lay #[.int .u8 0, .int .u8 1, .int .u8 28, .int .u8 2, .int .u8 29, .int .u8 14, .int .u8 24, .int .u8 3, .int .u8 30, .int .u8 22, .int .u8 20, .int .u8 15, .int .u8 25, .int .u8 17, .int .u8 4, .int .u8 8, .int .u8 31, .int .u8 27, .int .u8 13, .int .u8 23, .int .u8 21, .int .u8 19, .int .u8 16, .int .u8 7, .int .u8 26, .int .u8 12, .int .u8 18, .int .u8 6, .int .u8 11, .int .u8 5, .int .u8 10, .int .u8 9])).modify 6 (lay #[.int .u8 0, .int .u8 1, .int .u8 56, .int .u8 2, .int .u8 57, .int .u8 49, .int .u8 28, .int .u8 3, .int .u8 61, .int .u8 58, .int .u8 42, .int .u8 50, .int .u8 38, .int .u8 29, .int .u8 17, .int .u8 4, .int .u8 62, .int .u8 47, .int .u8 59, .int .u8 36, .int .u8 45, .int .u8 43, .int .u8 51, .int .u8 22, .int .u8 53, .int .u8 39, .int .u8 33, .int .u8 30, .int .u8 24, .int .u8 18, .int .u8 12, .int .u8 5, .int .u8 63, .int .u8 55, .int .u8 48, .int .u8 27, .int .u8 60, .int .u8 41, .int .u8 37, .int .u8 16, .int .u8 46, .int .u8 35, .int .u8 44, .int .u8 21, .int .u8 52, .int .u8 32, .int .u8 23, .int .u8 11, .int .u8 54, .int .u8 26, .int .u8 40, .int .u8 15, .int .u8 34, .int .u8 20, .int .u8 31, .int .u8 10, .int .u8 25, .int .u8 14, .int .u8 19, .int .u8 9, .int .u8 13, .int .u8 8, .int .u8 7, .int .u8 6])) }
theorem laid_met (os : Os) : laidMet Tryd.prog Rows.tracePrintsRow.laid ((laidWorld os).forCall (fun _ _ => 0) ⟨#[], #[.slice none 0 0], []⟩).memory := laidMet_of_run' 8 (by kernel_rfl) (by kernel_rfl)
theorem reads (os : Os) {H : Type} (enc : TypeId × Value → H) : ∃ places, DataW.whole enc Tryd.prog ((laidWorld os).forCall (fun _ _ => 0) ⟨#[], #[.slice none 0 0], []⟩).memory Tryd.f7.params.toList Rows.tracePrintsSpec.vars false (#[.slice none 0 0] : Array Value).toList 8 = some ([.nil], [], places) := ⟨[], by kernel_rfl⟩
set_option maxRecDepth 100000 in
theorem lifted (os : Os) (started : os.Started) (H : Type) (enc : TypeId × Value → H) (F : Stop.Interp) :
    ReturnsInHanded {} Tryd.checked os 7 .any ((OpenSpec.ofChange Rows.tracePrintsSpec).preRow enc Tryd.prog Tryd.f7 Rows.tracePrintsRow.domain false Rows.tracePrintsRow.laid) (((OpenSpec.ofChange Rows.tracePrintsSpec).at F).post enc Tryd.prog Tryd.f7 false true false false) := by
  obtain ⟨places, hx⟩ := reads os enc
  refine returnsInHanded_of_row (C := Tryd.checked) (s := (OpenSpec.ofChange Rows.tracePrintsSpec)) own started (by kernel_rfl) Tryd.func7
    (witness_row_at (enc := enc) (C := Tryd.checked) false (laidWorld os) #[.slice none 0 0] rfl (by kernel_rfl) (by kernel_rfl) (by kernel_rfl)
      (OpenSpec.preRow_of_cond 8 hx (by kernel_rfl) (fun k hk => by cases hk) (by kernel_rfl) (laid_met os))) ?_
  intro W base args ds gs before hval hW _ _ hsz hL _ _
  exact contract H enc W base args ds gs before hval hW hsz hL
theorem said : Rows.TracePrintsSaid :=
  OpenClaim.holds_of_cond 7 Tryd.f7 rfl rfl rfl rfl rfl rfl rfl ⟨rfl, rfl, rfl, rfl, rfl⟩ rfl rfl rfl rfl rfl (by kernel_rfl) Tryd.func7 (by kernel_rfl)
    (of_decide_eq_true (by kernel_rfl)) (by unfold Func.isWrapper; first | (rw [if_pos (by decide +kernel)]; kernel_rfl) | (rw [if_neg (by decide +kernel)]; exact ⟨rfl, rfl⟩))
    (fun os started H enc _ F => by rw [OpenClaim.pre_eq_preRow]; exact lifted os started H enc F)
theorem plain (f : FuncId) (fn : Func) (hf : Tryd.pinned.checked.prog.funcNamed Rows.tracePrintsRow.func = some f) (hfn : Tryd.pinned.checked.prog.funcs[f]? = some fn) :
    true = Tryd.pinned.checked.prog.looks [] ∧ ∀ (j : Nat) t, fn.params[j]? = some t → Tryd.pinned.checked.prog.wantsStandIn t = false := by
  obtain rfl : f = 7 := Option.some.inj ((show Tryd.prog.funcNamed Rows.tracePrintsRow.func = some 7 by kernel_rfl).symm.trans hf) |>.symm
  obtain rfl : fn = Tryd.f7 := (Option.some.inj (Tryd.func7.symm.trans hfn)).symm
  refine ⟨by kernel_rfl, fun j t ht => ?_⟩
  rw [Tryd.params7] at ht
  have hm := Array.mem_of_getElem? ht
  simp at hm
  rcases hm with rfl
  · exact (show Tryd.prog.wantsStandIn 22 = false by kernel_rfl)
theorem card : Rows.TracePrintsCardSaid :=
  Claim7.holds_tied_plain_at .later [] _ _ _ _ said (fun _ h => by cases h) (by kernel_rfl) (fun _ h => by cases h) tracePrints_row_tie rfl ⟨rfl, rfl⟩ (by kernel_rfl) rfl plain (by kernel_rfl)
end Go.Proofs.YtphbepddhhdhmaaDoor.tracePrints
namespace Go.Proofs.YtphbepddhhdhmaaDoor
theorem tracePrints_holds : Rows.TracePrintsCardSaid := tracePrints.card
end Go.Proofs.YtphbepddhhdhmaaDoor
end
