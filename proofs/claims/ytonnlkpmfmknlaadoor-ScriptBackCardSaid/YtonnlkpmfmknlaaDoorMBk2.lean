import Derived.Test.YtonnlkpmfmknlaaDoorMB6
import Derived.Test.YtonnlkpmfmknlaaDoorMBk1
section
-- laid by a program of this session (wip/gp.sh)
namespace Go.Proofs.YtonnlkpmfmknlaaDoor.GA
open Go.RowKit Go.Proofs.YtonnlkpmfmknlaaDoorW.PrintWords Go.Proofs.YtonnlkpmfmknlaaDoorW.PrintLast Go.Proofs.YtonnlkpmfmknlaaDoorW.PrintMore
attribute [local go_sem] max2_int min2_int max_two min_two max_three min_three max_four min_four   -- for this text's walks alone
set_option linter.unusedVariables false
set_option linter.unusedSimpArgs false

/-! ### rotaref19_Print: function 25 -/
mutual
def rotaref19_Print.l0 : Nat → List (S32) → List Int → Int → Option (ByteArray)
  | 0, _, _, _ => none
  | k + 1, x0, x3, x4 => if x4 < (x0.length : Int) then (if 0 ≤ x4 then (if (((rd_T32 x0 x4).f0).length : Int) > 0 then ((rotaref19_decimal.f k (IntKind.u64.wrap (x4))).bind fun t345 => (if 6 + t345.size ≤ 9223372036854775807 then (if x3.length + ((⟨#[115, 116, 101, 97, 108, 32]⟩ : ByteArray) ++ t345).size < 140737488355328 then (rotaref19_Print.l1 k x0 (x3 ++ bytesOf ((⟨#[115, 116, 101, 97, 108, 32]⟩ : ByteArray) ++ t345)) x4 0) else (none)) else (none))) else (rotaref19_Print.j2 k x0 x3 x4)) else (none)) else (some (strOfNums x3))
def rotaref19_Print.j2 : Nat → List (S32) → List Int → Int → Option (ByteArray)
  | 0, _, _, _ => none
  | k + 1, x0, x3, x4 => if 0 ≤ x4 then (if x4 < (x0.length : Int) then (if (((rd_T32 x0 x4).f1).length : Int) > 0 then ((rotaref19_decimal.f k (IntKind.u64.wrap (x4))).bind fun t360 => (if 6 + t360.size ≤ 9223372036854775807 then (if x3.length + ((⟨#[105, 110, 112, 117, 116, 32]⟩ : ByteArray) ++ t360).size < 140737488355328 then (rotaref19_Print.l2 k x0 (x3 ++ bytesOf ((⟨#[105, 110, 112, 117, 116, 32]⟩ : ByteArray) ++ t360)) x4 0) else (none)) else (none))) else (rotaref19_Print.l0 k x0 x3 (wrap64 (x4 + 1)))) else (none)) else (none)
def rotaref19_Print.l2 : Nat → List (S32) → List Int → Int → Int → Option (ByteArray)
  | 0, _, _, _, _ => none
  | k + 1, x0, x3, x4, x6 => if 0 ≤ x4 then (if x4 < (x0.length : Int) then (if x6 < (((rd_T32 x0 x4).f1).length : Int) then (if 0 ≤ x6 then ((rotaref19_Number.f k (rd ((rd_T32 x0 x4).f1) x6)).bind fun t367 => (if 1 + t367.size ≤ 9223372036854775807 then (if x3.length + ((⟨#[32]⟩ : ByteArray) ++ t367).size < 140737488355328 then (rotaref19_Print.l2 k x0 (x3 ++ bytesOf ((⟨#[32]⟩ : ByteArray) ++ t367)) x4 (wrap64 (x6 + 1))) else (none)) else (none))) else (none)) else (if x3.length < 140737488355328 then (rotaref19_Print.l0 k x0 (x3 ++ [10]) (wrap64 (x4 + 1))) else (none))) else (none)) else (none)
def rotaref19_Print.l1 : Nat → List (S32) → List Int → Int → Int → Option (ByteArray)
  | 0, _, _, _, _ => none
  | k + 1, x0, x3, x4, x5 => if 0 ≤ x4 then (if x4 < (x0.length : Int) then (if x5 < (((rd_T32 x0 x4).f0).length : Int) then (if 0 ≤ x5 then ((rotaref19_decimal.f k (IntKind.u64.wrap (rd ((rd_T32 x0 x4).f0) x5))).bind fun t352 => (if 1 + t352.size ≤ 9223372036854775807 then (if x3.length + ((⟨#[32]⟩ : ByteArray) ++ t352).size < 140737488355328 then (rotaref19_Print.l1 k x0 (x3 ++ bytesOf ((⟨#[32]⟩ : ByteArray) ++ t352)) x4 (wrap64 (x5 + 1))) else (none)) else (none))) else (none)) else (if x3.length < 140737488355328 then (rotaref19_Print.j2 k x0 (x3 ++ [10]) x4) else (none))) else (none)) else (none)
end
def rotaref19_Print.f (k : Nat) (l0 : List (S32)) : Option (ByteArray) := rotaref19_Print.l0 k l0 (([] : List Int)) 0
theorem rotaref19_Print.mono_l : ∀ k, (∀ y0 y1 y2, LeO (rotaref19_Print.l0 k y0 y1 y2) (rotaref19_Print.l0 (k + 1) y0 y1 y2)) ∧ (∀ y0 y1 y2, LeO (rotaref19_Print.j2 k y0 y1 y2) (rotaref19_Print.j2 (k + 1) y0 y1 y2)) ∧ (∀ y0 y1 y2 y3, LeO (rotaref19_Print.l2 k y0 y1 y2 y3) (rotaref19_Print.l2 (k + 1) y0 y1 y2 y3)) ∧ (∀ y0 y1 y2 y3, LeO (rotaref19_Print.l1 k y0 y1 y2 y3) (rotaref19_Print.l1 (k + 1) y0 y1 y2 y3))
  | 0 => ⟨fun _ _ _ r h => by simp [rotaref19_Print.l0] at h, fun _ _ _ r h => by simp [rotaref19_Print.j2] at h, fun _ _ _ _ r h => by simp [rotaref19_Print.l2] at h, fun _ _ _ _ r h => by simp [rotaref19_Print.l1] at h⟩
  | k + 1 => by
    obtain ⟨ih0, ih1, ih2, ih3⟩ := rotaref19_Print.mono_l k
    refine ⟨?_, ?_, ?_, ?_⟩
    · intro y0 y1 y2
      unfold rotaref19_Print.l0
      repeat' first
      | (with_reducible exact ih0 _ _ _)
      | (with_reducible exact ih1 _ _ _)
      | (with_reducible exact ih2 _ _ _ _)
      | (with_reducible exact ih3 _ _ _ _)
      | (with_reducible exact rotaref19_Number.mono _ _)
      | (with_reducible exact rotaref19_decimal.mono _ _)
      | (with_reducible exact LeO.refl _)
      | (with_reducible exact LeO.none _)
      | (with_reducible refine LeO.ite ?_ ?_)
      | (with_reducible refine LeO.bind ?_ (fun _ => ?_))
      | exact ih0 _ _ _
      | exact ih1 _ _ _
      | exact ih2 _ _ _ _
      | exact ih3 _ _ _ _
      | exact rotaref19_Number.mono _ _
      | exact rotaref19_decimal.mono _ _
      | exact LeO.none _
      | refine LeO.ite ?_ ?_
      | refine LeO.bind ?_ (fun _ => ?_)
    · intro y0 y1 y2
      unfold rotaref19_Print.j2
      repeat' first
      | (with_reducible exact ih0 _ _ _)
      | (with_reducible exact ih1 _ _ _)
      | (with_reducible exact ih2 _ _ _ _)
      | (with_reducible exact ih3 _ _ _ _)
      | (with_reducible exact rotaref19_Number.mono _ _)
      | (with_reducible exact rotaref19_decimal.mono _ _)
      | (with_reducible exact LeO.refl _)
      | (with_reducible exact LeO.none _)
      | (with_reducible refine LeO.ite ?_ ?_)
      | (with_reducible refine LeO.bind ?_ (fun _ => ?_))
      | exact ih0 _ _ _
      | exact ih1 _ _ _
      | exact ih2 _ _ _ _
      | exact ih3 _ _ _ _
      | exact rotaref19_Number.mono _ _
      | exact rotaref19_decimal.mono _ _
      | exact LeO.none _
      | refine LeO.ite ?_ ?_
      | refine LeO.bind ?_ (fun _ => ?_)
    · intro y0 y1 y2 y3
      unfold rotaref19_Print.l2
      repeat' first
      | (with_reducible exact ih0 _ _ _)
      | (with_reducible exact ih1 _ _ _)
      | (with_reducible exact ih2 _ _ _ _)
      | (with_reducible exact ih3 _ _ _ _)
      | (with_reducible exact rotaref19_Number.mono _ _)
      | (with_reducible exact rotaref19_decimal.mono _ _)
      | (with_reducible exact LeO.refl _)
      | (with_reducible exact LeO.none _)
      | (with_reducible refine LeO.ite ?_ ?_)
      | (with_reducible refine LeO.bind ?_ (fun _ => ?_))
      | exact ih0 _ _ _
      | exact ih1 _ _ _
      | exact ih2 _ _ _ _
      | exact ih3 _ _ _ _
      | exact rotaref19_Number.mono _ _
      | exact rotaref19_decimal.mono _ _
      | exact LeO.none _
      | refine LeO.ite ?_ ?_
      | refine LeO.bind ?_ (fun _ => ?_)
    · intro y0 y1 y2 y3
      unfold rotaref19_Print.l1
      repeat' first
      | (with_reducible exact ih0 _ _ _)
      | (with_reducible exact ih1 _ _ _)
      | (with_reducible exact ih2 _ _ _ _)
      | (with_reducible exact ih3 _ _ _ _)
      | (with_reducible exact rotaref19_Number.mono _ _)
      | (with_reducible exact rotaref19_decimal.mono _ _)
      | (with_reducible exact LeO.refl _)
      | (with_reducible exact LeO.none _)
      | (with_reducible refine LeO.ite ?_ ?_)
      | (with_reducible refine LeO.bind ?_ (fun _ => ?_))
      | exact ih0 _ _ _
      | exact ih1 _ _ _
      | exact ih2 _ _ _ _
      | exact ih3 _ _ _ _
      | exact rotaref19_Number.mono _ _
      | exact rotaref19_decimal.mono _ _
      | exact LeO.none _
      | refine LeO.ite ?_ ?_
      | refine LeO.bind ?_ (fun _ => ?_)
theorem rotaref19_Print.mono : ∀ a0 k, LeO (rotaref19_Print.f k a0) (rotaref19_Print.f (k + 1) a0) := by
  intro a0 k
  obtain ⟨ih0, ih1, ih2, ih3⟩ := rotaref19_Print.mono_l k
  unfold rotaref19_Print.f
  repeat' first
      | (with_reducible exact ih0 _ _ _)
      | (with_reducible exact ih1 _ _ _)
      | (with_reducible exact ih2 _ _ _ _)
      | (with_reducible exact ih3 _ _ _ _)
      | (with_reducible exact rotaref19_Number.mono _ _)
      | (with_reducible exact rotaref19_decimal.mono _ _)
      | (with_reducible exact LeO.refl _)
      | (with_reducible exact LeO.none _)
      | (with_reducible refine LeO.ite ?_ ?_)
      | (with_reducible refine LeO.bind ?_ (fun _ => ?_))
      | exact ih0 _ _ _
      | exact ih1 _ _ _
      | exact ih2 _ _ _ _
      | exact ih3 _ _ _ _
      | exact rotaref19_Number.mono _ _
      | exact rotaref19_decimal.mono _ _
      | exact LeO.none _
      | refine LeO.ite ?_ ?_
      | refine LeO.bind ?_ (fun _ => ?_)
set_option maxHeartbeats 8000000 in
set_option maxRecDepth 100000 in
theorem rotaref19_Print.calls (k : Nat) (A0 : Option Addr) (c0 : Nat) (l0 : List (S32)) (r : ByteArray) (w : World) (hr0 : Kd.C k32 w A0 l0.length l0) (hc0 : l0.length ≤ c0) (h : rotaref19_Print.f k l0 = some r) :
    Calls Tryd.prog 25 #[.slice A0 l0.length c0] w fun e w' => e = .returned (.string r) ∧ Below w.heap.size w w' := by
  have HR0 := Aside0.mk hr0
  have HC0 := Aside0.mk hc0
  clear hr0 hc0
  have HB := Aside0.mk (Below.refl w.heap.size w)
  have H : (rotaref19_Print.l0 k l0 (([] : List Int)) 0) = some r := h
  clear h
  obtain ⟨y341, hy341⟩ : ∃ y_ : List Int, y_ = (([] : List Int)) := ⟨_, rfl⟩
  replace H : (rotaref19_Print.l0 k l0 y341 0) = some r := by first | (rw [hy341]; with_reducible exact H) | (have H2_ := (Option.bind_some _ _).symm.trans H; rw [hy341]; with_reducible exact H2_) | (have H2_ := (Option.bind_some _ _).symm.trans H; with_reducible exact H2_) | with_reducible exact H | (rw [hy341]; exact H) | exact H
  have Ny341 := Aside0.mk hy341
  clear hy341
  have H' := Aside0.mk H
  clear H
  go_enter Tryd.func25, Tryd.ntmps25
  go_wp2_with (first | ((with_reducible refine gate_dst (N := 7) rfl ?_); refine Kd.R_lit (Kd.int .u8) _ 5 ?hg (N := 7) ?hd (xs := ([] : List Int)) (inner := []) (ok := fun _ => True) (okp := fun _ => True) ?hr ?hp (fun _ hk => hk) trivial (Below.refl _ _) (Nat.le_refl _) (by simp) ?_; (case hd => rfl); (case hg => rfl); (case hr => first | (go_simp; done) | (go_simp; rfl)); (case hp => exact (Reps.none _ _)); intro v342 w2 ho3 hb hg_ hnew_; clear hg_ hnew_; (first | rw [← Ny341.out] at ho3 | (simp only [Int.reduceToNat] at ho3; rw [← Ny341.out] at ho3)); have n0_ := Aside0.mk (Kd.R_lower ho3 (below_size (by repeat (first | (with_reducible first | exact HB.out | apply below_alloc | apply pw_below_drewN | apply below_drew1) | exact HB.out)))); have n1_ := Aside0.mk (below_step (by repeat (first | (with_reducible first | exact HB.out | apply below_alloc | apply pw_below_drewN | apply below_drew1) | exact HB.out)) hb); clear HB; have HO343 := n0_; have HB := n1_; clear n0_ n1_; clear hb ho3))
  go_loopg [3, 4] k (fun kq v3 v4 w' => ∃ (x3_1 : List Int) (x4_1 : Int), v4 = .int .i64 x4_1 ∧ Aside0 (rotaref19_Print.l0 kq l0 x3_1 x4_1 = some r) ∧ Aside0 (kq ≤ k) ∧ Aside0 (Kd.R (Kd.int .u8) 5 w' w.heap.size (fun _ => True) v3 x3_1) ∧ Aside0 (Below w.heap.size w w'))
  case atStart => exact ⟨(y341), (0), (by first | rfl | (simp; done) | (simp [*]; done)), H', ⟨Nat.le_refl _⟩, ⟨by (with_reducible repeat (first | apply Kd.R_alloc | apply Kd.R_drewN | apply Kd.R_drew)); exact HO343.out⟩, ⟨by repeat (first | (with_reducible first | exact HB.out | apply below_alloc | apply pw_below_drewN | apply below_drew1) | exact HB.out)⟩⟩
  case round =>
    clear H'
    try clear c2
    try clear p2
    obtain ⟨x3_1, x4_1, rfl, HA, HK1, HO_3, HB⟩ := hrel
    cases gk with
    | zero => exact absurd HA.out (by simp [rotaref19_Print.l0])
    | succ k1 =>
      have H := HA.out
      clear HA
      simp only [rotaref19_Print.l0] at H
      by_cases c4 : x4_1 < (l0.length : Int)
      · rw [if_pos c4] at H
        have c4b0 : decide (x4_1 < (l0.length : Int)) = true := decide_eq_true c4
        clear c4
        by_cases c5 : 0 ≤ x4_1
        · rw [if_pos c5] at H
          have c5b0 : decide (0 ≤ x4_1) = true := decide_eq_true c5
          clear c5
          have HC6 := Aside0.mk H
          clear H
          have p344 : 0 ≤ (x4_1 : Int) := of_decide_eq_true (by first | (with_reducible assumption) | assumption)
          have q344 : x4_1 < (l0.length : Int) := of_decide_eq_true (by first | (with_reducible assumption) | assumption)
          obtain ⟨ad344, A344_0, c344_0, A344_1, c344_1, e344, hx344_0, hx344_1, hl344_0, hi344_0, hl344_1, hi344_1⟩ := at_T32 HR0.out x4_1 p344 q344
          cases e344
          replace hx344_0 := (HB.out.cell (World.block_lt_of_cell? w _ hx344_0)).trans hx344_0
          replace hx344_1 := (HB.out.cell (World.block_lt_of_cell? w _ hx344_1)).trans hx344_1
          have HR344_0 := Aside0.mk hi344_0
          have HC344_0 := Aside0.mk hl344_0
          clear hi344_0 hl344_0
          have HR344_1 := Aside0.mk hi344_1
          have HC344_1 := Aside0.mk hl344_1
          clear hi344_1 hl344_1
          replace p344 := eq_true p344
          replace q344 := eq_true q344
          go_upto_if 20 with (fail)
          go_cut [3] (fun v3 wc => ∃ (kq : Nat) (x3_5 : List Int), Aside0 (rotaref19_Print.j2 kq l0 x3_5 x4_1 = some r) ∧ Aside0 (kq ≤ k1) ∧ Aside0 (Kd.R (Kd.int .u8) 5 wc w.heap.size (fun _ => True) v3 x3_5) ∧ Aside0 (Below w.heap.size w wc))
          case first =>
            have H := HC6.out
            clear HC6
            by_cases c7 : (((rd_T32 l0 x4_1).f0).length : Int) > 0
            · rw [if_pos c7] at H
              have c7b0 : decide (0 < (((rd_T32 l0 x4_1).f0).length : Int)) = true := decide_eq_true c7
              have c7b1 : decide (0 < ((rd_T32 l0 x4_1).f0).length) = true := decide_eq_true (by omega)
              have c7b3 : 0 < ((rd_T32 l0 x4_1).f0).length := by omega
              clear c7
              (first | rw [c7b0] | (simp only [i64_w, i32_w]; rw [c7b0]) | skip)
              replace H := Option.bind_eq_some_iff.mp H
              obtain ⟨t345, A80, H⟩ := H
              replace H : (if 6 + t345.size ≤ 9223372036854775807 then (if x3_1.length + ((⟨#[115, 116, 101, 97, 108, 32]⟩ : ByteArray) ++ t345).size < 140737488355328 then (rotaref19_Print.l1 k1 l0 (x3_1 ++ bytesOf ((⟨#[115, 116, 101, 97, 108, 32]⟩ : ByteArray) ++ t345)) x4_1 0) else (none)) else (none)) = some r := H
              have A8 := Aside0.mk A80
              clear A80
              by_cases c9 : 6 + t345.size ≤ 9223372036854775807
              · rw [if_pos c9] at H
                have c9b0 := eq_true c9
                have c9b1 : decide (6 + t345.size ≤ 9223372036854775807) = true := decide_eq_true c9
                try have c9b2 : (9223372036854775807 < 6 + t345.size) = False := eq_false (Nat.not_lt.2 c9)
                by_cases c10 : x3_1.length + ((⟨#[115, 116, 101, 97, 108, 32]⟩ : ByteArray) ++ t345).size < 140737488355328
                · rw [if_pos c10] at H
                  have LMc10 := Aside0.mk c10
                  clear c10
                  obtain ⟨y346, hy346⟩ : ∃ y_ : List Int, y_ = (x3_1 ++ bytesOf ((⟨#[115, 116, 101, 97, 108, 32]⟩ : ByteArray) ++ t345)) := ⟨_, rfl⟩
                  replace H : (rotaref19_Print.l1 k1 l0 y346 x4_1 0) = some r := by first | (rw [hy346]; with_reducible exact H) | (have H2_ := (Option.bind_some _ _).symm.trans H; rw [hy346]; with_reducible exact H2_) | (have H2_ := (Option.bind_some _ _).symm.trans H; with_reducible exact H2_) | with_reducible exact H | (rw [hy346]; exact H) | exact H
                  have Ny346 := Aside0.mk hy346
                  clear hy346
                  have H' := Aside0.mk H
                  clear H
                  go_wp2_with (first | ((with_reducible refine gate_callee (f := 45) rfl ?_); refine goesL_ (some 24) rfl rfl Tryd.func45 (by kernel_rfl) rfl #[.int .u64 (IntKind.u64.wrap (x4_1))] rfl (by (try simp only [List.map_toArray, List.map_cons, List.map_nil]); first | done | rfl | (simp only [List.length_drop, List.length_take]; rfl)) ?_; (with_reducible refine (rotaref19_decimal.calls k1 (IntKind.u64.wrap (x4_1)) t345 _ A8.out).mono ?_); rintro e w11 ⟨rfl, hb⟩; refine ⟨_, rfl, ?_⟩; have n0_ := Aside0.mk (Kd.R_below (by (with_reducible repeat (first | apply Kd.R_alloc | apply Kd.R_drewN | apply Kd.R_drew)); exact HO_3.out) hb); have n1_ := Aside0.mk (below_step (by repeat (first | (with_reducible first | exact HB.out | apply below_alloc | apply pw_below_drewN | apply below_drew1) | exact HB.out)) hb); clear HO_3; clear HB; have HO_3 := n0_; have HB := n1_; clear n0_ n1_; (try clear hb); (try clear hb2); (try clear hk); (try clear hi)) | (at_builtin; refine print_append_str (w0 := w) w.heap.size rfl (.tmp 21) _ 67 9 5 rfl Tryd.underlying67 Tryd.underlying9 info5 u3 x3_1 ((⟨#[115, 116, 101, 97, 108, 32]⟩ : ByteArray) ++ t345) rfl rfl ?aO ?aB ?aS ?aL ?_; (case aB => exact (by repeat (first | (with_reducible first | exact HB.out | apply below_alloc | apply pw_below_drewN | apply below_drew1) | exact HB.out))); (case aO => exact (Kd.own_of_R (by (with_reducible repeat (first | apply Kd.R_alloc | apply Kd.R_drewN | apply Kd.R_drew)); exact HO_3.out))); (case aS => exact (below_size (by repeat (first | (with_reducible first | exact HB.out | apply below_alloc | apply pw_below_drewN | apply below_drew1) | exact HB.out)))); (case aL => have := LMc10.out; omega); intro v347 w12 ho0 hb hg; have ho := Kd.R_of_own (h1 := fun _ => rfl) (ok := fun _ => True) ho0 (fun _ _ => trivial); clear ho0; have hat := True.intro; rw [← Ny346.out] at ho; change Kd.R (Kd.int .u8) 5 w12 w.heap.size (fun _ => True) v347 y346 at ho; have n0_ := Aside0.mk (hb); have n1_ := Aside0.mk (ho); clear HB; clear HO_3; have HB := n0_; have HO348 := n1_; clear n0_ n1_; clear ho hb hg hat))
                  go_loopg [3, 5] k1 (fun kq v3 v5 w' => ∃ (x3_2 : List Int) (x5_2 : Int), v5 = .int .i64 x5_2 ∧ Aside0 (rotaref19_Print.l1 kq l0 x3_2 x4_1 x5_2 = some r) ∧ Aside0 (kq ≤ k1) ∧ Aside0 (Kd.R (Kd.int .u8) 5 w' w.heap.size (fun _ => True) v3 x3_2) ∧ Aside0 (Below w.heap.size w w'))
                  case atStart => exact ⟨(y346), (0), (by first | rfl | (simp; done) | (simp [*]; done)), H', ⟨Nat.le_refl _⟩, ⟨by (with_reducible repeat (first | apply Kd.R_alloc | apply Kd.R_drewN | apply Kd.R_drew)); exact HO348.out⟩, ⟨by repeat (first | (with_reducible first | exact HB.out | apply below_alloc | apply pw_below_drewN | apply below_drew1) | exact HB.out)⟩⟩
                  case round =>
                    clear H'
                    try clear c1
                    try clear c2
                    try clear p2
                    try clear c3
                    try clear p3
                    try clear q3
                    try clear hx3
                    try clear c4
                    try clear c4b0
                    try clear c5
                    try clear c5b0
                    try clear c7
                    try clear c7b0
                    try clear c7b1
                    try clear c9
                    try clear c9b0
                    try clear c9b1
                    try clear c9b2
                    try clear c10
                    try clear hx344_0
                    try clear hx344_1
                    try clear p2
                    try clear p344
                    try clear q344
                    obtain ⟨x3_2, x5_2, rfl, HA, HK2, HO_3, HB⟩ := hrel
                    cases gk with
                    | zero => exact absurd HA.out (by simp [rotaref19_Print.l1])
                    | succ k2 =>
                      have H := HA.out
                      clear HA
                      simp only [rotaref19_Print.l1] at H
                      by_cases c13 : 0 ≤ x4_1
                      · rw [if_pos c13] at H
                        have c13b0 : decide (0 ≤ x4_1) = true := decide_eq_true c13
                        clear c13
                        by_cases c14 : x4_1 < (l0.length : Int)
                        · rw [if_pos c14] at H
                          have c14b0 : decide (x4_1 < (l0.length : Int)) = true := decide_eq_true c14
                          clear c14
                          by_cases c15 : x5_2 < (((rd_T32 l0 x4_1).f0).length : Int)
                          · rw [if_pos c15] at H
                            have c15b0 : decide (x5_2 < (((rd_T32 l0 x4_1).f0).length : Int)) = true := decide_eq_true c15
                            clear c15
                            by_cases c16 : 0 ≤ x5_2
                            · rw [if_pos c16] at H
                              have c16b0 : decide (0 ≤ x5_2) = true := decide_eq_true c16
                              clear c16
                              replace H := Option.bind_eq_some_iff.mp H
                              obtain ⟨t352, A170, H⟩ := H
                              replace H : (if 1 + t352.size ≤ 9223372036854775807 then (if x3_2.length + ((⟨#[32]⟩ : ByteArray) ++ t352).size < 140737488355328 then (rotaref19_Print.l1 k2 l0 (x3_2 ++ bytesOf ((⟨#[32]⟩ : ByteArray) ++ t352)) x4_1 (wrap64 (x5_2 + 1))) else (none)) else (none)) = some r := H
                              have A17 := Aside0.mk A170
                              clear A170
                              by_cases c18 : 1 + t352.size ≤ 9223372036854775807
                              · rw [if_pos c18] at H
                                have c18b0 := eq_true c18
                                have c18b1 : decide (1 + t352.size ≤ 9223372036854775807) = true := decide_eq_true c18
                                try have c18b2 : (9223372036854775807 < 1 + t352.size) = False := eq_false (Nat.not_lt.2 c18)
                                by_cases c19 : x3_2.length + ((⟨#[32]⟩ : ByteArray) ++ t352).size < 140737488355328
                                · rw [if_pos c19] at H
                                  have LMc19 := Aside0.mk c19
                                  clear c19
                                  obtain ⟨y353, hy353⟩ : ∃ y_ : List Int, y_ = (x3_2 ++ bytesOf ((⟨#[32]⟩ : ByteArray) ++ t352)) := ⟨_, rfl⟩
                                  replace H : (rotaref19_Print.l1 k2 l0 y353 x4_1 (wrap64 (x5_2 + 1))) = some r := by first | (rw [hy353]; with_reducible exact H) | (have H2_ := (Option.bind_some _ _).symm.trans H; rw [hy353]; with_reducible exact H2_) | (have H2_ := (Option.bind_some _ _).symm.trans H; with_reducible exact H2_) | with_reducible exact H | (rw [hy353]; exact H) | exact H
                                  have Ny353 := Aside0.mk hy353
                                  clear hy353
                                  have H' := Aside0.mk H
                                  clear H
                                  have p349 : 0 ≤ (x4_1 : Int) := of_decide_eq_true (by first | (with_reducible assumption) | assumption)
                                  have q349 : x4_1 < (l0.length : Int) := of_decide_eq_true (by first | (with_reducible assumption) | assumption)
                                  obtain ⟨ad349, A349_0, c349_0, A349_1, c349_1, e349, hx349_0, hx349_1, hl349_0, hi349_0, hl349_1, hi349_1⟩ := at_T32 HR0.out x4_1 p349 q349
                                  obtain rfl : ad344 = ad349 := (by injection e349)
                                  replace hx349_0 := (HB.out.cell (World.block_lt_of_cell? w _ hx349_0)).trans hx349_0
                                  replace hx349_1 := (HB.out.cell (World.block_lt_of_cell? w _ hx349_1)).trans hx349_1
                                  have HR349_0 := Aside0.mk hi349_0
                                  have HC349_0 := Aside0.mk hl349_0
                                  clear hi349_0 hl349_0
                                  have HR349_1 := Aside0.mk hi349_1
                                  have HC349_1 := Aside0.mk hl349_1
                                  clear hi349_1 hl349_1
                                  replace p349 := eq_true p349
                                  replace q349 := eq_true q349
                                  have p350 : 0 ≤ (x4_1 : Int) := of_decide_eq_true (by first | (with_reducible assumption) | assumption)
                                  have q350 : x4_1 < (l0.length : Int) := of_decide_eq_true (by first | (with_reducible assumption) | assumption)
                                  obtain ⟨ad350, A350_0, c350_0, A350_1, c350_1, e350, hx350_0, hx350_1, hl350_0, hi350_0, hl350_1, hi350_1⟩ := at_T32 HR0.out x4_1 p350 q350
                                  obtain rfl : ad344 = ad350 := (by injection e350)
                                  replace hx350_0 := (HB.out.cell (World.block_lt_of_cell? w _ hx350_0)).trans hx350_0
                                  replace hx350_1 := (HB.out.cell (World.block_lt_of_cell? w _ hx350_1)).trans hx350_1
                                  have HR350_0 := Aside0.mk hi350_0
                                  have HC350_0 := Aside0.mk hl350_0
                                  clear hi350_0 hl350_0
                                  have HR350_1 := Aside0.mk hi350_1
                                  have HC350_1 := Aside0.mk hl350_1
                                  clear hi350_1 hl350_1
                                  replace p350 := eq_true p350
                                  replace q350 := eq_true q350
                                  have ea_ := Option.some.inj (hx349_0.symm.trans hx350_0)
                                  injection ea_ with ea_ en_ ec_
                                  subst ea_
                                  subst ec_
                                  clear en_
                                  have ea_ := Option.some.inj (hx349_1.symm.trans hx350_1)
                                  injection ea_ with ea_ en_ ec_
                                  subst ea_
                                  subst ec_
                                  clear en_
                                  have p351 : 0 ≤ (x5_2 : Int) := of_decide_eq_true (by first | (with_reducible assumption) | assumption)
                                  have q351 : x5_2 < (((rd_T32 l0 x4_1).f0).length : Int) := of_decide_eq_true (by first | (with_reducible assumption) | assumption)
                                  obtain ⟨ad351, e351, hx351_0⟩ := Kd.at_int HR350_0.out x5_2 p351 q351
                                  cases e351
                                  replace hx351_0 := (HB.out.cell (World.block_lt_of_cell? w _ hx351_0)).trans hx351_0
                                  replace p351 := eq_true p351
                                  replace q351 := eq_true q351
                                  go_wp2_with (first | ((with_reducible refine gate_callee (f := 45) rfl ?_); refine goesL_ (some 47) rfl rfl Tryd.func45 (by kernel_rfl) rfl #[.int .u64 (IntKind.u64.wrap (rd ((rd_T32 l0 x4_1).f0) x5_2))] rfl (by (try simp only [List.map_toArray, List.map_cons, List.map_nil]); first | done | rfl | (simp only [List.length_drop, List.length_take]; rfl)) ?_; (with_reducible refine (rotaref19_decimal.calls k2 (IntKind.u64.wrap (rd ((rd_T32 l0 x4_1).f0) x5_2)) t352 _ A17.out).mono ?_); rintro e w20 ⟨rfl, hb⟩; refine ⟨_, rfl, ?_⟩; have n0_ := Aside0.mk (Kd.R_below (by (with_reducible repeat (first | apply Kd.R_alloc | apply Kd.R_drewN | apply Kd.R_drew)); exact HO_3.out) hb); have n1_ := Aside0.mk (below_step (by repeat (first | (with_reducible first | exact HB.out | apply below_alloc | apply pw_below_drewN | apply below_drew1) | exact HB.out)) hb); clear HO_3; clear HB; have HO_3 := n0_; have HB := n1_; clear n0_ n1_; (try clear hb); (try clear hb2); (try clear hk); (try clear hi)) | (at_builtin; refine print_append_str (w0 := w) w.heap.size rfl (.tmp 37) _ 67 9 5 rfl Tryd.underlying67 Tryd.underlying9 info5 u3 x3_2 ((⟨#[32]⟩ : ByteArray) ++ t352) rfl rfl ?aO ?aB ?aS ?aL ?_; (case aB => exact (by repeat (first | (with_reducible first | exact HB.out | apply below_alloc | apply pw_below_drewN | apply below_drew1) | exact HB.out))); (case aO => exact (Kd.own_of_R (by (with_reducible repeat (first | apply Kd.R_alloc | apply Kd.R_drewN | apply Kd.R_drew)); exact HO_3.out))); (case aS => exact (below_size (by repeat (first | (with_reducible first | exact HB.out | apply below_alloc | apply pw_below_drewN | apply below_drew1) | exact HB.out)))); (case aL => have := LMc19.out; omega); intro v354 w21 ho0 hb hg; have ho := Kd.R_of_own (h1 := fun _ => rfl) (ok := fun _ => True) ho0 (fun _ _ => trivial); clear ho0; have hat := True.intro; rw [← Ny353.out] at ho; change Kd.R (Kd.int .u8) 5 w21 w.heap.size (fun _ => True) v354 y353 at ho; have n0_ := Aside0.mk (hb); have n1_ := Aside0.mk (ho); clear HB; clear HO_3; have HB := n0_; have HO355 := n1_; clear n0_ n1_; clear ho hb hg hat))
                                  go_roundg k2
                                  case measure => have := HK1.out; have := HK2.out; omega
                                  case rel => exact ⟨(y353), (wrap64 (x5_2 + 1)), (by first | rfl | (simp; done) | (simp [*]; done)), H', ⟨by have := HK1.out; have := HK2.out; omega⟩, ⟨by (with_reducible repeat (first | apply Kd.R_alloc | apply Kd.R_drewN | apply Kd.R_drew)); exact HO355.out⟩, ⟨by repeat (first | (with_reducible first | exact HB.out | apply below_alloc | apply pw_below_drewN | apply below_drew1) | exact HB.out)⟩⟩
                                · rw [if_neg c19] at H
                                  exact absurd H (by simp)
                              · rw [if_neg c18] at H
                                exact absurd H (by simp)
                            · rw [if_neg c16] at H
                              exact absurd H (by simp)
                          · rw [if_neg c15] at H
                            have c15b0 : decide (x5_2 < (((rd_T32 l0 x4_1).f0).length : Int)) = false := decide_eq_false c15
                            clear c15
                            by_cases c22 : x3_2.length < 140737488355328
                            · rw [if_pos c22] at H
                              have LMc22 := Aside0.mk c22
                              clear c22
                              obtain ⟨y356, hy356⟩ : ∃ y_ : List Int, y_ = (x3_2 ++ [10]) := ⟨_, rfl⟩
                              replace H : (rotaref19_Print.j2 k2 l0 y356 x4_1) = some r := by first | (rw [hy356]; with_reducible exact H) | (have H2_ := (Option.bind_some _ _).symm.trans H; rw [hy356]; with_reducible exact H2_) | (have H2_ := (Option.bind_some _ _).symm.trans H; with_reducible exact H2_) | with_reducible exact H | (rw [hy356]; exact H) | exact H
                              have Ny356 := Aside0.mk hy356
                              clear hy356
                              have H' := Aside0.mk H
                              clear H
                              have p349 : 0 ≤ (x4_1 : Int) := of_decide_eq_true (by first | (with_reducible assumption) | assumption)
                              have q349 : x4_1 < (l0.length : Int) := of_decide_eq_true (by first | (with_reducible assumption) | assumption)
                              obtain ⟨ad349, A349_0, c349_0, A349_1, c349_1, e349, hx349_0, hx349_1, hl349_0, hi349_0, hl349_1, hi349_1⟩ := at_T32 HR0.out x4_1 p349 q349
                              obtain rfl : ad344 = ad349 := (by injection e349)
                              replace hx349_0 := (HB.out.cell (World.block_lt_of_cell? w _ hx349_0)).trans hx349_0
                              replace hx349_1 := (HB.out.cell (World.block_lt_of_cell? w _ hx349_1)).trans hx349_1
                              have HR349_0 := Aside0.mk hi349_0
                              have HC349_0 := Aside0.mk hl349_0
                              clear hi349_0 hl349_0
                              have HR349_1 := Aside0.mk hi349_1
                              have HC349_1 := Aside0.mk hl349_1
                              clear hi349_1 hl349_1
                              replace p349 := eq_true p349
                              replace q349 := eq_true q349
                              go_wp2_with (first | ((with_reducible refine gate_builtin (b := .append) (xs := #[.tmp 50, .tmp 51]) rfl ?_); at_builtin; refine Kd.R_append (Kd.int .u8) (w0 := w) w.heap.size rfl (.tmp 50) (.tmp 51) 67 5 (.int .u8 0) 1 rfl Tryd.underlying67 info5 rfl (by decide) (by omega) u3 x3_2 10 [.int .u8 10] (fun _ => True) (fun _ => False) rfl rfl ?aP (fun _ hk => hk.elim) ?aF ?aO ?aB ?aS ?aL ?_; (case aP => exact rfl); (case aB => exact (by repeat (first | (with_reducible first | exact HB.out | apply below_alloc | apply pw_below_drewN | apply below_drew1) | exact HB.out))); (case aF => exact (fun _ _ => trivial)); (case aO => exact (by (with_reducible repeat (first | apply Kd.R_alloc | apply Kd.R_drewN | apply Kd.R_drew)); exact HO_3.out)); (case aS => exact (below_size (by repeat (first | (with_reducible first | exact HB.out | apply below_alloc | apply pw_below_drewN | apply below_drew1) | exact HB.out)))); (case aL => have := LMc22.out; omega); intro v357 w23 ho hb hg hat; rw [← Ny356.out] at ho; have n0_ := Aside0.mk (hb); have n1_ := Aside0.mk (ho); clear HB; clear HO_3; have HB := n0_; have HO358 := n1_; clear n0_ n1_; clear ho hb hg hat))
                              go_meet
                              case rel => exact ⟨_, (y356), H', ⟨by have := HK1.out; have := HK2.out; first | omega | exact Nat.le_refl _⟩, ⟨by (with_reducible repeat (first | apply Kd.R_alloc | apply Kd.R_drewN | apply Kd.R_drew)); exact HO358.out⟩, ⟨by repeat (first | (with_reducible first | exact HB.out | apply below_alloc | apply pw_below_drewN | apply below_drew1) | exact HB.out)⟩⟩
                            · rw [if_neg c22] at H
                              exact absurd H (by simp)
                        · rw [if_neg c14] at H
                          exact absurd H (by simp)
                      · rw [if_neg c13] at H
                        exact absurd H (by simp)
                · rw [if_neg c10] at H
                  exact absurd H (by simp)
              · rw [if_neg c9] at H
                exact absurd H (by simp)
            · rw [if_neg c7] at H
              have c7b0 : decide (0 < (((rd_T32 l0 x4_1).f0).length : Int)) = false := decide_eq_false c7
              have c7b1 : decide (0 < ((rd_T32 l0 x4_1).f0).length) = false := decide_eq_false (by omega)
              have c7b3 : ¬ 0 < ((rd_T32 l0 x4_1).f0).length := by omega
              clear c7
              (first | rw [c7b0] | (simp only [i64_w, i32_w]; rw [c7b0]) | skip)
              have H' := Aside0.mk H
              clear H
              go_wp2
              go_meet
              case rel => exact ⟨_, (x3_1), H', ⟨by have := HK1.out; first | omega | exact Nat.le_refl _⟩, ⟨by (with_reducible repeat (first | apply Kd.R_alloc | apply Kd.R_drewN | apply Kd.R_drew)); exact HO_3.out⟩, ⟨by repeat (first | (with_reducible first | exact HB.out | apply below_alloc | apply pw_below_drewN | apply below_drew1) | exact HB.out)⟩⟩
          case rest =>
            clear HC6
            try clear c1
            try clear c2
            try clear p2
            try clear c3
            try clear p3
            try clear q3
            try clear hx3
            try clear c4
            try clear c4b0
            try clear c5
            try clear c5b0
            try clear p6
            try clear c7
            try clear c7b0
            try clear c7b1
            try clear c9
            try clear c9b0
            try clear c9b1
            try clear c9b2
            try clear c10
            try clear c13
            try clear c13b0
            try clear c14
            try clear c14b0
            try clear c15
            try clear c15b0
            try clear c16
            try clear c16b0
            try clear c18
            try clear c18b0
            try clear c18b1
            try clear c18b2
            try clear c19
            try clear c22
            try clear hx344_0
            try clear hx344_1
            try clear hx349_0
            try clear hx349_1
            try clear hx350_0
            try clear hx350_1
            try clear hx351_0
            try clear p2
            try clear p3
            try clear p344
            try clear p349
            try clear p350
            try clear p351
            try clear q3
            try clear q344
            try clear q349
            try clear q350
            try clear q351
            obtain ⟨kq, x3_5, HA, HJ5, HO_3, HB⟩ := hcut
            cases kq with
            | zero => exact absurd HA.out (by simp [rotaref19_Print.j2])
            | succ kj5 =>
              have H := HA.out
              clear HA
              simp only [rotaref19_Print.j2] at H
              by_cases c24 : 0 ≤ x4_1
              · rw [if_pos c24] at H
                have c24b0 : decide (0 ≤ x4_1) = true := decide_eq_true c24
                clear c24
                by_cases c25 : x4_1 < (l0.length : Int)
                · rw [if_pos c25] at H
                  have c25b0 : decide (x4_1 < (l0.length : Int)) = true := decide_eq_true c25
                  clear c25
                  by_cases c26 : (((rd_T32 l0 x4_1).f1).length : Int) > 0
                  · rw [if_pos c26] at H
                    have c26b0 : decide (0 < (((rd_T32 l0 x4_1).f1).length : Int)) = true := decide_eq_true c26
                    have c26b1 : decide (0 < ((rd_T32 l0 x4_1).f1).length) = true := decide_eq_true (by omega)
                    have c26b3 : 0 < ((rd_T32 l0 x4_1).f1).length := by omega
                    clear c26
                    replace H := Option.bind_eq_some_iff.mp H
                    obtain ⟨t360, A270, H⟩ := H
                    replace H : (if 6 + t360.size ≤ 9223372036854775807 then (if x3_5.length + ((⟨#[105, 110, 112, 117, 116, 32]⟩ : ByteArray) ++ t360).size < 140737488355328 then (rotaref19_Print.l2 kj5 l0 (x3_5 ++ bytesOf ((⟨#[105, 110, 112, 117, 116, 32]⟩ : ByteArray) ++ t360)) x4_1 0) else (none)) else (none)) = some r := H
                    have A27 := Aside0.mk A270
                    clear A270
                    by_cases c28 : 6 + t360.size ≤ 9223372036854775807
                    · rw [if_pos c28] at H
                      have c28b0 := eq_true c28
                      have c28b1 : decide (6 + t360.size ≤ 9223372036854775807) = true := decide_eq_true c28
                      try have c28b2 : (9223372036854775807 < 6 + t360.size) = False := eq_false (Nat.not_lt.2 c28)
                      by_cases c29 : x3_5.length + ((⟨#[105, 110, 112, 117, 116, 32]⟩ : ByteArray) ++ t360).size < 140737488355328
                      · rw [if_pos c29] at H
                        have LMc29 := Aside0.mk c29
                        clear c29
                        obtain ⟨y361, hy361⟩ : ∃ y_ : List Int, y_ = (x3_5 ++ bytesOf ((⟨#[105, 110, 112, 117, 116, 32]⟩ : ByteArray) ++ t360)) := ⟨_, rfl⟩
                        replace H : (rotaref19_Print.l2 kj5 l0 y361 x4_1 0) = some r := by first | (rw [hy361]; with_reducible exact H) | (have H2_ := (Option.bind_some _ _).symm.trans H; rw [hy361]; with_reducible exact H2_) | (have H2_ := (Option.bind_some _ _).symm.trans H; with_reducible exact H2_) | with_reducible exact H | (rw [hy361]; exact H) | exact H
                        have Ny361 := Aside0.mk hy361
                        clear hy361
                        have H' := Aside0.mk H
                        clear H
                        have p359 : 0 ≤ (x4_1 : Int) := of_decide_eq_true (by first | (with_reducible assumption) | assumption)
                        have q359 : x4_1 < (l0.length : Int) := of_decide_eq_true (by first | (with_reducible assumption) | assumption)
                        obtain ⟨ad359, A359_0, c359_0, A359_1, c359_1, e359, hx359_0, hx359_1, hl359_0, hi359_0, hl359_1, hi359_1⟩ := at_T32 HR0.out x4_1 p359 q359
                        obtain rfl : ad344 = ad359 := (by injection e359)
                        replace hx359_0 := (HB.out.cell (World.block_lt_of_cell? w _ hx359_0)).trans hx359_0
                        replace hx359_1 := (HB.out.cell (World.block_lt_of_cell? w _ hx359_1)).trans hx359_1
                        have HR359_0 := Aside0.mk hi359_0
                        have HC359_0 := Aside0.mk hl359_0
                        clear hi359_0 hl359_0
                        have HR359_1 := Aside0.mk hi359_1
                        have HC359_1 := Aside0.mk hl359_1
                        clear hi359_1 hl359_1
                        replace p359 := eq_true p359
                        replace q359 := eq_true q359
                        go_wp2_with (first | ((with_reducible refine gate_callee (f := 45) rfl ?_); refine goesL_ (some 63) rfl rfl Tryd.func45 (by kernel_rfl) rfl #[.int .u64 (IntKind.u64.wrap (x4_1))] rfl (by (try simp only [List.map_toArray, List.map_cons, List.map_nil]); first | done | rfl | (simp only [List.length_drop, List.length_take]; rfl)) ?_; (with_reducible refine (rotaref19_decimal.calls kj5 (IntKind.u64.wrap (x4_1)) t360 _ A27.out).mono ?_); rintro e w30 ⟨rfl, hb⟩; refine ⟨_, rfl, ?_⟩; have n0_ := Aside0.mk (Kd.R_below (by (with_reducible repeat (first | apply Kd.R_alloc | apply Kd.R_drewN | apply Kd.R_drew)); exact HO_3.out) hb); have n1_ := Aside0.mk (below_step (by repeat (first | (with_reducible first | exact HB.out | apply below_alloc | apply pw_below_drewN | apply below_drew1) | exact HB.out)) hb); clear HO_3; clear HB; have HO_3 := n0_; have HB := n1_; clear n0_ n1_; (try clear hb); (try clear hb2); (try clear hk); (try clear hi)) | (at_builtin; refine print_append_str (w0 := w) w.heap.size rfl (.tmp 60) _ 67 9 5 rfl Tryd.underlying67 Tryd.underlying9 info5 u3 x3_5 ((⟨#[105, 110, 112, 117, 116, 32]⟩ : ByteArray) ++ t360) rfl rfl ?aO ?aB ?aS ?aL ?_; (case aB => exact (by repeat (first | (with_reducible first | exact HB.out | apply below_alloc | apply pw_below_drewN | apply below_drew1) | exact HB.out))); (case aO => exact (Kd.own_of_R (by (with_reducible repeat (first | apply Kd.R_alloc | apply Kd.R_drewN | apply Kd.R_drew)); exact HO_3.out))); (case aS => exact (below_size (by repeat (first | (with_reducible first | exact HB.out | apply below_alloc | apply pw_below_drewN | apply below_drew1) | exact HB.out)))); (case aL => have := LMc29.out; omega); intro v362 w31 ho0 hb hg; have ho := Kd.R_of_own (h1 := fun _ => rfl) (ok := fun _ => True) ho0 (fun _ _ => trivial); clear ho0; have hat := True.intro; rw [← Ny361.out] at ho; change Kd.R (Kd.int .u8) 5 w31 w.heap.size (fun _ => True) v362 y361 at ho; have n0_ := Aside0.mk (hb); have n1_ := Aside0.mk (ho); clear HB; clear HO_3; have HB := n0_; have HO363 := n1_; clear n0_ n1_; clear ho hb hg hat))
                        go_loopg [3, 6] kj5 (fun kq v3 v6 w' => ∃ (x3_3 : List Int) (x6_3 : Int), v6 = .int .i64 x6_3 ∧ Aside0 (rotaref19_Print.l2 kq l0 x3_3 x4_1 x6_3 = some r) ∧ Aside0 (kq ≤ kj5) ∧ Aside0 (Kd.R (Kd.int .u8) 5 w' w.heap.size (fun _ => True) v3 x3_3) ∧ Aside0 (Below w.heap.size w w'))
                        case atStart => exact ⟨(y361), (0), (by first | rfl | (simp; done) | (simp [*]; done)), H', ⟨Nat.le_refl _⟩, ⟨by (with_reducible repeat (first | apply Kd.R_alloc | apply Kd.R_drewN | apply Kd.R_drew)); exact HO363.out⟩, ⟨by repeat (first | (with_reducible first | exact HB.out | apply below_alloc | apply pw_below_drewN | apply below_drew1) | exact HB.out)⟩⟩
                        case round =>
                          clear H'
                          try clear c1
                          try clear c2
                          try clear p2
                          try clear c3
                          try clear p3
                          try clear q3
                          try clear hx3
                          try clear c4
                          try clear c4b0
                          try clear c5
                          try clear c5b0
                          try clear p6
                          try clear c7
                          try clear c7b0
                          try clear c7b1
                          try clear c9
                          try clear c9b0
                          try clear c9b1
                          try clear c9b2
                          try clear c10
                          try clear c13
                          try clear c13b0
                          try clear c14
                          try clear c14b0
                          try clear c15
                          try clear c15b0
                          try clear c16
                          try clear c16b0
                          try clear c18
                          try clear c18b0
                          try clear c18b1
                          try clear c18b2
                          try clear c19
                          try clear c22
                          try clear c24
                          try clear c24b0
                          try clear c25
                          try clear c25b0
                          try clear c26
                          try clear c26b0
                          try clear c26b1
                          try clear c28
                          try clear c28b0
                          try clear c28b1
                          try clear c28b2
                          try clear c29
                          try clear hx344_0
                          try clear hx344_1
                          try clear hx349_0
                          try clear hx349_1
                          try clear hx350_0
                          try clear hx350_1
                          try clear hx351_0
                          try clear hx359_0
                          try clear hx359_1
                          try clear p2
                          try clear p3
                          try clear p344
                          try clear p349
                          try clear p350
                          try clear p351
                          try clear p359
                          try clear p6
                          try clear q3
                          try clear q344
                          try clear q349
                          try clear q350
                          try clear q351
                          try clear q359
                          obtain ⟨x3_3, x6_3, rfl, HA, HK3, HO_3, HB⟩ := hrel
                          cases gk with
                          | zero => exact absurd HA.out (by simp [rotaref19_Print.l2])
                          | succ k3 =>
                            have H := HA.out
                            clear HA
                            simp only [rotaref19_Print.l2] at H
                            by_cases c32 : 0 ≤ x4_1
                            · rw [if_pos c32] at H
                              have c32b0 : decide (0 ≤ x4_1) = true := decide_eq_true c32
                              clear c32
                              by_cases c33 : x4_1 < (l0.length : Int)
                              · rw [if_pos c33] at H
                                have c33b0 : decide (x4_1 < (l0.length : Int)) = true := decide_eq_true c33
                                clear c33
                                by_cases c34 : x6_3 < (((rd_T32 l0 x4_1).f1).length : Int)
                                · rw [if_pos c34] at H
                                  have c34b0 : decide (x6_3 < (((rd_T32 l0 x4_1).f1).length : Int)) = true := decide_eq_true c34
                                  clear c34
                                  by_cases c35 : 0 ≤ x6_3
                                  · rw [if_pos c35] at H
                                    have c35b0 : decide (0 ≤ x6_3) = true := decide_eq_true c35
                                    clear c35
                                    replace H := Option.bind_eq_some_iff.mp H
                                    obtain ⟨t367, A360, H⟩ := H
                                    replace H : (if 1 + t367.size ≤ 9223372036854775807 then (if x3_3.length + ((⟨#[32]⟩ : ByteArray) ++ t367).size < 140737488355328 then (rotaref19_Print.l2 k3 l0 (x3_3 ++ bytesOf ((⟨#[32]⟩ : ByteArray) ++ t367)) x4_1 (wrap64 (x6_3 + 1))) else (none)) else (none)) = some r := H
                                    have A36 := Aside0.mk A360
                                    clear A360
                                    by_cases c37 : 1 + t367.size ≤ 9223372036854775807
                                    · rw [if_pos c37] at H
                                      have c37b0 := eq_true c37
                                      have c37b1 : decide (1 + t367.size ≤ 9223372036854775807) = true := decide_eq_true c37
                                      try have c37b2 : (9223372036854775807 < 1 + t367.size) = False := eq_false (Nat.not_lt.2 c37)
                                      by_cases c38 : x3_3.length + ((⟨#[32]⟩ : ByteArray) ++ t367).size < 140737488355328
                                      · rw [if_pos c38] at H
                                        have LMc38 := Aside0.mk c38
                                        clear c38
                                        obtain ⟨y368, hy368⟩ : ∃ y_ : List Int, y_ = (x3_3 ++ bytesOf ((⟨#[32]⟩ : ByteArray) ++ t367)) := ⟨_, rfl⟩
                                        replace H : (rotaref19_Print.l2 k3 l0 y368 x4_1 (wrap64 (x6_3 + 1))) = some r := by first | (rw [hy368]; with_reducible exact H) | (have H2_ := (Option.bind_some _ _).symm.trans H; rw [hy368]; with_reducible exact H2_) | (have H2_ := (Option.bind_some _ _).symm.trans H; with_reducible exact H2_) | with_reducible exact H | (rw [hy368]; exact H) | exact H
                                        have Ny368 := Aside0.mk hy368
                                        clear hy368
                                        have H' := Aside0.mk H
                                        clear H
                                        have p364 : 0 ≤ (x4_1 : Int) := of_decide_eq_true (by first | (with_reducible assumption) | assumption)
                                        have q364 : x4_1 < (l0.length : Int) := of_decide_eq_true (by first | (with_reducible assumption) | assumption)
                                        obtain ⟨ad364, A364_0, c364_0, A364_1, c364_1, e364, hx364_0, hx364_1, hl364_0, hi364_0, hl364_1, hi364_1⟩ := at_T32 HR0.out x4_1 p364 q364
                                        obtain rfl : ad344 = ad364 := (by injection e364)
                                        replace hx364_0 := (HB.out.cell (World.block_lt_of_cell? w _ hx364_0)).trans hx364_0
                                        replace hx364_1 := (HB.out.cell (World.block_lt_of_cell? w _ hx364_1)).trans hx364_1
                                        have HR364_0 := Aside0.mk hi364_0
                                        have HC364_0 := Aside0.mk hl364_0
                                        clear hi364_0 hl364_0
                                        have HR364_1 := Aside0.mk hi364_1
                                        have HC364_1 := Aside0.mk hl364_1
                                        clear hi364_1 hl364_1
                                        replace p364 := eq_true p364
                                        replace q364 := eq_true q364
                                        have p365 : 0 ≤ (x4_1 : Int) := of_decide_eq_true (by first | (with_reducible assumption) | assumption)
                                        have q365 : x4_1 < (l0.length : Int) := of_decide_eq_true (by first | (with_reducible assumption) | assumption)
                                        obtain ⟨ad365, A365_0, c365_0, A365_1, c365_1, e365, hx365_0, hx365_1, hl365_0, hi365_0, hl365_1, hi365_1⟩ := at_T32 HR0.out x4_1 p365 q365
                                        obtain rfl : ad344 = ad365 := (by injection e365)
                                        replace hx365_0 := (HB.out.cell (World.block_lt_of_cell? w _ hx365_0)).trans hx365_0
                                        replace hx365_1 := (HB.out.cell (World.block_lt_of_cell? w _ hx365_1)).trans hx365_1
                                        have HR365_0 := Aside0.mk hi365_0
                                        have HC365_0 := Aside0.mk hl365_0
                                        clear hi365_0 hl365_0
                                        have HR365_1 := Aside0.mk hi365_1
                                        have HC365_1 := Aside0.mk hl365_1
                                        clear hi365_1 hl365_1
                                        replace p365 := eq_true p365
                                        replace q365 := eq_true q365
                                        have ea_ := Option.some.inj (hx364_0.symm.trans hx365_0)
                                        injection ea_ with ea_ en_ ec_
                                        subst ea_
                                        subst ec_
                                        clear en_
                                        have ea_ := Option.some.inj (hx364_1.symm.trans hx365_1)
                                        injection ea_ with ea_ en_ ec_
                                        subst ea_
                                        subst ec_
                                        clear en_
                                        have p366 : 0 ≤ (x6_3 : Int) := of_decide_eq_true (by first | (with_reducible assumption) | assumption)
                                        have q366 : x6_3 < (((rd_T32 l0 x4_1).f1).length : Int) := of_decide_eq_true (by first | (with_reducible assumption) | assumption)
                                        obtain ⟨ad366, e366, hx366_0⟩ := Kd.at_int HR365_1.out x6_3 p366 q366
                                        cases e366
                                        replace hx366_0 := (HB.out.cell (World.block_lt_of_cell? w _ hx366_0)).trans hx366_0
                                        replace p366 := eq_true p366
                                        replace q366 := eq_true q366
                                        go_wp2_with (first | ((with_reducible refine gate_callee (f := 46) rfl ?_); refine goesL_ (some 85) rfl rfl Tryd.func46 (by kernel_rfl) rfl #[.int .i64 (rd ((rd_T32 l0 x4_1).f1) x6_3)] rfl (by (try simp only [List.map_toArray, List.map_cons, List.map_nil]); first | done | rfl | (simp only [List.length_drop, List.length_take]; rfl)) ?_; (with_reducible refine (rotaref19_Number.calls k3 (rd ((rd_T32 l0 x4_1).f1) x6_3) t367 _ A36.out).mono ?_); rintro e w39 ⟨rfl, hb⟩; refine ⟨_, rfl, ?_⟩; have n0_ := Aside0.mk (Kd.R_below (by (with_reducible repeat (first | apply Kd.R_alloc | apply Kd.R_drewN | apply Kd.R_drew)); exact HO_3.out) hb); have n1_ := Aside0.mk (below_step (by repeat (first | (with_reducible first | exact HB.out | apply below_alloc | apply pw_below_drewN | apply below_drew1) | exact HB.out)) hb); clear HO_3; clear HB; have HO_3 := n0_; have HB := n1_; clear n0_ n1_; (try clear hb); (try clear hb2); (try clear hk); (try clear hi)) | (at_builtin; refine print_append_str (w0 := w) w.heap.size rfl (.tmp 76) _ 67 9 5 rfl Tryd.underlying67 Tryd.underlying9 info5 u3 x3_3 ((⟨#[32]⟩ : ByteArray) ++ t367) rfl rfl ?aO ?aB ?aS ?aL ?_; (case aB => exact (by repeat (first | (with_reducible first | exact HB.out | apply below_alloc | apply pw_below_drewN | apply below_drew1) | exact HB.out))); (case aO => exact (Kd.own_of_R (by (with_reducible repeat (first | apply Kd.R_alloc | apply Kd.R_drewN | apply Kd.R_drew)); exact HO_3.out))); (case aS => exact (below_size (by repeat (first | (with_reducible first | exact HB.out | apply below_alloc | apply pw_below_drewN | apply below_drew1) | exact HB.out)))); (case aL => have := LMc38.out; omega); intro v369 w40 ho0 hb hg; have ho := Kd.R_of_own (h1 := fun _ => rfl) (ok := fun _ => True) ho0 (fun _ _ => trivial); clear ho0; have hat := True.intro; rw [← Ny368.out] at ho; change Kd.R (Kd.int .u8) 5 w40 w.heap.size (fun _ => True) v369 y368 at ho; have n0_ := Aside0.mk (hb); have n1_ := Aside0.mk (ho); clear HB; clear HO_3; have HB := n0_; have HO370 := n1_; clear n0_ n1_; clear ho hb hg hat))
                                        go_roundg k3
                                        case measure => have := HK1.out; have := HJ5.out; have := HK3.out; omega
                                        case rel => exact ⟨(y368), (wrap64 (x6_3 + 1)), (by first | rfl | (simp; done) | (simp [*]; done)), H', ⟨by have := HK1.out; have := HJ5.out; have := HK3.out; omega⟩, ⟨by (with_reducible repeat (first | apply Kd.R_alloc | apply Kd.R_drewN | apply Kd.R_drew)); exact HO370.out⟩, ⟨by repeat (first | (with_reducible first | exact HB.out | apply below_alloc | apply pw_below_drewN | apply below_drew1) | exact HB.out)⟩⟩
                                      · rw [if_neg c38] at H
                                        exact absurd H (by simp)
                                    · rw [if_neg c37] at H
                                      exact absurd H (by simp)
                                  · rw [if_neg c35] at H
                                    exact absurd H (by simp)
                                · rw [if_neg c34] at H
                                  have c34b0 : decide (x6_3 < (((rd_T32 l0 x4_1).f1).length : Int)) = false := decide_eq_false c34
                                  clear c34
                                  by_cases c41 : x3_3.length < 140737488355328
                                  · rw [if_pos c41] at H
                                    have LMc41 := Aside0.mk c41
                                    clear c41
                                    obtain ⟨y371, hy371⟩ : ∃ y_ : List Int, y_ = (x3_3 ++ [10]) := ⟨_, rfl⟩
                                    replace H : (rotaref19_Print.l0 k3 l0 y371 (wrap64 (x4_1 + 1))) = some r := by first | (rw [hy371]; with_reducible exact H) | (have H2_ := (Option.bind_some _ _).symm.trans H; rw [hy371]; with_reducible exact H2_) | (have H2_ := (Option.bind_some _ _).symm.trans H; with_reducible exact H2_) | with_reducible exact H | (rw [hy371]; exact H) | exact H
                                    have Ny371 := Aside0.mk hy371
                                    clear hy371
                                    have H' := Aside0.mk H
                                    clear H
                                    have p364 : 0 ≤ (x4_1 : Int) := of_decide_eq_true (by first | (with_reducible assumption) | assumption)
                                    have q364 : x4_1 < (l0.length : Int) := of_decide_eq_true (by first | (with_reducible assumption) | assumption)
                                    obtain ⟨ad364, A364_0, c364_0, A364_1, c364_1, e364, hx364_0, hx364_1, hl364_0, hi364_0, hl364_1, hi364_1⟩ := at_T32 HR0.out x4_1 p364 q364
                                    obtain rfl : ad344 = ad364 := (by injection e364)
                                    replace hx364_0 := (HB.out.cell (World.block_lt_of_cell? w _ hx364_0)).trans hx364_0
                                    replace hx364_1 := (HB.out.cell (World.block_lt_of_cell? w _ hx364_1)).trans hx364_1
                                    have HR364_0 := Aside0.mk hi364_0
                                    have HC364_0 := Aside0.mk hl364_0
                                    clear hi364_0 hl364_0
                                    have HR364_1 := Aside0.mk hi364_1
                                    have HC364_1 := Aside0.mk hl364_1
                                    clear hi364_1 hl364_1
                                    replace p364 := eq_true p364
                                    replace q364 := eq_true q364
                                    go_wp2_with (first | ((with_reducible refine gate_builtin (b := .append) (xs := #[.tmp 88, .tmp 89]) rfl ?_); at_builtin; refine Kd.R_append (Kd.int .u8) (w0 := w) w.heap.size rfl (.tmp 88) (.tmp 89) 67 5 (.int .u8 0) 1 rfl Tryd.underlying67 info5 rfl (by decide) (by omega) u3 x3_3 10 [.int .u8 10] (fun _ => True) (fun _ => False) rfl rfl ?aP (fun _ hk => hk.elim) ?aF ?aO ?aB ?aS ?aL ?_; (case aP => exact rfl); (case aB => exact (by repeat (first | (with_reducible first | exact HB.out | apply below_alloc | apply pw_below_drewN | apply below_drew1) | exact HB.out))); (case aF => exact (fun _ _ => trivial)); (case aO => exact (by (with_reducible repeat (first | apply Kd.R_alloc | apply Kd.R_drewN | apply Kd.R_drew)); exact HO_3.out)); (case aS => exact (below_size (by repeat (first | (with_reducible first | exact HB.out | apply below_alloc | apply pw_below_drewN | apply below_drew1) | exact HB.out)))); (case aL => have := LMc41.out; omega); intro v372 w42 ho hb hg hat; rw [← Ny371.out] at ho; have n0_ := Aside0.mk (hb); have n1_ := Aside0.mk (ho); clear HB; clear HO_3; have HB := n0_; have HO373 := n1_; clear n0_ n1_; clear ho hb hg hat))
                                    go_roundg k3
                                    case measure => have := HK1.out; have := HJ5.out; have := HK3.out; omega
                                    case rel => exact ⟨(y371), (wrap64 (x4_1 + 1)), (by first | rfl | (simp; done) | (simp [*]; done)), H', ⟨by have := HK1.out; have := HJ5.out; have := HK3.out; omega⟩, ⟨by (with_reducible repeat (first | apply Kd.R_alloc | apply Kd.R_drewN | apply Kd.R_drew)); exact HO373.out⟩, ⟨by repeat (first | (with_reducible first | exact HB.out | apply below_alloc | apply pw_below_drewN | apply below_drew1) | exact HB.out)⟩⟩
                                  · rw [if_neg c41] at H
                                    exact absurd H (by simp)
                              · rw [if_neg c33] at H
                                exact absurd H (by simp)
                            · rw [if_neg c32] at H
                              exact absurd H (by simp)
                      · rw [if_neg c29] at H
                        exact absurd H (by simp)
                    · rw [if_neg c28] at H
                      exact absurd H (by simp)
                  · rw [if_neg c26] at H
                    have c26b0 : decide (0 < (((rd_T32 l0 x4_1).f1).length : Int)) = false := decide_eq_false c26
                    have c26b1 : decide (0 < ((rd_T32 l0 x4_1).f1).length) = false := decide_eq_false (by omega)
                    have c26b3 : ¬ 0 < ((rd_T32 l0 x4_1).f1).length := by omega
                    clear c26
                    have H' := Aside0.mk H
                    clear H
                    have p359 : 0 ≤ (x4_1 : Int) := of_decide_eq_true (by first | (with_reducible assumption) | assumption)
                    have q359 : x4_1 < (l0.length : Int) := of_decide_eq_true (by first | (with_reducible assumption) | assumption)
                    obtain ⟨ad359, A359_0, c359_0, A359_1, c359_1, e359, hx359_0, hx359_1, hl359_0, hi359_0, hl359_1, hi359_1⟩ := at_T32 HR0.out x4_1 p359 q359
                    obtain rfl : ad344 = ad359 := (by injection e359)
                    replace hx359_0 := (HB.out.cell (World.block_lt_of_cell? w _ hx359_0)).trans hx359_0
                    replace hx359_1 := (HB.out.cell (World.block_lt_of_cell? w _ hx359_1)).trans hx359_1
                    have HR359_0 := Aside0.mk hi359_0
                    have HC359_0 := Aside0.mk hl359_0
                    clear hi359_0 hl359_0
                    have HR359_1 := Aside0.mk hi359_1
                    have HC359_1 := Aside0.mk hl359_1
                    clear hi359_1 hl359_1
                    replace p359 := eq_true p359
                    replace q359 := eq_true q359
                    go_wp2
                    go_roundg kj5
                    case measure => have := HK1.out; have := HJ5.out; omega
                    case rel => exact ⟨(x3_5), (wrap64 (x4_1 + 1)), (by first | rfl | (simp; done) | (simp [*]; done)), H', ⟨by have := HK1.out; have := HJ5.out; omega⟩, ⟨by (with_reducible repeat (first | apply Kd.R_alloc | apply Kd.R_drewN | apply Kd.R_drew)); exact HO_3.out⟩, ⟨by repeat (first | (with_reducible first | exact HB.out | apply below_alloc | apply pw_below_drewN | apply below_drew1) | exact HB.out)⟩⟩
                · rw [if_neg c25] at H
                  exact absurd H (by simp)
              · rw [if_neg c24] at H
                exact absurd H (by simp)
        · rw [if_neg c5] at H
          exact absurd H (by simp)
      · rw [if_neg c4] at H
        have c4b0 : decide (x4_1 < (l0.length : Int)) = false := decide_eq_false c4
        clear c4
        obtain rfl := Option.some.inj H
        have hcv43 := own_string (P := Tryd.prog) Tryd.underlying67 Tryd.underlying5 Tryd.underlying9 (Kd.own_of_R HO_3.out)
        go_wp2
        go_ret
        exact ⟨by first | rfl | (simp [errW_none, errW_some] <;> rfl) | (simp [*, errW_none, errW_some] <;> rfl), by repeat (first | (with_reducible first | exact HB.out | apply below_alloc | apply pw_below_drewN | apply below_drew1) | exact HB.out)⟩

end Go.Proofs.YtonnlkpmfmknlaaDoor.GA
end
