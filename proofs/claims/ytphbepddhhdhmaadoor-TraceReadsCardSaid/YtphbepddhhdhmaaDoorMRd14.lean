import Derived.Test.YtphbepddhhdhmaaDoorMRd1
import Derived.Test.YtphbepddhhdhmaaDoorMRd2
import Derived.Test.YtphbepddhhdhmaaDoorMRd6
import Derived.IntWalk
import Derived.Test.YtphbepddhhdhmaaDoorMRd13
import Derived.Test.YtphbepddhhdhmaaDoorMRd12
import Derived.Test.YtphbepddhhdhmaaDoorMRd7
import Derived.Test.YtphbepddhhdhmaaDoorMRd8
import Derived.Test.YtphbepddhhdhmaaDoorMRd11
section
-- laid by a program of this session (wip/gp.sh)
namespace Go.Proofs.YtphbepddhhdhmaaDoor.GA
open Go.RowKit Go.Proofs.YtphbepddhhdhmaaDoorW.PrintWords Go.Proofs.YtphbepddhhdhmaaDoorW.PrintLast Go.Proofs.YtphbepddhhdhmaaDoorW.PrintMore
attribute [local go_sem] max2_int min2_int max_two min_two max_three min_three max_four min_four   -- for this text's walks alone
set_option linter.unusedVariables false
set_option linter.unusedSimpArgs false

/-! ### rotaref25_words: function 56 -/
def rotaref25_words.l0 : Nat → ByteArray → List ByteArray → Int → Int → Option (List ByteArray)
  | 0, _, _, _, _ => none
  | k + 1, x0, x3, x4, x5 => if x5 ≤ (x0.size : Int) then (if x5 = (x0.size : Int) then (if 0 ≤ x4 then (if x4 ≤ x5 then (if x3.length < 8796093022208 then (rotaref25_words.l0 k x0 (x3 ++ [x0.extract (x4 : Int).toNat (x5 : Int).toNat]) (wrap64 (x5 + 1)) (wrap64 (x5 + 1))) else (none)) else (none)) else (none)) else (if 0 ≤ x5 then (if x5 < (x0.size : Int) then (if (bt x0 x5) = 32 then (if 0 ≤ x4 then (if x4 ≤ x5 then (if x3.length < 8796093022208 then (rotaref25_words.l0 k x0 (x3 ++ [x0.extract (x4 : Int).toNat (x5 : Int).toNat]) (wrap64 (x5 + 1)) (wrap64 (x5 + 1))) else (none)) else (none)) else (none)) else (rotaref25_words.l0 k x0 x3 x4 (wrap64 (x5 + 1)))) else (none)) else (none))) else (some x3)
def rotaref25_words.f (k : Nat) (a0 : ByteArray) : Option (List ByteArray) := rotaref25_words.l0 k a0 (([] : List ByteArray)) 0 0
theorem rotaref25_words.mono_l : ∀ k, (∀ y0 y1 y2 y3, LeO (rotaref25_words.l0 k y0 y1 y2 y3) (rotaref25_words.l0 (k + 1) y0 y1 y2 y3))
  | 0 => fun _ _ _ _ r h => by simp [rotaref25_words.l0] at h
  | k + 1 => by
    have ih0 := rotaref25_words.mono_l k
    · intro y0 y1 y2 y3
      unfold rotaref25_words.l0
      repeat' first
      | (with_reducible exact ih0 _ _ _ _)
      | (with_reducible exact LeO.refl _)
      | (with_reducible exact LeO.none _)
      | (with_reducible refine LeO.ite ?_ ?_)
      | (with_reducible refine LeO.bind ?_ (fun _ => ?_))
      | exact ih0 _ _ _ _
      | exact LeO.none _
      | refine LeO.ite ?_ ?_
      | refine LeO.bind ?_ (fun _ => ?_)
theorem rotaref25_words.mono : ∀ a0 k, LeO (rotaref25_words.f k a0) (rotaref25_words.f (k + 1) a0) := by
  intro a0 k
  have ih0 := rotaref25_words.mono_l k
  unfold rotaref25_words.f
  repeat' first
      | (with_reducible exact ih0 _ _ _ _)
      | (with_reducible exact LeO.refl _)
      | (with_reducible exact LeO.none _)
      | (with_reducible refine LeO.ite ?_ ?_)
      | (with_reducible refine LeO.bind ?_ (fun _ => ?_))
      | exact ih0 _ _ _ _
      | exact LeO.none _
      | refine LeO.ite ?_ ?_
      | refine LeO.bind ?_ (fun _ => ?_)
set_option maxHeartbeats 8000000 in
set_option maxRecDepth 100000 in
theorem rotaref25_words.calls (k : Nat) (a0 : ByteArray) (r : List ByteArray) (w : World) (h : rotaref25_words.f k a0 = some r) :
    Calls Tryd.prog 56 #[.string a0] w fun e w' => ∃ v0_ : Value, e = .returned (v0_) ∧ Kd.R Kd.string 9 w' w.heap.size (fun _ => True) v0_ r ∧ Below w.heap.size w w' := by
  have HB := Aside0.mk (Below.refl w.heap.size w)
  have H : (rotaref25_words.l0 k a0 (([] : List ByteArray)) 0 0) = some r := h
  clear h
  obtain ⟨y346, hy346⟩ : ∃ y_ : List ByteArray, y_ = (([] : List ByteArray)) := ⟨_, rfl⟩
  replace H : (rotaref25_words.l0 k a0 y346 0 0) = some r := by first | (rw [hy346]; with_reducible exact H) | (have H2_ := (Option.bind_some _ _).symm.trans H; rw [hy346]; with_reducible exact H2_) | (have H2_ := (Option.bind_some _ _).symm.trans H; with_reducible exact H2_) | with_reducible exact H | (rw [hy346]; exact H) | exact H
  have Ny346 := Aside0.mk hy346
  clear hy346
  have H' := Aside0.mk H
  clear H
  go_enter Tryd.func56, Tryd.ntmps56
  go_wp2_with (first | ((with_reducible refine gate_dst (N := 6) rfl ?_); refine Kd.R_lit Kd.string _ 9 ?hg (N := 6) ?hd (xs := ([] : List ByteArray)) (inner := []) (ok := fun _ => True) (okp := fun _ => True) ?hr ?hp (fun _ hk => hk) trivial (Below.refl _ _) (Nat.le_refl _) (by simp) ?_; (case hd => rfl); (case hg => rfl); (case hr => first | (go_simp; done) | (go_simp; rfl)); (case hp => exact (Reps.none _ _)); intro v347 w2 ho3 hb hg_ hnew_; clear hg_ hnew_; (first | rw [← Ny346.out] at ho3 | (simp only [Int.reduceToNat] at ho3; rw [← Ny346.out] at ho3)); have n0_ := Aside0.mk (Kd.R_lower ho3 (below_size (by repeat (first | (with_reducible first | exact HB.out | apply below_alloc | apply pw_below_drewN | apply below_drew1) | exact HB.out)))); have n1_ := Aside0.mk (below_step (by repeat (first | (with_reducible first | exact HB.out | apply below_alloc | apply pw_below_drewN | apply below_drew1) | exact HB.out)) hb); clear HB; have HO348 := n0_; have HB := n1_; clear n0_ n1_; clear hb ho3))
  go_loopg [3, 4, 5] k (fun kq v3 v4 v5 w' => ∃ (x3_1 : List ByteArray) (x4_1 : Int) (x5_1 : Int), v4 = .int .i64 x4_1 ∧ v5 = .int .i64 x5_1 ∧ Aside0 (rotaref25_words.l0 kq a0 x3_1 x4_1 x5_1 = some r) ∧ Aside0 (kq ≤ k) ∧ Aside0 (Kd.R Kd.string 9 w' w.heap.size (fun _ => True) v3 x3_1) ∧ Aside0 (Below w.heap.size w w'))
  case atStart => exact ⟨(y346), (0), (0), (by first | rfl | (simp; done) | (simp [*]; done)), (by first | rfl | (simp; done) | (simp [*]; done)), H', ⟨Nat.le_refl _⟩, ⟨by (with_reducible repeat (first | apply Kd.R_alloc | apply Kd.R_drewN | apply Kd.R_drew)); exact HO348.out⟩, ⟨by repeat (first | (with_reducible first | exact HB.out | apply below_alloc | apply pw_below_drewN | apply below_drew1) | exact HB.out)⟩⟩
  case round =>
    clear H'
    try clear p2
    obtain ⟨x3_1, x4_1, x5_1, rfl, rfl, HA, HK1, HO_3, HB⟩ := hrel
    cases gk with
    | zero => exact absurd HA.out (by simp [rotaref25_words.l0])
    | succ k1 =>
      have H := HA.out
      clear HA
      simp only [rotaref25_words.l0] at H
      by_cases c4 : x5_1 ≤ (a0.size : Int)
      · rw [if_pos c4] at H
        have c4b0 : decide (x5_1 ≤ (a0.size : Int)) = true := decide_eq_true c4
        clear c4
        by_cases c5 : x5_1 = (a0.size : Int)
        · rw [if_pos c5] at H
          have c5b0 : (x5_1 == (a0.size : Int)) = true := beq_iff_eq.mpr c5
          have c5b1 : (x5_1 != (a0.size : Int)) = false := bne_eq_false_iff_eq.mpr c5
          clear c5
          by_cases c6 : 0 ≤ x4_1
          · rw [if_pos c6] at H
            have c6b0 := eq_true c6
            have c6b1 : decide (0 ≤ x4_1) = true := decide_eq_true c6
            clear c6
            by_cases c7 : x4_1 ≤ x5_1
            · rw [if_pos c7] at H
              have c7b0 := eq_true c7
              have c7b1 : decide (x4_1 ≤ x5_1) = true := decide_eq_true c7
              clear c7
              have c8b0 := eq_true (of_decide_eq_true (by first | (with_reducible assumption) | assumption) : x5_1 ≤ (a0.size : Int))
              by_cases c9 : x3_1.length < 8796093022208
              · rw [if_pos c9] at H
                have LMc9 := Aside0.mk c9
                clear c9
                obtain ⟨y349, hy349⟩ : ∃ y_ : List ByteArray, y_ = (x3_1 ++ [a0.extract (x4_1 : Int).toNat (x5_1 : Int).toNat]) := ⟨_, rfl⟩
                replace H : (rotaref25_words.l0 k1 a0 y349 (wrap64 (x5_1 + 1)) (wrap64 (x5_1 + 1))) = some r := by first | (rw [hy349]; with_reducible exact H) | (have H2_ := (Option.bind_some _ _).symm.trans H; rw [hy349]; with_reducible exact H2_) | (have H2_ := (Option.bind_some _ _).symm.trans H; with_reducible exact H2_) | with_reducible exact H | (rw [hy349]; exact H) | exact H
                have Ny349 := Aside0.mk hy349
                clear hy349
                have H' := Aside0.mk H
                clear H
                go_wp2_with (first | ((with_reducible refine gate_builtin (b := .append) (xs := #[.tmp 23, .tmp 28]) rfl ?_); at_builtin; refine Kd.R_append Kd.string (w0 := w) w.heap.size rfl (.tmp 23) (.tmp 28) 51 9 (.string ⟨#[]⟩) 16 rfl Tryd.underlying51 info9 rfl (by decide) (by omega) u3 x3_1 (a0.extract (x4_1 : Int).toNat (x5_1 : Int).toNat) [.string (a0.extract (x4_1 : Int).toNat (x5_1 : Int).toNat)] (fun _ => True) (fun _ => False) rfl rfl ?aP (fun _ hk => hk.elim) ?aF ?aO ?aB ?aS ?aL ?_; (case aP => exact rfl); (case aB => exact (by repeat (first | (with_reducible first | exact HB.out | apply below_alloc | apply pw_below_drewN | apply below_drew1) | exact HB.out))); (case aF => exact (fun _ _ => trivial)); (case aO => exact (by (with_reducible repeat (first | apply Kd.R_alloc | apply Kd.R_drewN | apply Kd.R_drew)); exact HO_3.out)); (case aS => exact (below_size (by repeat (first | (with_reducible first | exact HB.out | apply below_alloc | apply pw_below_drewN | apply below_drew1) | exact HB.out)))); (case aL => have := LMc9.out; omega); intro v350 w10 ho hb hg hat; rw [← Ny349.out] at ho; have n0_ := Aside0.mk (hb); have n1_ := Aside0.mk (ho); clear HB; clear HO_3; have HB := n0_; have HO351 := n1_; clear n0_ n1_; clear ho hb hg hat))
                go_roundg k1
                case measure => have := HK1.out; omega
                case rel => exact ⟨(y349), (wrap64 (x5_1 + 1)), (wrap64 (x5_1 + 1)), (by first | rfl | (simp; done) | (simp [*]; done)), (by first | rfl | (simp; done) | (simp [*]; done)), H', ⟨by have := HK1.out; omega⟩, ⟨by (with_reducible repeat (first | apply Kd.R_alloc | apply Kd.R_drewN | apply Kd.R_drew)); exact HO351.out⟩, ⟨by repeat (first | (with_reducible first | exact HB.out | apply below_alloc | apply pw_below_drewN | apply below_drew1) | exact HB.out)⟩⟩
              · rw [if_neg c9] at H
                exact absurd H (by simp)
            · rw [if_neg c7] at H
              exact absurd H (by simp)
          · rw [if_neg c6] at H
            exact absurd H (by simp)
        · rw [if_neg c5] at H
          have c5b0 : (x5_1 == (a0.size : Int)) = false := beq_eq_false_iff_ne.mpr c5
          have c5b1 : (x5_1 != (a0.size : Int)) = true := bne_iff_ne.mpr c5
          by_cases c11 : 0 ≤ x5_1
          · rw [if_pos c11] at H
            have c11b0 : decide (0 ≤ x5_1) = true := decide_eq_true c11
            clear c11
            by_cases c12 : x5_1 < (a0.size : Int)
            · rw [if_pos c12] at H
              have c12b0 : decide (x5_1 < (a0.size : Int)) = true := decide_eq_true c12
              clear c12
              by_cases c14 : (bt a0 x5_1) = 32
              · rw [if_pos c14] at H
                have c14b0 : ((bt a0 x5_1) == 32) = true := beq_iff_eq.mpr c14
                have c14b1 : ((bt a0 x5_1) != 32) = false := bne_eq_false_iff_eq.mpr c14
                clear c14
                by_cases c15 : 0 ≤ x4_1
                · rw [if_pos c15] at H
                  have c15b0 := eq_true c15
                  have c15b1 : decide (0 ≤ x4_1) = true := decide_eq_true c15
                  clear c15
                  by_cases c16 : x4_1 ≤ x5_1
                  · rw [if_pos c16] at H
                    have c16b0 := eq_true c16
                    have c16b1 : decide (x4_1 ≤ x5_1) = true := decide_eq_true c16
                    clear c16
                    have c17b0 := eq_true (of_decide_eq_true (by first | (with_reducible assumption) | assumption) : x5_1 ≤ (a0.size : Int))
                    by_cases c18 : x3_1.length < 8796093022208
                    · rw [if_pos c18] at H
                      have LMc18 := Aside0.mk c18
                      clear c18
                      obtain ⟨y352, hy352⟩ : ∃ y_ : List ByteArray, y_ = (x3_1 ++ [a0.extract (x4_1 : Int).toNat (x5_1 : Int).toNat]) := ⟨_, rfl⟩
                      replace H : (rotaref25_words.l0 k1 a0 y352 (wrap64 (x5_1 + 1)) (wrap64 (x5_1 + 1))) = some r := by first | (rw [hy352]; with_reducible exact H) | (have H2_ := (Option.bind_some _ _).symm.trans H; rw [hy352]; with_reducible exact H2_) | (have H2_ := (Option.bind_some _ _).symm.trans H; with_reducible exact H2_) | with_reducible exact H | (rw [hy352]; exact H) | exact H
                      have Ny352 := Aside0.mk hy352
                      clear hy352
                      have H' := Aside0.mk H
                      clear H
                      have p13 : 0 ≤ (x5_1 : Int) := of_decide_eq_true (by first | (with_reducible assumption) | assumption)
                      have q13 : x5_1 < (a0.size : Int) := of_decide_eq_true (by first | (with_reducible assumption) | assumption)
                      have hx13 := bt_at a0 x5_1
                      replace p13 := eq_true p13
                      replace q13 := eq_true q13
                      go_wp2_with (first | ((with_reducible refine gate_builtin (b := .append) (xs := #[.tmp 23, .tmp 28]) rfl ?_); at_builtin; refine Kd.R_append Kd.string (w0 := w) w.heap.size rfl (.tmp 23) (.tmp 28) 51 9 (.string ⟨#[]⟩) 16 rfl Tryd.underlying51 info9 rfl (by decide) (by omega) u3 x3_1 (a0.extract (x4_1 : Int).toNat (x5_1 : Int).toNat) [.string (a0.extract (x4_1 : Int).toNat (x5_1 : Int).toNat)] (fun _ => True) (fun _ => False) rfl rfl ?aP (fun _ hk => hk.elim) ?aF ?aO ?aB ?aS ?aL ?_; (case aP => exact rfl); (case aB => exact (by repeat (first | (with_reducible first | exact HB.out | apply below_alloc | apply pw_below_drewN | apply below_drew1) | exact HB.out))); (case aF => exact (fun _ _ => trivial)); (case aO => exact (by (with_reducible repeat (first | apply Kd.R_alloc | apply Kd.R_drewN | apply Kd.R_drew)); exact HO_3.out)); (case aS => exact (below_size (by repeat (first | (with_reducible first | exact HB.out | apply below_alloc | apply pw_below_drewN | apply below_drew1) | exact HB.out)))); (case aL => have := LMc18.out; omega); intro v353 w19 ho hb hg hat; rw [← Ny352.out] at ho; have n0_ := Aside0.mk (hb); have n1_ := Aside0.mk (ho); clear HB; clear HO_3; have HB := n0_; have HO354 := n1_; clear n0_ n1_; clear ho hb hg hat))
                      go_roundg k1
                      case measure => have := HK1.out; omega
                      case rel => exact ⟨(y352), (wrap64 (x5_1 + 1)), (wrap64 (x5_1 + 1)), (by first | rfl | (simp; done) | (simp [*]; done)), (by first | rfl | (simp; done) | (simp [*]; done)), H', ⟨by have := HK1.out; omega⟩, ⟨by (with_reducible repeat (first | apply Kd.R_alloc | apply Kd.R_drewN | apply Kd.R_drew)); exact HO354.out⟩, ⟨by repeat (first | (with_reducible first | exact HB.out | apply below_alloc | apply pw_below_drewN | apply below_drew1) | exact HB.out)⟩⟩
                    · rw [if_neg c18] at H
                      exact absurd H (by simp)
                  · rw [if_neg c16] at H
                    exact absurd H (by simp)
                · rw [if_neg c15] at H
                  exact absurd H (by simp)
              · rw [if_neg c14] at H
                have c14b0 : ((bt a0 x5_1) == 32) = false := beq_eq_false_iff_ne.mpr c14
                have c14b1 : ((bt a0 x5_1) != 32) = true := bne_iff_ne.mpr c14
                have H' := Aside0.mk H
                clear H
                have p13 : 0 ≤ (x5_1 : Int) := of_decide_eq_true (by first | (with_reducible assumption) | assumption)
                have q13 : x5_1 < (a0.size : Int) := of_decide_eq_true (by first | (with_reducible assumption) | assumption)
                have hx13 := bt_at a0 x5_1
                replace p13 := eq_true p13
                replace q13 := eq_true q13
                go_wp2
                go_roundg k1
                case measure => have := HK1.out; omega
                case rel => exact ⟨(x3_1), (x4_1), (wrap64 (x5_1 + 1)), (by first | rfl | (simp; done) | (simp [*]; done)), (by first | rfl | (simp; done) | (simp [*]; done)), H', ⟨by have := HK1.out; omega⟩, ⟨by (with_reducible repeat (first | apply Kd.R_alloc | apply Kd.R_drewN | apply Kd.R_drew)); exact HO_3.out⟩, ⟨by repeat (first | (with_reducible first | exact HB.out | apply below_alloc | apply pw_below_drewN | apply below_drew1) | exact HB.out)⟩⟩
            · rw [if_neg c12] at H
              exact absurd H (by simp)
          · rw [if_neg c11] at H
            exact absurd H (by simp)
      · rw [if_neg c4] at H
        have c4b0 : decide (x5_1 ≤ (a0.size : Int)) = false := decide_eq_false c4
        clear c4
        obtain rfl := Option.some.inj H
        go_wp2
        go_ret
        exact ⟨_, by first | rfl | (simp [errW_none, errW_some] <;> rfl) | (simp [*, errW_none, errW_some] <;> rfl), by (with_reducible repeat (first | apply Kd.R_alloc | apply Kd.R_drewN | apply Kd.R_drew)); exact HO_3.out, by repeat (first | (with_reducible first | exact HB.out | apply below_alloc | apply pw_below_drewN | apply below_drew1) | exact HB.out)⟩

end Go.Proofs.YtphbepddhhdhmaaDoor.GA
end

section
-- laid by a program of this session (wip/gp.sh)
namespace Go.Proofs.YtphbepddhhdhmaaDoor.GA
open Go.RowKit Go.Proofs.YtphbepddhhdhmaaDoorW.PrintWords Go.Proofs.YtphbepddhhdhmaaDoorW.PrintLast Go.Proofs.YtphbepddhhdhmaaDoorW.PrintMore
attribute [local go_sem] max2_int min2_int max_two min_two max_three min_three max_four min_four   -- for this text's walks alone
set_option linter.unusedVariables false
set_option linter.unusedSimpArgs false

/-! ### rotaref25_digits: function 57 -/
def rotaref25_digits.l0 : Nat → ByteArray → Int → Int → Option (Int)
  | 0, _, _, _ => none
  | k + 1, x0, x3, x4 => if x4 < (x0.size : Int) then (if 0 ≤ x4 then (rotaref25_digits.l0 k x0 (IntKind.u64.wrap ((IntKind.u64.wrap ((IntKind.u64.wrap (x3 * 10)) + (IntKind.u64.wrap (bt x0 x4)))) - 48)) (wrap64 (x4 + 1))) else (none)) else (some x3)
def rotaref25_digits.f (k : Nat) (a0 : ByteArray) : Option (Int) := rotaref25_digits.l0 k a0 0 0
theorem rotaref25_digits.mono_l : ∀ k, (∀ y0 y1 y2, LeO (rotaref25_digits.l0 k y0 y1 y2) (rotaref25_digits.l0 (k + 1) y0 y1 y2))
  | 0 => fun _ _ _ r h => by simp [rotaref25_digits.l0] at h
  | k + 1 => by
    have ih0 := rotaref25_digits.mono_l k
    · intro y0 y1 y2
      unfold rotaref25_digits.l0
      repeat' first
      | (with_reducible exact ih0 _ _ _)
      | (with_reducible exact LeO.refl _)
      | (with_reducible exact LeO.none _)
      | (with_reducible refine LeO.ite ?_ ?_)
      | (with_reducible refine LeO.bind ?_ (fun _ => ?_))
      | exact ih0 _ _ _
      | exact LeO.none _
      | refine LeO.ite ?_ ?_
      | refine LeO.bind ?_ (fun _ => ?_)
theorem rotaref25_digits.mono : ∀ a0 k, LeO (rotaref25_digits.f k a0) (rotaref25_digits.f (k + 1) a0) := by
  intro a0 k
  have ih0 := rotaref25_digits.mono_l k
  unfold rotaref25_digits.f
  repeat' first
      | (with_reducible exact ih0 _ _ _)
      | (with_reducible exact LeO.refl _)
      | (with_reducible exact LeO.none _)
      | (with_reducible refine LeO.ite ?_ ?_)
      | (with_reducible refine LeO.bind ?_ (fun _ => ?_))
      | exact ih0 _ _ _
      | exact LeO.none _
      | refine LeO.ite ?_ ?_
      | refine LeO.bind ?_ (fun _ => ?_)
set_option maxHeartbeats 8000000 in
set_option maxRecDepth 100000 in
theorem rotaref25_digits.calls (k : Nat) (a0 : ByteArray) (r : Int) (w : World) (h : rotaref25_digits.f k a0 = some r) :
    Calls Tryd.prog 57 #[.string a0] w fun e w' => e = .returned (.int .u64 r) ∧ Drawn0 w w' := by
  have H : (rotaref25_digits.l0 k a0 0 0) = some r := h
  clear h
  have H' := Aside0.mk H
  clear H
  go_enter Tryd.func57, Tryd.ntmps57
  go_wp2
  go_loopg [3, 4] k (fun kq v3 v4 w' => ∃ (x3_1 : Int) (x4_1 : Int), v3 = .int .u64 x3_1 ∧ v4 = .int .i64 x4_1 ∧ Aside0 (rotaref25_digits.l0 kq a0 x3_1 x4_1 = some r) ∧ Aside0 (kq ≤ k) ∧ Drawn0 w w')
  case atStart => exact ⟨(0), (0), (by first | rfl | (simp; done) | (simp [*]; done)), (by first | rfl | (simp; done) | (simp [*]; done)), H', ⟨Nat.le_refl _⟩, by repeat (first | exact Drawn0.refl _ | apply Drawn0.step)⟩
  case round =>
    clear H'
    obtain ⟨x3_1, x4_1, rfl, rfl, HA, HK1, ⟨m1, rfl⟩⟩ := hrel
    cases gk with
    | zero => exact absurd HA.out (by simp [rotaref25_digits.l0])
    | succ k1 =>
      have H := HA.out
      clear HA
      simp only [rotaref25_digits.l0] at H
      by_cases c2 : x4_1 < (a0.size : Int)
      · rw [if_pos c2] at H
        have c2b0 : decide (x4_1 < (a0.size : Int)) = true := decide_eq_true c2
        clear c2
        by_cases c3 : 0 ≤ x4_1
        · rw [if_pos c3] at H
          have c3b0 : decide (0 ≤ x4_1) = true := decide_eq_true c3
          clear c3
          have H' := Aside0.mk H
          clear H
          have p4 : 0 ≤ (x4_1 : Int) := of_decide_eq_true (by first | (with_reducible assumption) | assumption)
          have q4 : x4_1 < (a0.size : Int) := of_decide_eq_true (by first | (with_reducible assumption) | assumption)
          have hx4 := bt_at a0 x4_1
          replace p4 := eq_true p4
          replace q4 := eq_true q4
          go_wp2
          go_roundg k1
          case measure => have := HK1.out; omega
          case rel => exact ⟨(IntKind.u64.wrap ((IntKind.u64.wrap ((IntKind.u64.wrap (x3_1 * 10)) + (IntKind.u64.wrap (bt a0 x4_1)))) - 48)), (wrap64 (x4_1 + 1)), (by first | rfl | (simp; done) | (simp [*]; done)), (by first | rfl | (simp; done) | (simp [*]; done)), H', ⟨by have := HK1.out; omega⟩, by repeat (first | exact Drawn0.refl _ | apply Drawn0.step)⟩
        · rw [if_neg c3] at H
          exact absurd H (by simp)
      · rw [if_neg c2] at H
        have c2b0 : decide (x4_1 < (a0.size : Int)) = false := decide_eq_false c2
        clear c2
        obtain rfl := Option.some.inj H
        go_wp2
        go_ret
        exact ⟨by first | rfl | (simp; done) | (simp [*]; done), by repeat (first | exact Drawn0.refl _ | apply Drawn0.step)⟩

end Go.Proofs.YtphbepddhhdhmaaDoor.GA
end

section
-- laid by a program of this session (wip/gp.sh)
namespace Go.Proofs.YtphbepddhhdhmaaDoor.GA
open Go.RowKit Go.Proofs.YtphbepddhhdhmaaDoorW.PrintWords Go.Proofs.YtphbepddhhdhmaaDoorW.PrintLast Go.Proofs.YtphbepddhhdhmaaDoorW.PrintMore
attribute [local go_sem] max2_int min2_int max_two min_two max_three min_three max_four min_four   -- for this text's walks alone
set_option linter.unusedVariables false
set_option linter.unusedSimpArgs false

/-! ### rotaref25_signed: function 58 -/
def rotaref25_signed.j0 : Nat → ByteArray → Bool → Option (Int)
  | 0, _, _ => none
  | k + 1, x0, x10 => if x10 = true then (if 1 ≤ (x0.size : Int) then ((rotaref25_digits.f k (x0.extract 1 x0.size)).bind fun t355 => (some (wrap64 (IntKind.u64.wrap (-t355))))) else (none)) else ((rotaref25_digits.f k x0).bind fun t356 => (some (wrap64 (t356))))
def rotaref25_signed.f (k : Nat) (a0 : ByteArray) : Option (Int) := if (a0.size : Int) > 0 then (if 0 < (a0.size : Int) then (rotaref25_signed.j0 k a0 ((bt a0 0) == 45)) else (none)) else (rotaref25_signed.j0 k a0 false)
theorem rotaref25_signed.mono_l : ∀ k, (∀ y0 y1, LeO (rotaref25_signed.j0 k y0 y1) (rotaref25_signed.j0 (k + 1) y0 y1))
  | 0 => fun _ _ r h => by simp [rotaref25_signed.j0] at h
  | k + 1 => by
    have ih0 := rotaref25_signed.mono_l k
    · intro y0 y1
      unfold rotaref25_signed.j0
      repeat' first
      | (with_reducible exact ih0 _ _)
      | (with_reducible exact rotaref25_digits.mono _ _)
      | (with_reducible exact LeO.refl _)
      | (with_reducible exact LeO.none _)
      | (with_reducible refine LeO.ite ?_ ?_)
      | (with_reducible refine LeO.bind ?_ (fun _ => ?_))
      | exact ih0 _ _
      | exact rotaref25_digits.mono _ _
      | exact LeO.none _
      | refine LeO.ite ?_ ?_
      | refine LeO.bind ?_ (fun _ => ?_)
theorem rotaref25_signed.mono : ∀ a0 k, LeO (rotaref25_signed.f k a0) (rotaref25_signed.f (k + 1) a0) := by
  intro a0 k
  have ih0 := rotaref25_signed.mono_l k
  unfold rotaref25_signed.f
  repeat' first
      | (with_reducible exact ih0 _ _)
      | (with_reducible exact rotaref25_digits.mono _ _)
      | (with_reducible exact LeO.refl _)
      | (with_reducible exact LeO.none _)
      | (with_reducible refine LeO.ite ?_ ?_)
      | (with_reducible refine LeO.bind ?_ (fun _ => ?_))
      | exact ih0 _ _
      | exact rotaref25_digits.mono _ _
      | exact LeO.none _
      | refine LeO.ite ?_ ?_
      | refine LeO.bind ?_ (fun _ => ?_)
set_option maxHeartbeats 8000000 in
set_option maxRecDepth 100000 in
theorem rotaref25_signed.calls (k : Nat) (a0 : ByteArray) (r : Int) (w : World) (h : rotaref25_signed.f k a0 = some r) :
    Calls Tryd.prog 58 #[.string a0] w fun e w' => e = .returned (.int .i64 r) ∧ Drawn0 w w' := by
  have H : (if (a0.size : Int) > 0 then (if 0 < (a0.size : Int) then (rotaref25_signed.j0 k a0 ((bt a0 0) == 45)) else (none)) else (rotaref25_signed.j0 k a0 false)) = some r := h
  clear h
  have HC2 := Aside0.mk H
  clear H
  go_enter Tryd.func58, Tryd.ntmps58
  go_upto_region 1 with (fail)
  go_cut [10] (fun v10 wc => ∃ (kq : Nat) (x10_1 : Bool), v10 = .bool x10_1 ∧ Aside0 (rotaref25_signed.j0 kq a0 x10_1 = some r) ∧ Aside0 (kq ≤ k) ∧ Drawn0 w wc)
  case first =>
    have H := HC2.out
    clear HC2
    by_cases c3 : (a0.size : Int) > 0
    · rw [if_pos c3] at H
      have c3b0 : decide (0 < (a0.size : Int)) = true := decide_eq_true c3
      have c3b1 : decide (0 < a0.size) = true := decide_eq_true (by omega)
      clear c3
      (first | rw [c3b0] | (simp only [i64_w, i32_w]; rw [c3b0]) | skip)
      by_cases c4 : 0 < (a0.size : Int)
      · rw [if_pos c4] at H
        have c4b0 : decide (0 < (a0.size : Int)) = true := decide_eq_true c4
        have c4b1 : decide (0 < a0.size) = true := decide_eq_true (by omega)
        clear c4
        have H' := Aside0.mk H
        clear H
        have p5 : 0 ≤ (0 : Int) := (by omega)
        have q5 : 0 < a0.size := (by have : (0 : Int) < (a0.size : Int) := of_decide_eq_true (by first | (with_reducible assumption) | assumption); omega)
        have hx5 : ∀ h : 0 < a0.size, ((a0[0]'h).toNat : Int) = bt a0 0 := bt_at a0 0
        clear p5
        have qi5 : (0 < (a0.size : Int)) = True := eq_true (of_decide_eq_true (by first | (with_reducible assumption) | assumption))
        replace q5 := eq_true q5
        go_wp2
        go_meet
        case rel => exact ⟨_, (((bt a0 0) == 45)), (by first | rfl | (simp; done) | (simp [*]; done)), H', ⟨by first | omega | exact Nat.le_refl _⟩, by repeat (first | exact Drawn0.refl _ | apply Drawn0.step)⟩
      · rw [if_neg c4] at H
        exact absurd H (by simp)
    · rw [if_neg c3] at H
      have c3b0 : decide (0 < (a0.size : Int)) = false := decide_eq_false c3
      have c3b1 : decide (0 < a0.size) = false := decide_eq_false (by omega)
      clear c3
      (first | rw [c3b0] | (simp only [i64_w, i32_w]; rw [c3b0]) | skip)
      have H' := Aside0.mk H
      clear H
      go_wp2
      go_meet
      case rel => exact ⟨_, (false), (by first | rfl | (simp; done) | (simp [*]; done)), H', ⟨by first | omega | exact Nat.le_refl _⟩, by repeat (first | exact Drawn0.refl _ | apply Drawn0.step)⟩
  case rest =>
    clear HC2
    try clear p2
    try clear c3
    try clear c3b0
    try clear c3b1
    try clear c4
    try clear c4b0
    try clear c4b1
    try clear c5
    try clear p5
    try clear q5
    try clear hx5
    try clear qi5
    try clear p5
    try clear q5
    obtain ⟨kq, x10_1, rfl, HA, HJ1, ⟨mc1, rfl⟩⟩ := hcut
    cases kq with
    | zero => exact absurd HA.out (by simp [rotaref25_signed.j0])
    | succ kj1 =>
      have H := HA.out
      clear HA
      simp only [rotaref25_signed.j0] at H
      by_cases c6 : x10_1 = true
      · subst c6
        have H1 : (if 1 ≤ (a0.size : Int) then ((rotaref25_digits.f kj1 (a0.extract 1 a0.size)).bind fun t355 => (some (wrap64 (IntKind.u64.wrap (-t355))))) else (none)) = some r := by rw [if_pos rfl] at H; exact H
        clear H
        have H := H1
        clear H1
        by_cases c7 : 1 ≤ (a0.size : Int)
        · rw [if_pos c7] at H
          have c7b0 := eq_true c7
          have c7b1 : decide (1 ≤ (a0.size : Int)) = true := decide_eq_true c7
          clear c7
          replace H := Option.bind_eq_some_iff.mp H
          obtain ⟨t355, A80, H⟩ := H
          replace H : (some (wrap64 (IntKind.u64.wrap (-t355)))) = some r := H
          have A8 := Aside0.mk A80
          clear A80
          obtain rfl := Option.some.inj H
          go_wp2_with (first | ((with_reducible refine gate_callee (f := 57) rfl ?_); refine goesL_ (some 13) rfl rfl Tryd.func57 (by kernel_rfl) rfl #[.string (a0.extract 1 a0.size)] rfl (by (try simp only [List.map_toArray, List.map_cons, List.map_nil]); first | done | rfl | (simp only [List.length_drop, List.length_take]; rfl)) ?_; (with_reducible refine (rotaref25_digits.calls kj1 (a0.extract 1 a0.size) t355 _ A8.out).mono ?_); rintro e w' ⟨rfl, ⟨nd, rfl⟩⟩; refine ⟨_, rfl, ?_⟩))
          go_ret
          exact ⟨by first | rfl | (simp; done) | (simp [*]; done), by repeat (first | exact Drawn0.refl _ | apply Drawn0.step)⟩
        · rw [if_neg c7] at H
          exact absurd H (by simp)
      · replace c6 := Bool.eq_false_iff.mpr c6
        subst c6
        have H1 : ((rotaref25_digits.f kj1 a0).bind fun t356 => (some (wrap64 (t356)))) = some r := by rw [if_neg (show ¬ (false = true) by decide)] at H; exact H
        clear H
        have H := H1
        clear H1
        replace H := Option.bind_eq_some_iff.mp H
        obtain ⟨t356, A90, H⟩ := H
        replace H : (some (wrap64 (t356))) = some r := H
        have A9 := Aside0.mk A90
        clear A90
        obtain rfl := Option.some.inj H
        go_wp2_with (first | ((with_reducible refine gate_callee (f := 57) rfl ?_); refine goesL_ (some 17) rfl rfl Tryd.func57 (by kernel_rfl) rfl #[.string a0] rfl (by (try simp only [List.map_toArray, List.map_cons, List.map_nil]); first | done | rfl | (simp only [List.length_drop, List.length_take]; rfl)) ?_; (with_reducible refine (rotaref25_digits.calls kj1 a0 t356 _ A9.out).mono ?_); rintro e w' ⟨rfl, ⟨nd, rfl⟩⟩; refine ⟨_, rfl, ?_⟩))
        go_ret
        exact ⟨by first | rfl | (simp; done) | (simp [*]; done), by repeat (first | exact Drawn0.refl _ | apply Drawn0.step)⟩

end Go.Proofs.YtphbepddhhdhmaaDoor.GA
end

section
/-
  The frozen reader's digits: always told, and what Print's numerals read as. Plain Lean.
-/
set_option linter.unusedVariables false
set_option linter.unusedSimpArgs false
namespace Go.Proofs.YtphbepddhhdhmaaDoor.Q
open Go.RowKit Go.Proofs.YtphbepddhhdhmaaDoorW.PrintWords Go.Proofs.YtphbepddhhdhmaaDoorW.PrintLast Go.Proofs.YtphbepddhhdhmaaDoorW.PrintMore Go.Proofs.YtphbepddhhdhmaaDoor.GA Num
theorem u64_range (n : Int) : 0 ≤ IntKind.u64.wrap n ∧ IntKind.u64.wrap n < 18446744073709551616 := by rw [IntKind.wrap_u64]; omega
theorem digits_some (s : ByteArray) (hs : s.size < 2 ^ 62) : ∀ (d k i : Nat) (x : Int), s.size ≤ i + d → d < k → (0 ≤ x ∧ x < 18446744073709551616) → ∃ r, rotaref25_digits.l0 k s x (i : Int) = some r ∧ 0 ≤ r ∧ r < 18446744073709551616 := by
  intro d
  induction d with
  | zero =>
    intro k i x h1 h2 hx
    obtain ⟨k, rfl⟩ : ∃ j, k = j + 1 := ⟨k - 1, by omega⟩
    exact ⟨x, by rw [rotaref25_digits.l0, if_neg (by omega)], hx.1, hx.2⟩
  | succ d ih =>
    intro k i x h1 h2 hx
    obtain ⟨k, rfl⟩ : ∃ j, k = j + 1 := ⟨k - 1, by omega⟩
    by_cases hi : i < s.size
    case neg => exact ⟨x, by rw [rotaref25_digits.l0, if_neg (by omega)], hx.1, hx.2⟩
    have w1 : wrap64 ((i : Int) + 1) = ((i + 1 : Nat) : Int) := by
      rw [Int.natCast_add]
      exact IntWalk.wrap64_in _ (by omega)
    obtain ⟨r, hr, h⟩ := ih k (i + 1) (IntKind.u64.wrap ((IntKind.u64.wrap ((IntKind.u64.wrap (x * 10)) + (IntKind.u64.wrap (bt s (i : Int))))) - 48)) (by omega) (by omega) (u64_range _)
    exact ⟨r, by rw [rotaref25_digits.l0, if_pos (by omega), if_pos (by omega), w1, hr], h⟩
theorem bt_nat {s : ByteArray} {i : Nat} {b : UInt8} (h : s.data.toList[i]? = some b) : bt s (i : Int) = (b.toNat : Int) := by
  rw [← rd_bytesOf]
  unfold rd bytesOf
  rw [Int.toNat_natCast, List.getD_eq_getElem?_getD, List.getElem?_map, h]
  rfl
theorem digits_is (s : ByteArray) (hs : s.size < 2 ^ 62) : ∀ (l : List UInt8) (k i acc : Nat), s.data.toList.drop i = l → (∀ b ∈ l, 48 ≤ b.toNat ∧ b.toNat ≤ 57) → dfold acc l < 18446744073709551616 → l.length < k → rotaref25_digits.l0 k s (acc : Int) (i : Int) = some ((dfold acc l : Nat) : Int)
  | [], k, i, acc, h, _, _, hk => by
    obtain ⟨k, rfl⟩ : ∃ j, k = j + 1 := ⟨k - 1, by omega⟩
    have hl : s.size ≤ i := by
      have := List.drop_eq_nil_iff.1 h
      rwa [Array.length_toList] at this
    rw [rotaref25_digits.l0, if_neg (by omega)]; rfl
  | b :: r, k, i, acc, h, hb, hd, hk => by
    obtain ⟨k, rfl⟩ : ∃ j, k = j + 1 := ⟨k - 1, by omega⟩
    have hi : i < s.data.toList.length := by
      rcases Nat.lt_or_ge i s.data.toList.length with h1 | h1
      · exact h1
      · rw [List.drop_eq_nil_of_le h1] at h; cases h
    have hsz : s.data.toList.length = s.size := Array.length_toList
    have hx : s.data.toList[i]? = some b := by
      have := congrArg List.head? h
      rw [List.head?_drop] at this
      exact this
    have hr : s.data.toList.drop (i + 1) = r := by
      have := congrArg List.tail h
      rwa [List.tail_drop] at this
    have w1 : wrap64 ((i : Int) + 1) = ((i + 1 : Nat) : Int) := by
      rw [Int.natCast_add]
      exact IntWalk.wrap64_in _ (by omega)
    obtain ⟨b0, b1⟩ := hb b List.mem_cons_self
    have hle := dfold_le r (dstep acc b)
    rw [dfold_cons] at hd
    have hst : dstep acc b = acc * 10 + (b.toNat - 48) := by unfold dstep; rfl
    have e : IntKind.u64.wrap ((IntKind.u64.wrap ((IntKind.u64.wrap ((acc : Int) * 10)) + (IntKind.u64.wrap (bt s (i : Int))))) - 48) = ((dstep acc b : Nat) : Int) := by
      rw [bt_nat hx, hst]
      simp only [IntKind.wrap_u64]
      omega
    rw [rotaref25_digits.l0, if_pos (by omega), if_pos (by omega), w1, e, digits_is s hs r k (i + 1) _ hr (fun x hx => hb x (List.mem_cons_of_mem _ hx)) hd (by rw [List.length_cons] at hk; omega), dfold_cons]
theorem digits_dec (u k : Nat) (h : u < 18446744073709551616) (hk : 20 < k) : rotaref25_digits.f k (sB (Lib.decDigits u)) = some (u : Int) := by
  have hl := dec_len u h
  have h1 := dfold_dec u u (Nat.le_refl _) []
  rw [List.append_nil] at h1
  have h2 := digits_is (sB (Lib.decDigits u)) (by rw [sB_size]; omega) (Lib.decDigits u) k 0 0 (by simp [sB]) (dec_all u u (Nat.le_refl _)) (by rw [h1]; exact h) (by omega)
  rw [h1] at h2
  exact h2
/-- The frozen Number's inverse. -/
theorem signed_itoa (n : Int) (k : Nat) (h0 : -9223372036854775808 ≤ n) (h1 : n ≤ 9223372036854775807) (hk : 21 < k) : rotaref25_signed.f k (sB (Lib.itoa n)) = some n := by
  obtain ⟨k, rfl⟩ : ∃ j, k = j + 1 := ⟨k - 1, by omega⟩
  by_cases c : n < 0
  · have e : Lib.itoa n = 45 :: Lib.decDigits n.natAbs := by unfold Lib.itoa; rw [if_pos c]
    have hd := digits_dec n.natAbs k (by omega) (by omega)
    have hsz : (sB (Lib.itoa n)).size = (Lib.decDigits n.natAbs).length + 1 := by rw [sB_size, e, List.length_cons]
    have hb : bt (sB (Lib.itoa n)) 0 = 45 := by
      have := bt_nat (s := sB (Lib.itoa n)) (i := 0) (b := 45) (by rw [e]; simp [sB])
      exact this
    have hx : (sB (Lib.itoa n)).extract 1 (sB (Lib.itoa n)).size = sB (Lib.decDigits n.natAbs) := by
      apply ByteArray.ext
      apply Array.toList_inj.1
      rw [hsz, e]
      simp [sB, ByteArray.data_extract]
    have hw : wrap64 (IntKind.u64.wrap (-((n.natAbs : Nat) : Int))) = n := by
      rw [IntKind.wrap_u64]
      unfold wrap64
      omega
    unfold rotaref25_signed.f
    rw [if_pos (by omega), if_pos (by omega), hb]
    simp only [beq_self_eq_true, rotaref25_signed.j0, if_true]
    rw [if_pos (by omega), hx, hd, Option.bind_some, hw]
  · have e : Lib.itoa n = Lib.decDigits n.toNat := by unfold Lib.itoa; rw [if_neg c]
    have hd := digits_dec n.toNat k (by omega) (by omega)
    obtain ⟨d, r, er, e1, e2⟩ := dec_head n.toNat
    have hsz : (sB (Lib.itoa n)).size = (Lib.decDigits n.toNat).length := by rw [sB_size, e]
    have hb : bt (sB (Lib.itoa n)) 0 = (d.toNat : Int) := by
      have := bt_nat (s := sB (Lib.itoa n)) (i := 0) (b := d) (by rw [e, er]; simp [sB])
      exact this
    have hl : (Lib.decDigits n.toNat).length = r.length + 1 := by rw [er, List.length_cons]
    have hw : wrap64 ((n.toNat : Nat) : Int) = n := by
      unfold wrap64
      omega
    have hf : ((d.toNat : Int) == 45) = false := by simp; omega
    unfold rotaref25_signed.f
    rw [if_pos (by omega), if_pos (by omega), hb, hf]
    simp only [rotaref25_signed.j0, Bool.false_eq_true, if_false]
    rw [e, hd, Option.bind_some, hw]
end Go.Proofs.YtphbepddhhdhmaaDoor.Q
end

section
/-
  The frozen reader's words: always told, and what Print's lines part into. Plain Lean.
-/
set_option linter.unusedVariables false
set_option linter.unusedSimpArgs false
namespace Go.Proofs.YtphbepddhhdhmaaDoor.Q
open Go.RowKit Go.Proofs.YtphbepddhhdhmaaDoorW.PrintWords Go.Proofs.YtphbepddhhdhmaaDoorW.PrintLast Go.Proofs.YtphbepddhhdhmaaDoorW.PrintMore Go.Proofs.YtphbepddhhdhmaaDoor.GA Num
/-- Parted at each c; cur: what stands before. -/
def spl (c : UInt8) (cur : List UInt8) : List UInt8 → List (List UInt8)
  | [] => [cur]
  | b :: r => if b = c then cur :: spl c [] r else spl c (cur ++ [b]) r
theorem spl_len (c : UInt8) : ∀ (l cur : List UInt8), (spl c cur l).length ≤ l.length + 1
  | [], cur => by rw [spl]; simp
  | b :: r, cur => by
    rw [spl]
    split
    · have := spl_len c r []
      simp only [List.length_cons]; omega
    · have := spl_len c r (cur ++ [b])
      simp only [List.length_cons]; omega
theorem spl_hit (c : UInt8) : ∀ (p r cur : List UInt8), c ∉ p → spl c cur (p ++ c :: r) = (cur ++ p) :: spl c [] r
  | [], r, cur, _ => by rw [List.nil_append, spl, if_pos rfl, List.append_nil]
  | b :: p, r, cur, h => by
    have hb : ¬ b = c := fun e => h (by rw [e]; exact List.mem_cons_self)
    rw [List.cons_append, spl, if_neg hb, spl_hit c p r (cur ++ [b]) (fun e => h (List.mem_cons_of_mem _ e)), List.append_assoc, List.singleton_append]
theorem spl_end (c : UInt8) : ∀ (p cur : List UInt8), c ∉ p → spl c cur p = [cur ++ p]
  | [], cur, _ => by rw [spl, List.append_nil]
  | b :: p, cur, h => by
    have hb : ¬ b = c := fun e => h (by rw [e]; exact List.mem_cons_self)
    rw [spl, if_neg hb, spl_end c p (cur ++ [b]) (fun e => h (List.mem_cons_of_mem _ e)), List.append_assoc, List.singleton_append]
theorem spl_join (c : UInt8) : ∀ (ps : List (List UInt8)), ps ≠ [] → (∀ p ∈ ps, c ∉ p) → spl c [] (joinC c ps) = ps
  | [], h, _ => absurd rfl h
  | [p], _, h => by rw [joinC, spl_end c p [] (h p List.mem_cons_self), List.nil_append]
  | p :: q :: t, _, h => by
    rw [joinC, spl_hit c p _ [] (h p List.mem_cons_self), List.nil_append, spl_join c (q :: t) (by simp) (fun x hx => h x (List.mem_cons_of_mem _ hx))]
theorem words_is (s : ByteArray) (hs : s.size ≤ 268435457) : ∀ (l : List UInt8) (k i st : Nat) (done : List ByteArray), st ≤ i → i ≤ s.size → s.data.toList.drop i = l → done.length ≤ i → l.length + 1 < k →
    rotaref25_words.l0 k s done (st : Int) (i : Int) = some (done ++ (spl 32 ((s.data.toList.drop st).take (i - st)) l).map sB)
  | [], k, i, st, done, h1, h2, h, hd, hk => by
    obtain ⟨k, rfl⟩ : ∃ j, k = j + 2 := ⟨k - 2, by simp at hk; omega⟩
    have hsz : s.data.toList.length = s.size := Array.length_toList
    have hi : i = s.size := by
      have := List.drop_eq_nil_iff.1 h
      omega
    have w1 : wrap64 ((i : Int) + 1) = ((i + 1 : Nat) : Int) := by
      rw [Int.natCast_add]
      exact IntWalk.wrap64_in _ (by omega)
    have hx : s.extract (st : Int).toNat (i : Int).toNat = sB ((s.data.toList.drop st).take (i - st)) := by
      apply ByteArray.ext
      apply Array.toList_inj.1
      rw [Int.toNat_natCast, Int.toNat_natCast]
      simp [sB, ByteArray.data_extract, Array.toList_extract, List.extract]
    rw [rotaref25_words.l0, if_pos (by omega), if_pos (by omega), if_pos (by omega), if_pos (by omega), if_pos (by omega), w1, rotaref25_words.l0, if_neg (by omega), hx, spl]
    rfl
  | b :: r, k, i, st, done, h1, h2, h, hd, hk => by
    obtain ⟨k, rfl⟩ : ∃ j, k = j + 1 := ⟨k - 1, by omega⟩
    have hsz : s.data.toList.length = s.size := Array.length_toList
    have hi : i < s.data.toList.length := by
      rcases Nat.lt_or_ge i s.data.toList.length with h1 | h1
      · exact h1
      · rw [List.drop_eq_nil_of_le h1] at h; cases h
    have hb : s.data.toList[i]? = some b := by
      have := congrArg List.head? h
      rw [List.head?_drop] at this
      exact this
    have hr : s.data.toList.drop (i + 1) = r := by
      have := congrArg List.tail h
      rwa [List.tail_drop] at this
    have w1 : wrap64 ((i : Int) + 1) = ((i + 1 : Nat) : Int) := by
      rw [Int.natCast_add]
      exact IntWalk.wrap64_in _ (by omega)
    have hx : s.extract (st : Int).toNat (i : Int).toNat = sB ((s.data.toList.drop st).take (i - st)) := by
      apply ByteArray.ext
      apply Array.toList_inj.1
      rw [Int.toNat_natCast, Int.toNat_natCast]
      simp [sB, ByteArray.data_extract, Array.toList_extract, List.extract]
    have hk' : r.length + 1 < k := by rw [List.length_cons] at hk; omega
    rw [rotaref25_words.l0, if_pos (by omega), if_neg (by omega), if_pos (by omega), if_pos (by omega), bt_nat hb, spl]
    by_cases c : b = 32
    · subst c
      rw [if_pos (by rfl), if_pos rfl, if_pos (by omega), if_pos (by omega), if_pos (by omega), w1, hx, words_is s hs r k (i + 1) (i + 1) _ (Nat.le_refl _) (by omega) hr (by simp; omega) hk']
      simp
    · have c2 : ¬ (b.toNat : Int) = 32 := fun e => by
        have e2 : b.toNat = (32 : UInt8).toNat := by
          have e3 : (32 : UInt8).toNat = 32 := rfl
          omega
        exact c (UInt8.toNat_inj.1 e2)
      have ht : (s.data.toList.drop st).take (i + 1 - st) = (s.data.toList.drop st).take (i - st) ++ [b] := by
        have e : i + 1 - st = (i - st) + 1 := by omega
        rw [e, List.take_add_one, List.getElem?_drop, show st + (i - st) = i by omega, hb]
        rfl
      rw [if_neg c2, if_neg c, w1, words_is s hs r k (i + 1) st done (by omega) (by omega) hr (by omega) hk', ht]
theorem words_f (s : ByteArray) (hs : s.size ≤ 268435457) (k : Nat) (hk : s.size + 1 < k) : rotaref25_words.f k s = some ((spl 32 [] s.data.toList).map sB) := by
  have hsz : s.data.toList.length = s.size := Array.length_toList
  have := words_is s hs s.data.toList k 0 0 [] (Nat.le_refl _) (Nat.zero_le _) rfl (Nat.le_refl _) (by omega)
  unfold rotaref25_words.f
  simpa using this
theorem w64_range (n : Int) : -9223372036854775808 ≤ wrap64 n ∧ wrap64 n ≤ 9223372036854775807 := by unfold wrap64; omega
/-- The frozen signed number is always told. -/
theorem signed_some (s : ByteArray) (hs : s.size < 2 ^ 62) (k : Nat) (hk : s.size + 2 < k) : ∃ r, rotaref25_signed.f k s = some r ∧ -9223372036854775808 ≤ r ∧ r ≤ 9223372036854775807 := by
  obtain ⟨k, rfl⟩ : ∃ j, k = j + 1 := ⟨k - 1, by omega⟩
  have j0 : ∀ b : Bool, (b = true → 1 ≤ (s.size : Int)) → ∃ r, rotaref25_signed.j0 (k + 1) s b = some r ∧ -9223372036854775808 ≤ r ∧ r ≤ 9223372036854775807 := by
    intro b hb
    cases b
    · obtain ⟨r, hr, _⟩ := digits_some s hs s.size k 0 0 (by omega) (by omega) (by omega)
      have hr' : rotaref25_digits.f k s = some r := hr
      exact ⟨wrap64 r, by rw [rotaref25_signed.j0, if_neg (by decide), hr', Option.bind_some], w64_range _⟩
    · have hsz : (s.extract 1 s.size).size ≤ s.size := by simp only [ByteArray.size_extract]; omega
      obtain ⟨r, hr, _⟩ := digits_some (s.extract 1 s.size) (by omega) s.size k 0 0 (by omega) (by omega) (by omega)
      have hr' : rotaref25_digits.f k (s.extract 1 s.size) = some r := hr
      exact ⟨wrap64 (IntKind.u64.wrap (-r)), by rw [rotaref25_signed.j0, if_pos rfl, if_pos (hb rfl), hr', Option.bind_some], w64_range _⟩
  unfold rotaref25_signed.f
  by_cases c : (s.size : Int) > 0
  · rw [if_pos c, if_pos (by omega)]
    exact j0 _ (fun _ => by omega)
  · rw [if_neg c]
    exact j0 _ (fun h => by cases h)
end Go.Proofs.YtphbepddhhdhmaaDoor.Q
end

section
/-
  What the frozen reader calls, over a call's own memory; what a valid line's pieces read as there.
-/
set_option linter.unusedVariables false
set_option linter.unusedSimpArgs false
namespace Go.Proofs.YtphbepddhhdhmaaDoor.Hof
open Go.RowKit Go.Shelf Go.Proofs.YtphbepddhhdhmaaDoorW.PrintWords Go.Proofs.YtphbepddhhdhmaaDoorW.PrintLast Go.Proofs.YtphbepddhhdhmaaDoorW.PrintMore GA Hctx Num Q
/-- The frozen reader's words of a line. -/
def wds (s : ByteArray) : List ByteArray := (Q.spl 32 [] s.data.toList).map sB
theorem wds_ne (s : ByteArray) : wds s ≠ [] := by
  unfold wds
  intro h
  rw [List.map_eq_nil_iff] at h
  have key : ∀ (l cur : List UInt8), Q.spl 32 cur l ≠ [] := by
    intro l
    induction l with
    | nil => intro cur; rw [Q.spl]; simp
    | cons b r ih => intro cur; rw [Q.spl]; split <;> simp [ih]
  exact key _ _ h
theorem wds_size {s p : ByteArray} (h : p ∈ wds s) : p.size ≤ s.size := by
  unfold wds at h
  obtain ⟨q, hq, rfl⟩ := List.mem_map.1 h
  have key : ∀ (l cur : List UInt8), ∀ q ∈ Q.spl 32 cur l, q.length ≤ cur.length + l.length := by
    intro l
    induction l with
    | nil => intro cur q hq; rw [Q.spl, List.mem_singleton] at hq; rw [hq]; simp
    | cons b r ih =>
      intro cur q hq
      rw [Q.spl] at hq
      split at hq
      · rcases List.mem_cons.1 hq with rfl | hq
        · simp
        · have := ih [] q hq; simp at this ⊢; omega
      · have := ih (cur ++ [b]) q hq; simp at this ⊢; omega
  have := key _ _ q hq
  rw [sB_size]
  have hs : s.data.toList.length = s.size := Array.length_toList
  simp at this; omega
section
variable {es : List TypeId} {w0 W : World} {l : List (Nat × Array Value × TypeId)} {rows : List Row}
theorem words_mem (M : Aside0 (Mem es w0 W l rows)) (s : ByteArray) (hs : s.size ≤ 268435457) (ht : 9 ∉ es) :
    Calls Tryd.prog 56 #[.string s] W fun e W' => ∃ g cur c, e = .returned (.slice (some ⟨g, 0, none⟩) (wds s).length c) ∧ Aside0 (Mem es w0 W' (l ++ [(g, cur, 9)]) rows) ∧ ∀ (i : Nat) p, (wds s)[i]? = some p → cur[i]? = some (.string p) := by
  refine (rotaref25_words.calls (s.size + 2) s (wds s) W (Q.words_f s hs _ (by omega))).mono ?_
  rintro e W' ⟨v, rfl, hR, hb⟩
  obtain ⟨g, cur, c, rfl, M1, hc⟩ := strings_box M hR hb ht (wds_ne s)
  exact ⟨g, cur, c, rfl, M1, hc⟩
theorem names_mem (M : Aside0 (Mem es w0 W l rows)) (ht : 9 ∉ es) :
    Calls Tryd.prog 32 #[] W fun e W' => ∃ g cur c, e = .returned (.slice (some ⟨g, 0, none⟩) 36 c) ∧ Aside0 (Mem es w0 W' (l ++ [(g, cur, 9)]) rows) ∧ ∀ (i : Nat), i < 36 → cur[i]? = some (.string (Laid.nameAt i)) := by
  obtain ⟨ns, hn, rfl⟩ := Q.names36
  refine (rotaref25_names.calls Laid.names W hn).mono ?_
  rintro e W' ⟨v, rfl, hR, hb⟩
  obtain ⟨g, cur, c, rfl, M1, hc⟩ := strings_box M hR hb ht (by decide)
  refine ⟨g, cur, c, rfl, M1, fun i hi => hc i _ ?_⟩
  unfold Laid.nameAt
  have hl : Laid.names.length = 36 := rfl
  rw [List.getD_eq_getElem?_getD, List.getElem?_eq_getElem (by omega)]
  rfl
end
theorem digits_tot (s : ByteArray) (hs : s.size ≤ 268435457) (k : Nat) (hk : s.size + 2 < k) : ∃ r, rotaref25_digits.f k s = some r ∧ 0 ≤ r ∧ r < 18446744073709551616 :=
  Q.digits_some s (by omega) s.size k 0 0 (by omega) (by omega) (by omega)
theorem line_wds (x : S36) (hx : EvOk x) : wds (sB (lineE x)) = (piecesE x).map sB := by
  unfold wds
  have e : (sB (lineE x)).data.toList = lineE x := by simp [sB]
  rw [e, line_join, Q.spl_join 32 (piecesE x) (by simp [piecesE]) (pieces_no x hx 32 (.inl rfl))]
theorem valid_eight2 {s : ByteArray} {x : S36} (h : Valid s x) : (wds s).length = 8 := by
  obtain ⟨hx, _, rfl⟩ := h
  rw [line_wds x hx]; rfl
/-- What the frozen reader reads of a valid line is its event. -/
theorem valid_same2 {s p0 p1 p2 p3 p4 p5 p6 p7 : ByteArray} {k : Nat} (hk : 30 < k) {u x1 x2 x3 y1 y2 y3 : Int} (hp : wds s = [p0, p1, p2, p3, p4, p5, p6, p7]) (hu : rotaref25_digits.f k p0 = some u)
    (h1 : rotaref25_signed.f k p1 = some x1) (h2 : rotaref25_signed.f k p2 = some x2) (h3 : rotaref25_signed.f k p3 = some x3) (h5 : rotaref25_signed.f k p5 = some y1) (h6 : rotaref25_signed.f k p6 = some y2) (h7 : rotaref25_signed.f k p7 = some y3)
    (y : S36) (hy : Valid s y) : (⟨u, x1, ⟨x2, x3⟩, kindOf p4 36, y1, y2, y3⟩ : S36) = y := by
  obtain ⟨hx, _, rfl⟩ := hy
  have hl := line_wds y hx
  rw [hp] at hl
  simp only [piecesE, List.map_cons, List.map_nil, List.cons.injEq, and_true] at hl
  obtain ⟨e0, e1, e2, e3, e4, e5, e6, e7⟩ := hl
  obtain ⟨⟨a0, a1⟩, a2, a3, a4, ⟨a5, a6⟩, a7, a8, a9⟩ := hx
  rw [e0, Q.digits_dec _ k (by omega) (by omega)] at hu
  rw [e1, Q.signed_itoa _ k a2.1 a2.2 (by omega)] at h1
  rw [e2, Q.signed_itoa _ k a3.1 a3.2 (by omega)] at h2
  rw [e3, Q.signed_itoa _ k a4.1 a4.2 (by omega)] at h3
  rw [e5, Q.signed_itoa _ k a7.1 a7.2 (by omega)] at h5
  rw [e6, Q.signed_itoa _ k a8.1 a8.2 (by omega)] at h6
  rw [e7, Q.signed_itoa _ k a9.1 a9.2 (by omega)] at h7
  have q0 := Option.some.inj hu
  have q1 := Option.some.inj h1
  have q2 := Option.some.inj h2
  have q3 := Option.some.inj h3
  have q5 := Option.some.inj h5
  have q6 := Option.some.inj h6
  have q7 := Option.some.inj h7
  have e4' : p4 = Laid.nameAt (y.f3 - 1).toNat := by
    rw [e4]; simp [sB, nameL]
  have q4 : kindOf p4 36 = y.f3 := by
    rw [e4', kind_is (y.f3 - 1).toNat (by omega) 36 (by omega) (by omega)]
    omega
  have q0' : u = y.f0 := by omega
  rw [q0', q4, ← q1, ← q2, ← q3, ← q5, ← q6, ← q7]
theorem perm4 {α : Type} (a b c d : α) : [a, b, c, d].Perm [c, b, d, a] :=
  (List.perm_middle (l₁ := [a, b])).trans (List.Perm.cons c (List.perm_append_comm (l₁ := [a]) (l₂ := [b, d])))
theorem list8c {l : List ByteArray} {cur : Array Value} {p0 p1 p2 p3 p4 p5 p6 p7 : ByteArray} (hp : l = [p0, p1, p2, p3, p4, p5, p6, p7]) (h : ∀ (i : Nat) p, l[i]? = some p → cur[i]? = some (.string p)) :
    cur[0]? = some (.string p0) ∧ cur[1]? = some (.string p1) ∧ cur[2]? = some (.string p2) ∧ cur[3]? = some (.string p3) ∧ cur[4]? = some (.string p4) ∧ cur[5]? = some (.string p5) ∧ cur[6]? = some (.string p6) ∧ cur[7]? = some (.string p7) := by
  subst hp
  exact ⟨h 0 _ rfl, h 1 _ rfl, h 2 _ rfl, h 3 _ rfl, h 4 _ rfl, h 5 _ rfl, h 6 _ rfl, h 7 _ rfl⟩
end Go.Proofs.YtphbepddhhdhmaaDoor.Hof
end
