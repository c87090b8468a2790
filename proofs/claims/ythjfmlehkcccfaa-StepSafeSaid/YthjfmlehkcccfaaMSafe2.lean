import Derived.Test.YthjfmlehkcccfaaMSafe1
import Derived.Test.YthjfmlehkcccfaaMSafe0
import Derived.Deep.QuietTactic
import Derived.BigQuiet
import Derived.Deep.MidRow
import Derived.Lib.Hide
import Derived.Deep.RegionHeld3
import Derived.WalkKit
section
-- laid by a program of this session (wip/gp.sh)
namespace Go.Proofs.Ythjfmlehkcccfaa.GA
open Go.RowKit Go.Proofs.YthjfmlehkcccfaaW.PrintWords Go.Proofs.YthjfmlehkcccfaaW.PrintLast Go.Proofs.YthjfmlehkcccfaaW.PrintMore
attribute [local go_sem] max2_int min2_int max_two min_two max_three min_three max_four min_four   -- for this text's walks alone
set_option linter.unusedVariables false
set_option linter.unusedSimpArgs false

/-! ### rotaref09_calls: function 33 -/
def rotaref09_calls.l0 : Nat → List Int → List Int → Int → Option (List Int)
  | 0, _, _, _ => none
  | k + 1, x0, x3, x4 => if x4 < (x0.length : Int) then (if 0 ≤ x4 then (if x3.length < 17592186044416 then (rotaref09_calls.l0 k x0 (x3 ++ [rd x0 x4]) (wrap64 (x4 + 1))) else (none)) else (none)) else (some x3)
def rotaref09_calls.f (k : Nat) (l0 : List Int) : Option (List Int) := rotaref09_calls.l0 k l0 (([] : List Int)) 0
theorem rotaref09_calls.mono_l : ∀ k, (∀ y0 y1 y2, LeO (rotaref09_calls.l0 k y0 y1 y2) (rotaref09_calls.l0 (k + 1) y0 y1 y2))
  | 0 => fun _ _ _ r h => by simp [rotaref09_calls.l0] at h
  | k + 1 => by
    have ih0 := rotaref09_calls.mono_l k
    · intro y0 y1 y2
      unfold rotaref09_calls.l0
      repeat' first
      | (with_reducible exact ih0 _ _ _)
      | (with_reducible exact LeO.refl _)
      | (with_reducible exact LeO.none _)
      | (with_reducible refine LeO.ite ?_ ?_)
      | (with_reducible refine LeO.bind ?_ (fun _ => ?_))
      | exact ih0 _ _ _
      | exact LeO.none _
      | refine LeO.ite ?_ ?_
      | refine LeO.bind ?_ (fun _ => ?_)
theorem rotaref09_calls.mono : ∀ a0 k, LeO (rotaref09_calls.f k a0) (rotaref09_calls.f (k + 1) a0) := by
  intro a0 k
  have ih0 := rotaref09_calls.mono_l k
  unfold rotaref09_calls.f
  repeat' first
      | (with_reducible exact ih0 _ _ _)
      | (with_reducible exact LeO.refl _)
      | (with_reducible exact LeO.none _)
      | (with_reducible refine LeO.ite ?_ ?_)
      | (with_reducible refine LeO.bind ?_ (fun _ => ?_))
      | exact ih0 _ _ _
      | exact LeO.none _
      | refine LeO.ite ?_ ?_
      | refine LeO.bind ?_ (fun _ => ?_)
set_option maxHeartbeats 8000000 in
set_option maxRecDepth 100000 in
theorem rotaref09_calls.calls (k : Nat) (A0 : Option Addr) (c0 : Nat) (l0 : List Int) (r : List Int) (w : World) (hr0 : Kd.C (Kd.int .i64) w A0 l0.length l0) (hc0 : l0.length ≤ c0) (h : rotaref09_calls.f k l0 = some r) :
    Calls Try.prog 33 #[.slice A0 l0.length c0] w fun e w' => ∃ v0_ : Value, e = .returned (v0_) ∧ Kd.R (Kd.int .i64) 3 w' w.heap.size (fun _ => True) v0_ r ∧ Below w.heap.size w w' := by
  have HR0 := Aside0.mk hr0
  have HC0 := Aside0.mk hc0
  clear hr0 hc0
  have HB := Aside0.mk (Below.refl w.heap.size w)
  have H : (rotaref09_calls.l0 k l0 (([] : List Int)) 0) = some r := h
  clear h
  obtain ⟨y207, hy207⟩ : ∃ y_ : List Int, y_ = (([] : List Int)) := ⟨_, rfl⟩
  replace H : (rotaref09_calls.l0 k l0 y207 0) = some r := by first | (rw [hy207]; with_reducible exact H) | (have H2_ := (Option.bind_some _ _).symm.trans H; rw [hy207]; with_reducible exact H2_) | (have H2_ := (Option.bind_some _ _).symm.trans H; with_reducible exact H2_) | with_reducible exact H | (rw [hy207]; exact H) | exact H
  have Ny207 := Aside0.mk hy207
  clear hy207
  have H' := Aside0.mk H
  clear H
  go_enter Try.func33, Try.ntmps33
  go_wp2_with (first | ((with_reducible refine gate_dst (N := 5) rfl ?_); refine Kd.R_lit (Kd.int .i64) _ 3 ?hg (N := 5) ?hd (xs := ([] : List Int)) (inner := []) (ok := fun _ => True) (okp := fun _ => True) ?hr ?hp (fun _ hk => hk) trivial (Below.refl _ _) (Nat.le_refl _) (by simp) ?_; (case hd => rfl); (case hg => rfl); (case hr => first | (go_simp; done) | (go_simp; rfl)); (case hp => exact (Reps.none _ _)); intro v208 w2 ho3 hb hg_ hnew_; clear hg_ hnew_; (first | rw [← Ny207.out] at ho3 | (simp only [Int.reduceToNat] at ho3; rw [← Ny207.out] at ho3)); have n0_ := Aside0.mk (Kd.R_lower ho3 (below_size (by repeat (first | (with_reducible first | exact HB.out | apply below_alloc | apply pw_below_drewN | apply below_drew1) | exact HB.out)))); have n1_ := Aside0.mk (below_step (by repeat (first | (with_reducible first | exact HB.out | apply below_alloc | apply pw_below_drewN | apply below_drew1) | exact HB.out)) hb); clear HB; have HO209 := n0_; have HB := n1_; clear n0_ n1_; clear hb ho3))
  go_loopg [3, 4] k (fun kq v3 v4 w' => ∃ (x3_1 : List Int) (x4_1 : Int), v4 = .int .i64 x4_1 ∧ Aside0 (rotaref09_calls.l0 kq l0 x3_1 x4_1 = some r) ∧ Aside0 (kq ≤ k) ∧ Aside0 (Kd.R (Kd.int .i64) 3 w' w.heap.size (fun _ => True) v3 x3_1) ∧ Aside0 (Below w.heap.size w w'))
  case atStart => exact ⟨(y207), (0), (by first | rfl | (simp; done) | (simp [*]; done)), H', ⟨Nat.le_refl _⟩, ⟨by (with_reducible repeat (first | apply Kd.R_alloc | apply Kd.R_drewN | apply Kd.R_drew)); exact HO209.out⟩, ⟨by repeat (first | (with_reducible first | exact HB.out | apply below_alloc | apply pw_below_drewN | apply below_drew1) | exact HB.out)⟩⟩
  case round =>
    clear H'
    try clear p2
    try clear c3
    obtain ⟨x3_1, x4_1, rfl, HA, HK1, HO_3, HB⟩ := hrel
    cases gk with
    | zero => exact absurd HA.out (by simp [rotaref09_calls.l0])
    | succ k1 =>
      have H := HA.out
      clear HA
      simp only [rotaref09_calls.l0] at H
      by_cases c4 : x4_1 < (l0.length : Int)
      · rw [if_pos c4] at H
        have c4b0 : decide (x4_1 < (l0.length : Int)) = true := decide_eq_true c4
        clear c4
        by_cases c5 : 0 ≤ x4_1
        · rw [if_pos c5] at H
          have c5b0 : decide (0 ≤ x4_1) = true := decide_eq_true c5
          clear c5
          by_cases c6 : x3_1.length < 17592186044416
          · rw [if_pos c6] at H
            have LMc6 := Aside0.mk c6
            clear c6
            obtain ⟨y211, hy211⟩ : ∃ y_ : List Int, y_ = (x3_1 ++ [rd l0 x4_1]) := ⟨_, rfl⟩
            replace H : (rotaref09_calls.l0 k1 l0 y211 (wrap64 (x4_1 + 1))) = some r := by first | (rw [hy211]; with_reducible exact H) | (have H2_ := (Option.bind_some _ _).symm.trans H; rw [hy211]; with_reducible exact H2_) | (have H2_ := (Option.bind_some _ _).symm.trans H; with_reducible exact H2_) | with_reducible exact H | (rw [hy211]; exact H) | exact H
            have Ny211 := Aside0.mk hy211
            clear hy211
            have H' := Aside0.mk H
            clear H
            have p210 : 0 ≤ (x4_1 : Int) := of_decide_eq_true (by first | (with_reducible assumption) | assumption)
            have q210 : x4_1 < (l0.length : Int) := of_decide_eq_true (by first | (with_reducible assumption) | assumption)
            obtain ⟨ad210, e210, hx210_0⟩ := Kd.at_int HR0.out x4_1 p210 q210
            cases e210
            replace hx210_0 := (HB.out.cell (World.block_lt_of_cell? w _ hx210_0)).trans hx210_0
            replace p210 := eq_true p210
            replace q210 := eq_true q210
            go_wp2_with (first | ((with_reducible refine gate_builtin (b := .append) (xs := #[.tmp 12, .tmp 17]) rfl ?_); at_builtin; refine Kd.R_append (Kd.int .i64) (w0 := w) w.heap.size rfl (.tmp 12) (.tmp 17) 28 3 (.int .i64 0) 8 rfl Try.underlying28 info3 rfl (by decide) (by omega) u3 x3_1 (rd l0 x4_1) [.int .i64 (rd l0 x4_1)] (fun _ => True) (fun _ => False) rfl rfl ?aP (fun _ hk => hk.elim) ?aF ?aO ?aB ?aS ?aL ?_; (case aP => exact rfl); (case aB => exact (by repeat (first | (with_reducible first | exact HB.out | apply below_alloc | apply pw_below_drewN | apply below_drew1) | exact HB.out))); (case aF => exact (fun _ _ => trivial)); (case aO => exact (by (with_reducible repeat (first | apply Kd.R_alloc | apply Kd.R_drewN | apply Kd.R_drew)); exact HO_3.out)); (case aS => exact (below_size (by repeat (first | (with_reducible first | exact HB.out | apply below_alloc | apply pw_below_drewN | apply below_drew1) | exact HB.out)))); (case aL => have := LMc6.out; omega); intro v212 w7 ho hb hg hat; rw [← Ny211.out] at ho; have n0_ := Aside0.mk (hb); have n1_ := Aside0.mk (ho); clear HB; clear HO_3; have HB := n0_; have HO213 := n1_; clear n0_ n1_; clear ho hb hg hat))
            go_roundg k1
            case measure => have := HK1.out; omega
            case rel => exact ⟨(y211), (wrap64 (x4_1 + 1)), (by first | rfl | (simp; done) | (simp [*]; done)), H', ⟨by have := HK1.out; omega⟩, ⟨by (with_reducible repeat (first | apply Kd.R_alloc | apply Kd.R_drewN | apply Kd.R_drew)); exact HO213.out⟩, ⟨by repeat (first | (with_reducible first | exact HB.out | apply below_alloc | apply pw_below_drewN | apply below_drew1) | exact HB.out)⟩⟩
          · rw [if_neg c6] at H
            exact absurd H (by simp)
        · rw [if_neg c5] at H
          exact absurd H (by simp)
      · rw [if_neg c4] at H
        have c4b0 : decide (x4_1 < (l0.length : Int)) = false := decide_eq_false c4
        clear c4
        obtain rfl := Option.some.inj H
        go_wp2
        go_ret
        exact ⟨_, by first | rfl | (simp [errW_none, errW_some] <;> rfl) | (simp [*, errW_none, errW_some] <;> rfl), by (with_reducible repeat (first | apply Kd.R_alloc | apply Kd.R_drewN | apply Kd.R_drew)); exact HO_3.out, by repeat (first | (with_reducible first | exact HB.out | apply below_alloc | apply pw_below_drewN | apply below_drew1) | exact HB.out)⟩

end Go.Proofs.Ythjfmlehkcccfaa.GA
end

section
/-
  What traps, and copies of contexts: walked by hand.
-/
set_option linter.unusedVariables false
set_option linter.unusedSimpArgs false
namespace Go.Proofs.Ythjfmlehkcccfaa.Hsmall
open Go.RowKit Go.Proofs.YthjfmlehkcccfaaW.PrintWords Go.Proofs.YthjfmlehkcccfaaW.PrintLast Go.Proofs.YthjfmlehkcccfaaW.PrintMore GA Hctx

def wantC (op o a b c m x y z t k : Int) : Array Value := #[.int .i64 op, .int .i64 o, .int .i64 a, .int .i64 b, .int .i64 c, .int .i64 m, .int .i64 x, .int .i64 y, .int .i64 z, .int .i64 t, .int .i64 k]
def instC (o a b c m : Int) : Array Value := #[.int .i64 o, .int .i64 a, .int .i64 b, .int .i64 c, .int .i64 m]
def want0 : Array Value := wantC 0 0 0 0 0 0 0 0 0 0 0
def zeroR : Regs := ⟨0, 0, 0, 0, 0, 0, 0, 0, 0, 0, 0, 0, 0, 0, 0, 0⟩
/-- What a step comes to: a context with calls of its own, and what it wants. -/
def Post (w : World) (pc : Int) (r : Regs) (calls : List Int) (wc : Array Value) (x : Ending) (w' : World) : Prop :=
  ∃ v : Value, x = .returned (.tuple #[.agg (ctx pc r v), .agg wc]) ∧ Kd.R (Kd.int .i64) 3 w' w.heap.size (fun _ => True) v calls ∧ Below w.heap.size w w'
/-- What gives a context alone. -/
def PostC (w : World) (pc : Int) (r : Regs) (calls : List Int) (x : Ending) (w' : World) : Prop :=
  ∃ v : Value, x = .returned (.agg (ctx pc r v)) ∧ Kd.R (Kd.int .i64) 3 w' w.heap.size (fun _ => True) v calls ∧ Below w.heap.size w w'

theorem rotaref09_calls_l (l : List Int) (hl : l.length < 17592186044416) (d : Nat) : ∀ (m : List Int) (k i : Nat), i + d = l.length → m.length = i → d < k → rotaref09_calls.l0 k l m (i : Int) = some (m ++ l.drop i) := by
  induction d with
  | zero =>
    intro m k i h hm hk
    obtain ⟨k, rfl⟩ : ∃ z, k = z + 1 := ⟨k - 1, by omega⟩
    simp only [rotaref09_calls.l0]
    rw [if_neg (by omega), List.drop_of_length_le (by omega), List.append_nil]
  | succ d ih =>
    intro m k i h hm hk
    obtain ⟨k, rfl⟩ : ∃ z, k = z + 1 := ⟨k - 1, by omega⟩
    simp only [rotaref09_calls.l0]
    rw [if_pos (by omega), if_pos (by omega), if_pos (by omega), show wrap64 ((i : Int) + 1) = ((i + 1 : Nat) : Int) from by unfold wrap64; omega, ih _ k (i + 1) (by omega) (by simp; omega) (by omega)]
    rw [List.drop_eq_getElem_cons (by omega : i < l.length), List.append_assoc]
    simp [rd, List.getD, List.getElem?_eq_getElem (by omega : i < l.length)]
theorem rotaref09_calls_copy (A : Option Addr) (c : Nat) (l : List Int) (w : World) (hr : Kd.C (Kd.int .i64) w A l.length l) (hc : l.length ≤ c) (hl : l.length < 17592186044416) :
    Calls Try.prog 33 #[.slice A l.length c] w fun e w' => ∃ v : Value, e = .returned v ∧ Kd.R (Kd.int .i64) 3 w' w.heap.size (fun _ => True) v l ∧ Below w.heap.size w w' :=
  rotaref09_calls.calls (l.length + 1) A c l l w hr hc (by unfold rotaref09_calls.f; have := rotaref09_calls_l l hl l.length [] (l.length + 1) 0 (by omega) rfl (by omega); simpa using this)

theorem rotalaw09_ints_l (l : List Int) (hl : l.length < 17592186044416) (d : Nat) : ∀ (m : List Int) (k i : Nat), i + d = l.length → m.length = i → d < k → rotalaw09_ints.l0 k l m (i : Int) = some (m ++ l.drop i) := by
  induction d with
  | zero =>
    intro m k i h hm hk
    obtain ⟨k, rfl⟩ : ∃ z, k = z + 1 := ⟨k - 1, by omega⟩
    simp only [rotalaw09_ints.l0]
    rw [if_neg (by omega), List.drop_of_length_le (by omega), List.append_nil]
  | succ d ih =>
    intro m k i h hm hk
    obtain ⟨k, rfl⟩ : ∃ z, k = z + 1 := ⟨k - 1, by omega⟩
    simp only [rotalaw09_ints.l0]
    rw [if_pos (by omega), if_pos (by omega), if_pos (by omega), show wrap64 ((i : Int) + 1) = ((i + 1 : Nat) : Int) from by unfold wrap64; omega, ih _ k (i + 1) (by omega) (by simp; omega) (by omega)]
    rw [List.drop_eq_getElem_cons (by omega : i < l.length), List.append_assoc]
    simp [rd, List.getD, List.getElem?_eq_getElem (by omega : i < l.length)]
theorem rotalaw09_ints_copy (A : Option Addr) (c : Nat) (l : List Int) (w : World) (hr : Kd.C (Kd.int .i64) w A l.length l) (hc : l.length ≤ c) (hl : l.length < 17592186044416) :
    Calls Try.prog 30 #[.slice A l.length c] w fun e w' => ∃ v : Value, e = .returned v ∧ Kd.R (Kd.int .i64) 3 w' w.heap.size (fun _ => True) v l ∧ Below w.heap.size w w' :=
  rotalaw09_ints.calls (l.length + 1) A c l l w hr hc (by unfold rotalaw09_ints.f; have := rotalaw09_ints_l l hl l.length [] (l.length + 1) 0 (by omega) rfl (by omega); simpa using this)

set_option maxHeartbeats 2000000 in
set_option maxRecDepth 100000 in
theorem step_trapped (pc : Int) (r : Regs) (A : Option Addr) (c : Nat) (l : List Int) (t : Int) (w : World) (hl : Kd.C (Kd.int .i64) w A l.length l) (kl : l.length ≤ c) (hlim : l.length < 17592186044416) :
    Calls Try.prog 26 #[.agg (ctx pc r (.slice A l.length c)), .int .i64 t] w (Post w pc r l (wantC 58 0 0 0 0 0 0 0 0 t 0)) := by
  have hu30 := Try.underlying30
  have hu40 := Try.underlying40
  have HL := Aside0.mk hl
  clear hl
  have M0 := Aside0.mk (Mem.start [3] w)
  go_enter Try.func26, Try.ntmps26
  go_wp2_with (first
    | (refine eB M0 2 (ctx pc r (.slice A l.length c)) 30 ?_; clear M0; intro g2 w2 M1)
    | (refine eB M1 4 (ctx 0 zeroR (.slice none 0 0)) 30 ?_; clear M1; intro g4 w4 M2)
    | (refine eB M2 5 #[.int .i64 0, .int .i64 0, .int .i64 0, .int .i64 0, .int .i64 0, .int .i64 0, .int .i64 0, .int .i64 0, .int .i64 0, .int .i64 0, .int .i64 0] 40 ?_; clear M2; intro g5 w5 M3)
    | (refine eC M3 7 0 17 (.slice A l.length c) ?_))
  refine (Hclone.clone_calls A c l _ (Kd.C_below HL.out M3.out.below) kl hlim).mono ?_
  rintro e W8 ⟨v8, rfl, hR, hb⟩
  obtain ⟨A8, c8, rfl⟩ := Kd.R_slice hR
  have M4 := Aside0.mk (Mem.row M3.out hb hR)
  clear M3 hR hb
  go_wp2_with (first
    | (refine eS M4 28 9 0 17 (.slice A8 l.length c8) (ctx pc r (.slice A8 l.length c8)) ?_; clear M4; intro w_ M5)
    | (refine eL M5 10 0 hu30 ?_)
    | (refine eR M5 30 4 1 (ctx pc r (.slice A8 l.length c8)) ?_; clear M5; intro w_ M6)
    | (refine eR M6 40 5 2 #[.int .i64 58, .int .i64 0, .int .i64 0, .int .i64 0, .int .i64 0, .int .i64 0, .int .i64 0, .int .i64 0, .int .i64 0, .int .i64 t, .int .i64 0] ?_; clear M6; intro w_ M7))
  refine bodyPost_ret (results_cc rfl _ _ g4 g5 30 40 (ctx pc r (.slice A8 l.length c8)) #[.int .i64 58, .int .i64 0, .int .i64 0, .int .i64 0, .int .i64 0, .int .i64 0, .int .i64 0, .int .i64 0, .int .i64 0, .int .i64 t, .int .i64 0] (0, 0) (0, 0) _ _ rfl (M7.out.at 1 rfl) hu30 rfl (by kernel_rfl) rfl (M7.out.at 2 rfl) hu40 rfl (by kernel_rfl)) rfl ⟨_, rfl, M7.out.own, M7.out.below⟩

set_option maxHeartbeats 2000000 in
set_option maxRecDepth 100000 in
theorem ref_trapped (pc : Int) (r : Regs) (A : Option Addr) (c : Nat) (l : List Int) (t : Int) (w : World) (hl : Kd.C (Kd.int .i64) w A l.length l) (kl : l.length ≤ c) (hlim : l.length < 17592186044416) :
    Calls Try.prog 32 #[.agg (ctx pc r (.slice A l.length c)), .int .i64 t] w (Post w pc r l (wantC 58 0 0 0 0 0 0 0 0 t 0)) := by
  have hu30 := Try.underlying30
  have hu40 := Try.underlying40
  have HL := Aside0.mk hl
  clear hl
  have M0 := Aside0.mk (Mem.start [3] w)
  go_enter Try.func32, Try.ntmps32
  go_wp2_with (first
    | (refine eB M0 2 (ctx pc r (.slice A l.length c)) 30 ?_; clear M0; intro g2 w2 M1)
    | (refine eB M1 4 (ctx 0 zeroR (.slice none 0 0)) 30 ?_; clear M1; intro g4 w4 M2)
    | (refine eB M2 5 #[.int .i64 0, .int .i64 0, .int .i64 0, .int .i64 0, .int .i64 0, .int .i64 0, .int .i64 0, .int .i64 0, .int .i64 0, .int .i64 0, .int .i64 0] 40 ?_; clear M2; intro g5 w5 M3)
    | (refine eC M3 7 0 17 (.slice A l.length c) ?_))
  refine (rotaref09_calls_copy A c l _ (Kd.C_below HL.out M3.out.below) kl hlim).mono ?_
  rintro e W8 ⟨v8, rfl, hR, hb⟩
  obtain ⟨A8, c8, rfl⟩ := Kd.R_slice hR
  have M4 := Aside0.mk (Mem.row M3.out hb hR)
  clear M3 hR hb
  go_wp2_with (first
    | (refine eS M4 28 9 0 17 (.slice A8 l.length c8) (ctx pc r (.slice A8 l.length c8)) ?_; clear M4; intro w_ M5)
    | (refine eL M5 10 0 hu30 ?_)
    | (refine eR M5 30 4 1 (ctx pc r (.slice A8 l.length c8)) ?_; clear M5; intro w_ M6)
    | (refine eR M6 40 5 2 #[.int .i64 58, .int .i64 0, .int .i64 0, .int .i64 0, .int .i64 0, .int .i64 0, .int .i64 0, .int .i64 0, .int .i64 0, .int .i64 t, .int .i64 0] ?_; clear M6; intro w_ M7))
  refine bodyPost_ret (results_cc rfl _ _ g4 g5 30 40 (ctx pc r (.slice A8 l.length c8)) #[.int .i64 58, .int .i64 0, .int .i64 0, .int .i64 0, .int .i64 0, .int .i64 0, .int .i64 0, .int .i64 0, .int .i64 0, .int .i64 t, .int .i64 0] (0, 0) (0, 0) _ _ rfl (M7.out.at 1 rfl) hu30 rfl (by kernel_rfl) rfl (M7.out.at 2 rfl) hu40 rfl (by kernel_rfl)) rfl ⟨_, rfl, M7.out.own, M7.out.below⟩

set_option maxHeartbeats 2000000 in
set_option maxRecDepth 100000 in
theorem twin_calls (pc : Int) (r : Regs) (A : Option Addr) (c : Nat) (l : List Int) (w : World) (hl : Kd.C (Kd.int .i64) w A l.length l) (kl : l.length ≤ c) (hlim : l.length < 17592186044416) :
    Calls Try.prog 12 #[.agg (ctx pc r (.slice A l.length c))] w (PostC w pc r l) := by
  have hu30 := Try.underlying30
  have HL := Aside0.mk hl
  clear hl
  have M0 := Aside0.mk (Mem.start [3] w)
  go_enter Try.func12, Try.ntmps12
  go_wp2_with (first
    | (refine eB M0 1 (ctx pc r (.slice A l.length c)) 30 ?_; clear M0; intro g1 w1 M1)
    | (refine eB M1 2 (ctx 0 zeroR (.slice none 0 0)) 30 ?_; clear M1; intro g2 w2 M2)
    | (refine eC M2 4 0 17 (.slice A l.length c) ?_))
  refine (rotalaw09_ints_copy A c l _ (Kd.C_below HL.out M2.out.below) kl hlim).mono ?_
  rintro e W5 ⟨v5, rfl, hR, hb⟩
  obtain ⟨A5, c5, rfl⟩ := Kd.R_slice hR
  have M3 := Aside0.mk (Mem.row M2.out hb hR)
  clear M2 hR hb
  go_wp2_with (first
    | (refine eS M3 28 6 0 17 (.slice A5 l.length c5) (ctx pc r (.slice A5 l.length c5)) ?_; clear M3; intro w_ M4)
    | (refine eL M4 7 0 hu30 ?_)
    | (refine eR M4 30 2 1 (ctx pc r (.slice A5 l.length c5)) ?_; clear M4; intro w_ M5))
  refine bodyPost_ret (results_cell_row rfl _ _ g2 30 (ctx pc r (.slice A5 l.length c5)) (0, 0) _ rfl (M5.out.at 1 rfl) hu30 rfl (by kernel_rfl)) rfl ⟨_, rfl, M5.out.own, M5.out.below⟩

end Go.Proofs.Ythjfmlehkcccfaa.Hsmall
end

section
/-
  A region that draws its order: a whole struct stored into a variable of the call's own, where nothing else may come up.
-/
namespace Go.Proofs.Ythjfmlehkcccfaa
section
variable {P : Program} {md : Region.Mode} {ops : Array Oper} {Q : Exit → Act → World → Prop} {S : World → Prop}
theorem anyH_store {i : Nat} {o : Oper} {fuel : Nat} {listed : Array Bool} {a : Act} {w : World} (hr : Region.ready md ops listed = [i]) (ho : ops[i]? = some o) (hw : Region.wanted o (yielded ops a.tmps) = true) (hd : o.dst = none)
    (ty : TypeId) (x y : Operand) (hop : o.op = .store ty x y) (b off : Nat) (cells : Array Value) (hx : a.eval x = .pointer (some ⟨b, off, none⟩)) (hy : a.eval y = .agg cells)
    (ht : w.there b off cells.size) (hi : (P.info? ty).map (·.size) = some cells.size) (h1 : cells.all (·.oneCell') = true)
    (hS : S (w.setCells b off cells.toList)) (h : S (w.setCells b off cells.toList) → wpAnyH P md ops Q S fuel (listed.setIfInBounds i true) a (w.setCells b off cells.toList)) : wpAnyH P md ops Q S (fuel + 1) listed a w := by
  refine wpAnyH_ready hr (by simp) ?_
  refine AllReadyH.cons ho (fun K hK => ?_) AllReadyH.nil
  rw [if_pos hw]
  refine wp_store_mid ty x y hop b off cells hx hy ht hi h1 ?_
  rw [hd]
  exact hK.out a _ hS h
theorem dSt {i : Nat} {o : Oper} {fuel : Nat} {listed : Array Bool} {a : Act} {w : World} (ty : TypeId) (x y : Operand) (b off : Nat) (cells : Array Value) (ht : w.there b off cells.size)
    (hS : S (w.setCells b off cells.toList)) (h : S (w.setCells b off cells.toList) → wpAnyH P md ops Q S fuel (listed.setIfInBounds i true) a (w.setCells b off cells.toList))
    (ho : ops[i]? = some o := by rfl) (hr : Region.ready md ops listed = [i] := by kernel_rfl) (hw : Region.wanted o (yielded ops a.tmps) = true := by rfl) (hd : o.dst = none := by rfl)
    (hop : o.op = .store ty x y := by rfl) (hx : a.eval x = .pointer (some ⟨b, off, none⟩) := by rfl) (hy : a.eval y = .agg cells := by rfl)
    (hi : (P.info? ty).map (·.size) = some cells.size := by kernel_rfl) (h1 : cells.all (·.oneCell') = true := by kernel_rfl) : wpAnyH P md ops Q S (fuel + 1) listed a w :=
  anyH_store hr ho hw hd ty x y hop b off cells hx hy ht hi h1 hS h
end
end Go.Proofs.Ythjfmlehkcccfaa
end
