-- laid by a program of this session (wip/gp.sh)
import Derived.Test.YtphbepddhhdhmaaDoorGA0
import Derived.Test.YtphbepddhhdhmaaDoorGA15
import Derived.Test.YtphbepddhhdhmaaDoorGA17
import Derived.Test.YtphbepddhhdhmaaDoorGA18
import Derived.Test.YtphbepddhhdhmaaDoorGA19
import Derived.Test.YtphbepddhhdhmaaDoorGA20
import Derived.Test.YtphbepddhhdhmaaDoorGA21
import Derived.Test.YtphbepddhhdhmaaDoorGA22
namespace Go.Proofs.YtphbepddhhdhmaaDoor.GA
open Go.RowKit Go.Proofs.YtphbepddhhdhmaaDoorW.PrintWords Go.Proofs.YtphbepddhhdhmaaDoorW.PrintLast Go.Proofs.YtphbepddhhdhmaaDoorW.PrintMore
attribute [local go_sem] max2_int min2_int max_two min_two max_three min_three max_four min_four   -- for this text's walks alone
set_option linter.unusedVariables false
set_option linter.unusedSimpArgs false

/-! ### rotalaw25_TraceOwn: function 5 -/
mutual
def rotalaw25_TraceOwn.l0 : Nat → List (S36) → Int → List (S36) → Int → Int → Int → Option (Bool)
  | 0, _, _, _, _, _, _ => none
  | k + 1, x0, x2, x7, x8, x183000, x183001 => if x8 < 2 then ((trace_Of.f x7 x183000 x183001).bind fun t187 => ((trace_On.f x7 x2).bind fun t190 => ((rotalaw25_lives.f).bind fun t193 => (if t193 = true then ((rotaref25_Of.f k x0 x183000 x183001).bind fun t194 => ((rotaref25_Same.f k t187 t194).bind fun t197 => (if t197 = true then ((rotaref25_On.f k x0 x2).bind fun t198 => ((rotaref25_Same.f k t190 t198).bind fun t201 => (if t201 = true then ((rotaref25_Same.f k x7 x0).bind fun t202 => (rotalaw25_TraceOwn.j1 k x0 x2 x7 x8 t187 t190 (!t202) x183000 x183001)) else (rotalaw25_TraceOwn.j1 k x0 x2 x7 x8 t187 t190 true x183000 x183001)))) else (rotalaw25_TraceOwn.j1 k x0 x2 x7 x8 t187 t190 true x183000 x183001)))) else (rotalaw25_TraceOwn.j1 k x0 x2 x7 x8 t187 t190 true x183000 x183001))))) else ((rotaref25_Same.f k x7 x0).bind fun t186 => (some t186))
def rotalaw25_TraceOwn.j1 : Nat → List (S36) → Int → List (S36) → Int → List (S36) → List (S36) → Bool → Int → Int → Option (Bool)
  | 0, _, _, _, _, _, _, _, _, _ => none
  | k + 1, x0, x2, x7, x8, x9, x10, x48, x183000, x183001 => if x48 = true then (some false) else (rotalaw25_TraceOwn.l1 k x0 x2 x7 x8 x9 x10 0 x183000 x183001)
def rotalaw25_TraceOwn.l1 : Nat → List (S36) → Int → List (S36) → Int → List (S36) → List (S36) → Int → Int → Int → Option (Bool)
  | 0, _, _, _, _, _, _, _, _, _ => none
  | k + 1, x0, x2, x7, x8, x9, x10, x11, x183000, x183001 => if x11 < (x9.length : Int) then (if 0 ≤ x11 then (rotalaw25_TraceOwn.l1 k x0 x2 x7 x8 (x9.set (x11 : Int).toNat (⟨(rd_T36 x9 x11).f0, (rd_T36 x9 x11).f1, (⟨(rd_T36 x9 x11).f2.f0, (rd_T36 x9 x11).f2.f1⟩ : S33), (-7), (rd_T36 x9 x11).f4, (rd_T36 x9 x11).f5, (rd_T36 x9 x11).f6⟩ : S36)) x10 (wrap64 (x11 + 1)) x183000 x183001) else (none)) else (rotalaw25_TraceOwn.l2 k x0 x2 x7 x8 x9 x10 0 x183000 x183001)
def rotalaw25_TraceOwn.l2 : Nat → List (S36) → Int → List (S36) → Int → List (S36) → List (S36) → Int → Int → Int → Option (Bool)
  | 0, _, _, _, _, _, _, _, _, _ => none
  | k + 1, x0, x2, x7, x8, x9, x10, x12, x183000, x183001 => if x12 < (x10.length : Int) then (if 0 ≤ x12 then (rotalaw25_TraceOwn.l2 k x0 x2 x7 x8 x9 (x10.set (x12 : Int).toNat (⟨(rd_T36 x10 x12).f0, (rd_T36 x10 x12).f1, (⟨(rd_T36 x10 x12).f2.f0, (rd_T36 x10 x12).f2.f1⟩ : S33), (-8), (rd_T36 x10 x12).f4, (rd_T36 x10 x12).f5, (rd_T36 x10 x12).f6⟩ : S36)) (wrap64 (x12 + 1)) x183000 x183001) else (none)) else ((some (([(⟨0, 0, (⟨0, 0⟩ : S33), 0, 0, 0, 0⟩ : S36), (⟨0, 0, (⟨0, 0⟩ : S33), 0, 0, 0, 0⟩ : S36), (⟨0, 0, (⟨0, 0⟩ : S33), 0, 0, 0, 0⟩ : S36), (⟨0, 0, (⟨0, 0⟩ : S33), 0, 0, 0, 0⟩ : S36)] : List (S36)) : List (S36))).bind fun y205 => (if x9.length + y205.length < 2199023255552 then ((some (([(⟨0, 0, (⟨0, 0⟩ : S33), 0, 0, 0, 0⟩ : S36), (⟨0, 0, (⟨0, 0⟩ : S33), 0, 0, 0, 0⟩ : S36), (⟨0, 0, (⟨0, 0⟩ : S33), 0, 0, 0, 0⟩ : S36), (⟨0, 0, (⟨0, 0⟩ : S33), 0, 0, 0, 0⟩ : S36)] : List (S36)) : List (S36))).bind fun y211 => (if x10.length + y211.length < 2199023255552 then (if (wrap64 (((x9 ++ y205).length : Int) + ((x10 ++ y211).length : Int))) < 8 then (some false) else (rotalaw25_TraceOwn.l0 k x0 x2 x7 (wrap64 (x8 + 1)) x183000 x183001)) else (none))) else (none)))
end
def rotalaw25_TraceOwn.f (k : Nat) (l0 : List (S36)) (a1_0 : Int) (a1_1 : Int) (a2 : Int) : Option (Bool) := (rotalaw25_twin.f k l0).bind fun t183 => (rotalaw25_TraceOwn.l0 k l0 a2 t183 0 a1_0 a1_1)
theorem rotalaw25_TraceOwn.mono_l : ∀ k, (∀ y0 y1 y2 y3 y4 y5, LeO (rotalaw25_TraceOwn.l0 k y0 y1 y2 y3 y4 y5) (rotalaw25_TraceOwn.l0 (k + 1) y0 y1 y2 y3 y4 y5)) ∧ (∀ y0 y1 y2 y3 y4 y5 y6 y7 y8, LeO (rotalaw25_TraceOwn.j1 k y0 y1 y2 y3 y4 y5 y6 y7 y8) (rotalaw25_TraceOwn.j1 (k + 1) y0 y1 y2 y3 y4 y5 y6 y7 y8)) ∧ (∀ y0 y1 y2 y3 y4 y5 y6 y7 y8, LeO (rotalaw25_TraceOwn.l1 k y0 y1 y2 y3 y4 y5 y6 y7 y8) (rotalaw25_TraceOwn.l1 (k + 1) y0 y1 y2 y3 y4 y5 y6 y7 y8)) ∧ (∀ y0 y1 y2 y3 y4 y5 y6 y7 y8, LeO (rotalaw25_TraceOwn.l2 k y0 y1 y2 y3 y4 y5 y6 y7 y8) (rotalaw25_TraceOwn.l2 (k + 1) y0 y1 y2 y3 y4 y5 y6 y7 y8))
  | 0 => ⟨fun _ _ _ _ _ _ r h => by simp [rotalaw25_TraceOwn.l0] at h, fun _ _ _ _ _ _ _ _ _ r h => by simp [rotalaw25_TraceOwn.j1] at h, fun _ _ _ _ _ _ _ _ _ r h => by simp [rotalaw25_TraceOwn.l1] at h, fun _ _ _ _ _ _ _ _ _ r h => by simp [rotalaw25_TraceOwn.l2] at h⟩
  | k + 1 => by
    obtain ⟨ih0, ih1, ih2, ih3⟩ := rotalaw25_TraceOwn.mono_l k
    refine ⟨?_, ?_, ?_, ?_⟩
    · intro y0 y1 y2 y3 y4 y5
      unfold rotalaw25_TraceOwn.l0
      repeat' first
      | (with_reducible exact ih0 _ _ _ _ _ _)
      | (with_reducible exact ih1 _ _ _ _ _ _ _ _ _)
      | (with_reducible exact ih2 _ _ _ _ _ _ _ _ _)
      | (with_reducible exact ih3 _ _ _ _ _ _ _ _ _)
      | (with_reducible exact rotalaw25_twin.mono _ _)
      | (with_reducible exact rotaref25_Of.mono _ _ _ _)
      | (with_reducible exact rotaref25_On.mono _ _ _)
      | (with_reducible exact rotaref25_Same.mono _ _ _)
      | (with_reducible exact LeO.refl _)
      | (with_reducible exact LeO.none _)
      | (with_reducible refine LeO.ite ?_ ?_)
      | (with_reducible refine LeO.bind ?_ (fun _ => ?_))
      | exact ih0 _ _ _ _ _ _
      | exact ih1 _ _ _ _ _ _ _ _ _
      | exact ih2 _ _ _ _ _ _ _ _ _
      | exact ih3 _ _ _ _ _ _ _ _ _
      | exact rotalaw25_twin.mono _ _
      | exact rotaref25_Of.mono _ _ _ _
      | exact rotaref25_On.mono _ _ _
      | exact rotaref25_Same.mono _ _ _
      | exact LeO.none _
      | refine LeO.ite ?_ ?_
      | refine LeO.bind ?_ (fun _ => ?_)
    · intro y0 y1 y2 y3 y4 y5 y6 y7 y8
      unfold rotalaw25_TraceOwn.j1
      repeat' first
      | (with_reducible exact ih0 _ _ _ _ _ _)
      | (with_reducible exact ih1 _ _ _ _ _ _ _ _ _)
      | (with_reducible exact ih2 _ _ _ _ _ _ _ _ _)
      | (with_reducible exact ih3 _ _ _ _ _ _ _ _ _)
      | (with_reducible exact rotalaw25_twin.mono _ _)
      | (with_reducible exact rotaref25_Of.mono _ _ _ _)
      | (with_reducible exact rotaref25_On.mono _ _ _)
      | (with_reducible exact rotaref25_Same.mono _ _ _)
      | (with_reducible exact LeO.refl _)
      | (with_reducible exact LeO.none _)
      | (with_reducible refine LeO.ite ?_ ?_)
      | (with_reducible refine LeO.bind ?_ (fun _ => ?_))
      | exact ih0 _ _ _ _ _ _
      | exact ih1 _ _ _ _ _ _ _ _ _
      | exact ih2 _ _ _ _ _ _ _ _ _
      | exact ih3 _ _ _ _ _ _ _ _ _
      | exact rotalaw25_twin.mono _ _
      | exact rotaref25_Of.mono _ _ _ _
      | exact rotaref25_On.mono _ _ _
      | exact rotaref25_Same.mono _ _ _
      | exact LeO.none _
      | refine LeO.ite ?_ ?_
      | refine LeO.bind ?_ (fun _ => ?_)
    · intro y0 y1 y2 y3 y4 y5 y6 y7 y8
      unfold rotalaw25_TraceOwn.l1
      repeat' first
      | (with_reducible exact ih0 _ _ _ _ _ _)
      | (with_reducible exact ih1 _ _ _ _ _ _ _ _ _)
      | (with_reducible exact ih2 _ _ _ _ _ _ _ _ _)
      | (with_reducible exact ih3 _ _ _ _ _ _ _ _ _)
      | (with_reducible exact rotalaw25_twin.mono _ _)
      | (with_reducible exact rotaref25_Of.mono _ _ _ _)
      | (with_reducible exact rotaref25_On.mono _ _ _)
      | (with_reducible exact rotaref25_Same.mono _ _ _)
      | (with_reducible exact LeO.refl _)
      | (with_reducible exact LeO.none _)
      | (with_reducible refine LeO.ite ?_ ?_)
      | (with_reducible refine LeO.bind ?_ (fun _ => ?_))
      | exact ih0 _ _ _ _ _ _
      | exact ih1 _ _ _ _ _ _ _ _ _
      | exact ih2 _ _ _ _ _ _ _ _ _
      | exact ih3 _ _ _ _ _ _ _ _ _
      | exact rotalaw25_twin.mono _ _
      | exact rotaref25_Of.mono _ _ _ _
      | exact rotaref25_On.mono _ _ _
      | exact rotaref25_Same.mono _ _ _
      | exact LeO.none _
      | refine LeO.ite ?_ ?_
      | refine LeO.bind ?_ (fun _ => ?_)
    · intro y0 y1 y2 y3 y4 y5 y6 y7 y8
      unfold rotalaw25_TraceOwn.l2
      repeat' first
      | (with_reducible exact ih0 _ _ _ _ _ _)
      | (with_reducible exact ih1 _ _ _ _ _ _ _ _ _)
      | (with_reducible exact ih2 _ _ _ _ _ _ _ _ _)
      | (with_reducible exact ih3 _ _ _ _ _ _ _ _ _)
      | (with_reducible exact rotalaw25_twin.mono _ _)
      | (with_reducible exact rotaref25_Of.mono _ _ _ _)
      | (with_reducible exact rotaref25_On.mono _ _ _)
      | (with_reducible exact rotaref25_Same.mono _ _ _)
      | (with_reducible exact LeO.refl _)
      | (with_reducible exact LeO.none _)
      | (with_reducible refine LeO.ite ?_ ?_)
      | (with_reducible refine LeO.bind ?_ (fun _ => ?_))
      | exact ih0 _ _ _ _ _ _
      | exact ih1 _ _ _ _ _ _ _ _ _
      | exact ih2 _ _ _ _ _ _ _ _ _
      | exact ih3 _ _ _ _ _ _ _ _ _
      | exact rotalaw25_twin.mono _ _
      | exact rotaref25_Of.mono _ _ _ _
      | exact rotaref25_On.mono _ _ _
      | exact rotaref25_Same.mono _ _ _
      | exact LeO.none _
      | refine LeO.ite ?_ ?_
      | refine LeO.bind ?_ (fun _ => ?_)
theorem rotalaw25_TraceOwn.mono : ∀ a0 a1 a2 a3 k, LeO (rotalaw25_TraceOwn.f k a0 a1 a2 a3) (rotalaw25_TraceOwn.f (k + 1) a0 a1 a2 a3) := by
  intro a0 a1 a2 a3 k
  obtain ⟨ih0, ih1, ih2, ih3⟩ := rotalaw25_TraceOwn.mono_l k
  unfold rotalaw25_TraceOwn.f
  repeat' first
      | (with_reducible exact ih0 _ _ _ _ _ _)
      | (with_reducible exact ih1 _ _ _ _ _ _ _ _ _)
      | (with_reducible exact ih2 _ _ _ _ _ _ _ _ _)
      | (with_reducible exact ih3 _ _ _ _ _ _ _ _ _)
      | (with_reducible exact rotalaw25_twin.mono _ _)
      | (with_reducible exact rotaref25_Of.mono _ _ _ _)
      | (with_reducible exact rotaref25_On.mono _ _ _)
      | (with_reducible exact rotaref25_Same.mono _ _ _)
      | (with_reducible exact LeO.refl _)
      | (with_reducible exact LeO.none _)
      | (with_reducible refine LeO.ite ?_ ?_)
      | (with_reducible refine LeO.bind ?_ (fun _ => ?_))
      | exact ih0 _ _ _ _ _ _
      | exact ih1 _ _ _ _ _ _ _ _ _
      | exact ih2 _ _ _ _ _ _ _ _ _
      | exact ih3 _ _ _ _ _ _ _ _ _
      | exact rotalaw25_twin.mono _ _
      | exact rotaref25_Of.mono _ _ _ _
      | exact rotaref25_On.mono _ _ _
      | exact rotaref25_Same.mono _ _ _
      | exact LeO.none _
      | refine LeO.ite ?_ ?_
      | refine LeO.bind ?_ (fun _ => ?_)
set_option maxHeartbeats 8000000 in
set_option maxRecDepth 100000 in
theorem rotalaw25_TraceOwn.calls (k : Nat) (A0 : Option Addr) (c0 : Nat) (l0 : List (S36)) (a1_0 : Int) (a1_1 : Int) (a2 : Int) (r : Bool) (w : World) (hLLaidNames : Laid.LaidNames w) (hr0 : Kd.C k36 w A0 l0.length l0) (hc0 : l0.length ≤ c0) (h : rotalaw25_TraceOwn.f k l0 a1_0 a1_1 a2 = some r) :
    Calls Tryd.prog 5 #[.slice A0 l0.length c0, .agg #[.int .i64 a1_0, .int .i64 a1_1], .int .i64 a2] w fun e w' => e = .returned (.bool r) ∧ Below w.heap.size w w' := by
  have hu33 := Tryd.underlying33
  have hu36 := Tryd.underlying36
  have HR0 := Aside0.mk hr0
  have HC0 := Aside0.mk hc0
  clear hr0 hc0
  have HB := Aside0.mk (Below.refl w.heap.size w)
  have H : ((rotalaw25_twin.f k l0).bind fun t183 => (rotalaw25_TraceOwn.l0 k l0 a2 t183 0 a1_0 a1_1)) = some r := h
  clear h
  replace H := Option.bind_eq_some_iff.mp H
  obtain ⟨t183, A40, H⟩ := H
  replace H : (rotalaw25_TraceOwn.l0 k l0 a2 t183 0 a1_0 a1_1) = some r := H
  have A4 := Aside0.mk A40
  clear A40
  have H' := Aside0.mk H
  clear H
  go_enter Tryd.func5, Tryd.ntmps5
  go_wp2_with (first | ((with_reducible refine gate_dst (N := 4) rfl ?_); refine box_event ?hg (N := 4) ?hd (cs := #[.int .i64 a1_0, .int .i64 a1_1]) (t := 33) ?hr ?_; (case hd => rfl); (case hg => rfl); (case hr => first | (go_simp; done) | (go_simp; rfl)); intro gb182 hg w5 hbox hb; have n0_ := Aside0.mk (below_step (by repeat (first | (with_reducible first | exact HB.out | apply below_alloc | apply pw_below_drewN | apply below_drew1) | exact HB.out)) hb); have n1_ := Aside0.mk (hbox); have n2_ := Aside0.mk ((by rw [hg]; exact (below_size (by repeat (first | (with_reducible first | exact HB.out | apply below_alloc | apply pw_below_drewN | apply below_drew1) | exact HB.out))) : w.heap.size ≤ gb182)); have n3_ := Aside0.mk ((by rw [hg]; exact (below_size (by repeat (first | (with_reducible first | exact HB.out | apply below_alloc | apply pw_below_drewN | apply below_drew1) | exact HB.out))) : w.heap.size ≤ gb182)); clear HB; have HB := n0_; have BK182 := n1_; have GW182 := n2_; have GE182 := n3_; clear n0_ n1_ n2_ n3_; clear hb hbox hg) | ((with_reducible refine gate_callee (f := 15) rfl ?_); refine goesL_ (some 14) rfl rfl Tryd.func15 (by kernel_rfl) rfl #[.slice A0 l0.length c0] rfl (by (try simp only [List.map_toArray, List.map_cons, List.map_nil]); first | done | rfl | (simp only [List.length_drop, List.length_take]; rfl)) ?_; (with_reducible refine (rotalaw25_twin.calls k _ _ l0 t183 _ ?side1 ?side2 A4.out).mono ?_); (case side1 => repeat (first | exact (Kd.C_below HR0.out HB.out) | (with_reducible refine Kd.C_alloc ?_ _) | (with_reducible refine Kd.C_drewN ?_ _) | (with_reducible refine Kd.C_drew ?_))); (case side2 => exact HC0.out); rintro e w6 ⟨v184, rfl, ho0, hb⟩; refine ⟨_, rfl, ?_⟩; have n0_ := Aside0.mk (Kd.R_lower ho0 (below_size (by repeat (first | (with_reducible first | exact HB.out | apply below_alloc | apply pw_below_drewN | apply below_drew1 | refine below_set ?_ GE182.out) | exact HB.out)))); have n1_ := Aside0.mk (blk_below (g := gb182) (o := .cells #[.int .i64 a1_0, .int .i64 a1_1] 33 (0, 0)) (by (with_reducible repeat (first | refine blk_drewN ?_ _ | refine blk_drew ?_ | refine blk_alloc ?_ _)); exact BK182.out) hb); have n2_ := Aside0.mk (below_step (by repeat (first | (with_reducible first | exact HB.out | apply below_alloc | apply pw_below_drewN | apply below_drew1 | refine below_set ?_ GE182.out) | exact HB.out)) hb); clear BK182; clear HB; have HO185 := n0_; have BK182 := n1_; have HB := n2_; clear n0_ n1_ n2_; (try clear hb); (try clear hb2); (try clear hk); (try clear hi); (try clear ho0)))
  go_loopg [8] k (fun kq v8 w' => ∃ (x7_1 : List (S36)) (x8_1 : Int), v8 = .int .i64 x8_1 ∧ Aside0 (rotalaw25_TraceOwn.l0 kq l0 a2 x7_1 x8_1 a1_0 a1_1 = some r) ∧ Aside0 (kq ≤ k) ∧ Aside0 (Kd.R k36 36 w' w.heap.size (fun _ => True) v184 x7_1) ∧ Aside0 (w'.heap[gb182]? = some (.cells #[.int .i64 a1_0, .int .i64 a1_1] 33 (0, 0))) ∧ Aside0 (Below w.heap.size w w'))
  case atStart => exact ⟨(t183), (0), (by first | rfl | (simp; done) | (simp [*]; done)), H', ⟨Nat.le_refl _⟩, ⟨by (with_reducible repeat (first | apply Kd.R_alloc | apply Kd.R_drewN | apply Kd.R_drew)); exact HO185.out⟩, ⟨by (with_reducible repeat (first | refine blk_drewN ?_ _ | refine blk_drew ?_ | refine blk_alloc ?_ _)); exact BK182.out⟩, ⟨by repeat (first | (with_reducible first | exact HB.out | apply below_alloc | apply pw_below_drewN | apply below_drew1 | refine below_set ?_ GE182.out) | exact HB.out)⟩⟩
  case round =>
    clear H'
    try clear c1
    try clear p2
    try clear c5
    obtain ⟨x7_1, x8_1, rfl, HA, HK1, HO_7, BK182, HB⟩ := hrel
    cases gk with
    | zero => exact absurd HA.out (by simp [rotalaw25_TraceOwn.l0])
    | succ k1 =>
      have H := HA.out
      clear HA
      simp only [rotalaw25_TraceOwn.l0] at H
      by_cases c7 : x8_1 < 2
      · rw [if_pos c7] at H
        have c7b0 : decide (x8_1 < 2) = true := decide_eq_true c7
        clear c7
        replace H := Option.bind_eq_some_iff.mp H
        obtain ⟨t187, A80, H⟩ := H
        replace H : ((trace_On.f x7_1 a2).bind fun t190 => ((rotalaw25_lives.f).bind fun t193 => (if t193 = true then ((rotaref25_Of.f k1 l0 a1_0 a1_1).bind fun t194 => ((rotaref25_Same.f k1 t187 t194).bind fun t197 => (if t197 = true then ((rotaref25_On.f k1 l0 a2).bind fun t198 => ((rotaref25_Same.f k1 t190 t198).bind fun t201 => (if t201 = true then ((rotaref25_Same.f k1 x7_1 l0).bind fun t202 => (rotalaw25_TraceOwn.j1 k1 l0 a2 x7_1 x8_1 t187 t190 (!t202) a1_0 a1_1)) else (rotalaw25_TraceOwn.j1 k1 l0 a2 x7_1 x8_1 t187 t190 true a1_0 a1_1)))) else (rotalaw25_TraceOwn.j1 k1 l0 a2 x7_1 x8_1 t187 t190 true a1_0 a1_1)))) else (rotalaw25_TraceOwn.j1 k1 l0 a2 x7_1 x8_1 t187 t190 true a1_0 a1_1)))) = some r := H
        have A8 := Aside0.mk A80
        clear A80
        replace H := Option.bind_eq_some_iff.mp H
        obtain ⟨t190, A90, H⟩ := H
        replace H : ((rotalaw25_lives.f).bind fun t193 => (if t193 = true then ((rotaref25_Of.f k1 l0 a1_0 a1_1).bind fun t194 => ((rotaref25_Same.f k1 t187 t194).bind fun t197 => (if t197 = true then ((rotaref25_On.f k1 l0 a2).bind fun t198 => ((rotaref25_Same.f k1 t190 t198).bind fun t201 => (if t201 = true then ((rotaref25_Same.f k1 x7_1 l0).bind fun t202 => (rotalaw25_TraceOwn.j1 k1 l0 a2 x7_1 x8_1 t187 t190 (!t202) a1_0 a1_1)) else (rotalaw25_TraceOwn.j1 k1 l0 a2 x7_1 x8_1 t187 t190 true a1_0 a1_1)))) else (rotalaw25_TraceOwn.j1 k1 l0 a2 x7_1 x8_1 t187 t190 true a1_0 a1_1)))) else (rotalaw25_TraceOwn.j1 k1 l0 a2 x7_1 x8_1 t187 t190 true a1_0 a1_1))) = some r := H
        have A9 := Aside0.mk A90
        clear A90
        have HC10 := Aside0.mk H
        clear H
        have hcz11_0 : wr.cell? ⟨gb182, 0, none⟩ = some (.int .i64 a1_0) := (blk_cell BK182.out 0).trans rfl
        have hcz11_1 : wr.cell? ⟨gb182, 1, none⟩ = some (.int .i64 a1_1) := (blk_cell BK182.out 1).trans rfl
        have hfz11_0 := blk_frozen BK182.out 0
        have hfz11_1 := blk_frozen BK182.out 1
        obtain ⟨Ao12, co12, eo12⟩ := Kd.R_slice HO_7.out
        subst eo12
        go_upto_region 6 with (first | ((with_reducible refine gate_callee (f := 18) rfl ?_); refine goesL_ (some 21) rfl rfl Tryd.func18 (by kernel_rfl) rfl #[.slice Ao12 x7_1.length co12, .agg #[.int .i64 a1_0, .int .i64 a1_1]] rfl (by (try simp only [List.map_toArray, List.map_cons, List.map_nil]); first | done | rfl | (simp only [List.length_drop, List.length_take]; rfl)) ?_; (with_reducible refine (trace_Of.calls _ _ x7_1 a1_0 a1_1 t187 _ ?side1 ?side2 A8.out).mono ?_); (case side1 => repeat (first | exact (Kd.R_reads' HO_7.out).2.2 | (with_reducible refine Kd.C_alloc ?_ _) | (with_reducible refine Kd.C_drewN ?_ _) | (with_reducible refine Kd.C_drew ?_))); (case side2 => exact (Kd.R_reads' HO_7.out).2.1); rintro e w13 ⟨v188, rfl, ho0, hb⟩; refine ⟨_, rfl, ?_⟩; have n0_ := Aside0.mk (Kd.R_elder' (by (with_reducible repeat (first | apply Kd.R_alloc | apply Kd.R_drewN | apply Kd.R_drew)); exact HO_7.out) (Kd.R_base ho0) hb); have n1_ := Aside0.mk (Kd.R_lower (Kd.R_new' ho0 (Kd.R_lt (by (with_reducible repeat (first | apply Kd.R_alloc | apply Kd.R_drewN | apply Kd.R_drew)); exact HO_7.out))) (below_size (by repeat (first | (with_reducible first | exact HB.out | apply below_alloc | apply pw_below_drewN | apply below_drew1 | refine below_set ?_ GE182.out) | exact HB.out)))); have n2_ := Aside0.mk (blk_below (g := gb182) (o := .cells #[.int .i64 a1_0, .int .i64 a1_1] 33 (0, 0)) (by (with_reducible repeat (first | refine blk_drewN ?_ _ | refine blk_drew ?_ | refine blk_alloc ?_ _)); exact BK182.out) hb); have n3_ := Aside0.mk (below_step (by repeat (first | (with_reducible first | exact HB.out | apply below_alloc | apply pw_below_drewN | apply below_drew1 | refine below_set ?_ GE182.out) | exact HB.out)) hb); clear HO_7; clear BK182; clear HB; have HO_7 := n0_; have HO189 := n1_; have BK182 := n2_; have HB := n3_; clear n0_ n1_ n2_ n3_; (try clear hb); (try clear hb2); (try clear hk); (try clear hi); (try clear ho0)) | ((with_reducible refine gate_callee (f := 19) rfl ?_); refine goesL_ (some 24) rfl rfl Tryd.func19 (by kernel_rfl) rfl #[.slice Ao12 x7_1.length co12, .int .i64 a2] rfl (by (try simp only [List.map_toArray, List.map_cons, List.map_nil]); first | done | rfl | (simp only [List.length_drop, List.length_take]; rfl)) ?_; (with_reducible refine (trace_On.calls _ _ x7_1 a2 t190 _ ?side1 ?side2 A9.out).mono ?_); (case side1 => repeat (first | exact (Kd.R_reads' HO_7.out).2.2 | (with_reducible refine Kd.C_alloc ?_ _) | (with_reducible refine Kd.C_drewN ?_ _) | (with_reducible refine Kd.C_drew ?_))); (case side2 => exact (Kd.R_reads' HO_7.out).2.1); rintro e w14 ⟨v191, rfl, ho0, hb⟩; refine ⟨_, rfl, ?_⟩; have n0_ := Aside0.mk (Kd.R_elder' (by (with_reducible repeat (first | apply Kd.R_alloc | apply Kd.R_drewN | apply Kd.R_drew)); exact HO_7.out) (Kd.R_base ho0) hb); have n1_ := Aside0.mk (Kd.R_elder' (by (with_reducible repeat (first | apply Kd.R_alloc | apply Kd.R_drewN | apply Kd.R_drew)); exact HO189.out) (Kd.R_base ho0) hb); have n2_ := Aside0.mk (Kd.R_lower (Kd.R_new' (Kd.R_new' ho0 (Kd.R_lt (by (with_reducible repeat (first | apply Kd.R_alloc | apply Kd.R_drewN | apply Kd.R_drew)); exact HO_7.out))) (Kd.R_lt (by (with_reducible repeat (first | apply Kd.R_alloc | apply Kd.R_drewN | apply Kd.R_drew)); exact HO189.out))) (below_size (by repeat (first | (with_reducible first | exact HB.out | apply below_alloc | apply pw_below_drewN | apply below_drew1 | refine below_set ?_ GE182.out) | exact HB.out)))); have n3_ := Aside0.mk (blk_below (g := gb182) (o := .cells #[.int .i64 a1_0, .int .i64 a1_1] 33 (0, 0)) (by (with_reducible repeat (first | refine blk_drewN ?_ _ | refine blk_drew ?_ | refine blk_alloc ?_ _)); exact BK182.out) hb); have n4_ := Aside0.mk (below_step (by repeat (first | (with_reducible first | exact HB.out | apply below_alloc | apply pw_below_drewN | apply below_drew1 | refine below_set ?_ GE182.out) | exact HB.out)) hb); clear HO_7; clear HO189; clear BK182; clear HB; have HO_7 := n0_; have HO189 := n1_; have HO192 := n2_; have BK182 := n3_; have HB := n4_; clear n0_ n1_ n2_ n3_ n4_; (try clear hb); (try clear hb2); (try clear hk); (try clear hi); (try clear ho0)))
        (try simp only [Act.put, List.setIfInBounds_toArray, List.set_cons_zero, List.set_cons_succ])
        go_cut [48] (fun v48 wc => ∃ (kq : Nat) (x48_9 : Bool), v48 = .bool x48_9 ∧ Aside0 (rotalaw25_TraceOwn.j1 kq l0 a2 x7_1 x8_1 t187 t190 x48_9 a1_0 a1_1 = some r) ∧ Aside0 (kq ≤ k1) ∧ Aside0 (Kd.R k36 36 wc w.heap.size (fun k_ => some k_ ≠ (v188 : Value).ownBlock ∧ some k_ ≠ (v191 : Value).ownBlock) (.slice Ao12 x7_1.length co12) x7_1) ∧ Aside0 (Kd.R k36 36 wc w.heap.size (fun k_ => some k_ ≠ ((.slice Ao12 x7_1.length co12) : Value).ownBlock ∧ some k_ ≠ (v191 : Value).ownBlock) v188 t187) ∧ Aside0 (Kd.R k36 36 wc w.heap.size (fun k_ => some k_ ≠ ((.slice Ao12 x7_1.length co12) : Value).ownBlock ∧ some k_ ≠ (v188 : Value).ownBlock) v191 t190) ∧ Aside0 (wc.heap[gb182]? = some (.cells #[.int .i64 a1_0, .int .i64 a1_1] 33 (0, 0))) ∧ Aside0 (Below w.heap.size w wc))
        case first =>
          have H := HC10.out
          clear HC10
          replace H := Option.bind_eq_some_iff.mp H
          obtain ⟨t193, A150, H⟩ := H
          replace H : (if t193 = true then ((rotaref25_Of.f k1 l0 a1_0 a1_1).bind fun t194 => ((rotaref25_Same.f k1 t187 t194).bind fun t197 => (if t197 = true then ((rotaref25_On.f k1 l0 a2).bind fun t198 => ((rotaref25_Same.f k1 t190 t198).bind fun t201 => (if t201 = true then ((rotaref25_Same.f k1 x7_1 l0).bind fun t202 => (rotalaw25_TraceOwn.j1 k1 l0 a2 x7_1 x8_1 t187 t190 (!t202) a1_0 a1_1)) else (rotalaw25_TraceOwn.j1 k1 l0 a2 x7_1 x8_1 t187 t190 true a1_0 a1_1)))) else (rotalaw25_TraceOwn.j1 k1 l0 a2 x7_1 x8_1 t187 t190 true a1_0 a1_1)))) else (rotalaw25_TraceOwn.j1 k1 l0 a2 x7_1 x8_1 t187 t190 true a1_0 a1_1)) = some r := H
          have A15 := Aside0.mk A150
          clear A150
          by_cases c16 : t193 = true
          · subst c16
            have H1 : ((rotaref25_Of.f k1 l0 a1_0 a1_1).bind fun t194 => ((rotaref25_Same.f k1 t187 t194).bind fun t197 => (if t197 = true then ((rotaref25_On.f k1 l0 a2).bind fun t198 => ((rotaref25_Same.f k1 t190 t198).bind fun t201 => (if t201 = true then ((rotaref25_Same.f k1 x7_1 l0).bind fun t202 => (rotalaw25_TraceOwn.j1 k1 l0 a2 x7_1 x8_1 t187 t190 (!t202) a1_0 a1_1)) else (rotalaw25_TraceOwn.j1 k1 l0 a2 x7_1 x8_1 t187 t190 true a1_0 a1_1)))) else (rotalaw25_TraceOwn.j1 k1 l0 a2 x7_1 x8_1 t187 t190 true a1_0 a1_1)))) = some r := by rw [if_pos rfl] at H; exact H
            clear H
            have H := H1
            clear H1
            replace H := Option.bind_eq_some_iff.mp H
            obtain ⟨t194, A170, H⟩ := H
            replace H : ((rotaref25_Same.f k1 t187 t194).bind fun t197 => (if t197 = true then ((rotaref25_On.f k1 l0 a2).bind fun t198 => ((rotaref25_Same.f k1 t190 t198).bind fun t201 => (if t201 = true then ((rotaref25_Same.f k1 x7_1 l0).bind fun t202 => (rotalaw25_TraceOwn.j1 k1 l0 a2 x7_1 x8_1 t187 t190 (!t202) a1_0 a1_1)) else (rotalaw25_TraceOwn.j1 k1 l0 a2 x7_1 x8_1 t187 t190 true a1_0 a1_1)))) else (rotalaw25_TraceOwn.j1 k1 l0 a2 x7_1 x8_1 t187 t190 true a1_0 a1_1))) = some r := H
            have A17 := Aside0.mk A170
            clear A170
            replace H := Option.bind_eq_some_iff.mp H
            obtain ⟨t197, A180, H⟩ := H
            replace H : (if t197 = true then ((rotaref25_On.f k1 l0 a2).bind fun t198 => ((rotaref25_Same.f k1 t190 t198).bind fun t201 => (if t201 = true then ((rotaref25_Same.f k1 x7_1 l0).bind fun t202 => (rotalaw25_TraceOwn.j1 k1 l0 a2 x7_1 x8_1 t187 t190 (!t202) a1_0 a1_1)) else (rotalaw25_TraceOwn.j1 k1 l0 a2 x7_1 x8_1 t187 t190 true a1_0 a1_1)))) else (rotalaw25_TraceOwn.j1 k1 l0 a2 x7_1 x8_1 t187 t190 true a1_0 a1_1)) = some r := H
            have A18 := Aside0.mk A180
            clear A180
            by_cases c19 : t197 = true
            · subst c19
              have H1 : ((rotaref25_On.f k1 l0 a2).bind fun t198 => ((rotaref25_Same.f k1 t190 t198).bind fun t201 => (if t201 = true then ((rotaref25_Same.f k1 x7_1 l0).bind fun t202 => (rotalaw25_TraceOwn.j1 k1 l0 a2 x7_1 x8_1 t187 t190 (!t202) a1_0 a1_1)) else (rotalaw25_TraceOwn.j1 k1 l0 a2 x7_1 x8_1 t187 t190 true a1_0 a1_1)))) = some r := by rw [if_pos rfl] at H; exact H
              clear H
              have H := H1
              clear H1
              replace H := Option.bind_eq_some_iff.mp H
              obtain ⟨t198, A200, H⟩ := H
              replace H : ((rotaref25_Same.f k1 t190 t198).bind fun t201 => (if t201 = true then ((rotaref25_Same.f k1 x7_1 l0).bind fun t202 => (rotalaw25_TraceOwn.j1 k1 l0 a2 x7_1 x8_1 t187 t190 (!t202) a1_0 a1_1)) else (rotalaw25_TraceOwn.j1 k1 l0 a2 x7_1 x8_1 t187 t190 true a1_0 a1_1))) = some r := H
              have A20 := Aside0.mk A200
              clear A200
              replace H := Option.bind_eq_some_iff.mp H
              obtain ⟨t201, A210, H⟩ := H
              replace H : (if t201 = true then ((rotaref25_Same.f k1 x7_1 l0).bind fun t202 => (rotalaw25_TraceOwn.j1 k1 l0 a2 x7_1 x8_1 t187 t190 (!t202) a1_0 a1_1)) else (rotalaw25_TraceOwn.j1 k1 l0 a2 x7_1 x8_1 t187 t190 true a1_0 a1_1)) = some r := H
              have A21 := Aside0.mk A210
              clear A210
              by_cases c22 : t201 = true
              · subst c22
                have H1 : ((rotaref25_Same.f k1 x7_1 l0).bind fun t202 => (rotalaw25_TraceOwn.j1 k1 l0 a2 x7_1 x8_1 t187 t190 (!t202) a1_0 a1_1)) = some r := by rw [if_pos rfl] at H; exact H
                clear H
                have H := H1
                clear H1
                replace H := Option.bind_eq_some_iff.mp H
                obtain ⟨t202, A230, H⟩ := H
                replace H : (rotalaw25_TraceOwn.j1 k1 l0 a2 x7_1 x8_1 t187 t190 (!t202) a1_0 a1_1) = some r := H
                have A23 := Aside0.mk A230
                clear A230
                have H' := Aside0.mk H
                clear H
                go_wp2_with (first | ((with_reducible refine gate_callee (f := 17) rfl ?_); refine goesL_ (some 25) rfl rfl Tryd.func17 (by kernel_rfl) rfl #[] rfl (by (try simp only [List.map_toArray, List.map_cons, List.map_nil]); first | done | rfl | (simp only [List.length_drop, List.length_take]; rfl)) ?_; (with_reducible refine (rotalaw25_lives.calls  true _ ?side1 A15.out).mono ?_); (case side1 => first | exact hLLaidNames | exact hLLaidNames.below (by repeat (first | (with_reducible first | exact HB.out | apply below_alloc | apply pw_below_drewN | apply below_drew1 | refine below_set ?_ GE182.out) | exact HB.out))); rintro e w' ⟨rfl, ⟨nd, rfl⟩⟩; refine ⟨_, rfl, ?_⟩; have hcz24_0 : w14.cell? ⟨gb182, 0, none⟩ = some (.int .i64 a1_0) := (blk_cell BK182.out 0).trans rfl; have hcz24_1 : w14.cell? ⟨gb182, 1, none⟩ = some (.int .i64 a1_1) := (blk_cell BK182.out 1).trans rfl; have hfz24_0 := blk_frozen BK182.out 0; have hfz24_1 := blk_frozen BK182.out 1) | (go_at_call 21; (with_reducible refine (rotaref25_Of.calls k1 _ _ l0 a1_0 a1_1 t194 _ ?side1 ?side2 A17.out).mono ?_); (case side1 => repeat (first | exact (Kd.C_below HR0.out (by repeat (first | (with_reducible first | exact HB.out | apply below_alloc | apply pw_below_drewN | apply below_drew1 | refine below_set ?_ GE182.out) | exact HB.out))) | (with_reducible refine Kd.C_alloc ?_ _) | (with_reducible refine Kd.C_drewN ?_ _) | (with_reducible refine Kd.C_drew ?_))); (case side2 => exact HC0.out); rintro e w25 ⟨v195, rfl, ho0, hb⟩; have n0_ := Aside0.mk (Kd.R_elder' (by (with_reducible repeat (first | apply Kd.R_alloc | apply Kd.R_drewN | apply Kd.R_drew)); exact HO_7.out) (Kd.R_base ho0) hb); have n1_ := Aside0.mk (Kd.R_elder' (by (with_reducible repeat (first | apply Kd.R_alloc | apply Kd.R_drewN | apply Kd.R_drew)); exact HO189.out) (Kd.R_base ho0) hb); have n2_ := Aside0.mk (Kd.R_elder' (by (with_reducible repeat (first | apply Kd.R_alloc | apply Kd.R_drewN | apply Kd.R_drew)); exact HO192.out) (Kd.R_base ho0) hb); have n3_ := Aside0.mk (Kd.R_lower (Kd.R_new' (Kd.R_new' (Kd.R_new' ho0 (Kd.R_lt (by (with_reducible repeat (first | apply Kd.R_alloc | apply Kd.R_drewN | apply Kd.R_drew)); exact HO_7.out))) (Kd.R_lt (by (with_reducible repeat (first | apply Kd.R_alloc | apply Kd.R_drewN | apply Kd.R_drew)); exact HO189.out))) (Kd.R_lt (by (with_reducible repeat (first | apply Kd.R_alloc | apply Kd.R_drewN | apply Kd.R_drew)); exact HO192.out))) (below_size (by repeat (first | (with_reducible first | exact HB.out | apply below_alloc | apply pw_below_drewN | apply below_drew1 | refine below_set ?_ GE182.out) | exact HB.out)))); have n4_ := Aside0.mk (blk_below (g := gb182) (o := .cells #[.int .i64 a1_0, .int .i64 a1_1] 33 (0, 0)) (by (with_reducible repeat (first | refine blk_drewN ?_ _ | refine blk_drew ?_ | refine blk_alloc ?_ _)); exact BK182.out) hb); have n5_ := Aside0.mk (below_step (by repeat (first | (with_reducible first | exact HB.out | apply below_alloc | apply pw_below_drewN | apply below_drew1 | refine below_set ?_ GE182.out) | exact HB.out)) hb); clear HO_7; clear HO189; clear HO192; clear BK182; clear HB; have HO_7 := n0_; have HO189 := n1_; have HO192 := n2_; have HO196 := n3_; have BK182 := n4_; have HB := n5_; clear n0_ n1_ n2_ n3_ n4_ n5_; (try clear hb); (try clear hb2); (try clear hk); (try clear hi); (try clear ho0); obtain ⟨Ao26, co26, eo26⟩ := Kd.R_slice HO189.out; subst eo26; obtain ⟨Ao27, co27, eo27⟩ := Kd.R_slice HO196.out; subst eo27) | (go_at_call 20; (with_reducible refine (rotaref25_Same.calls k1 _ _ t187 _ _ t194 true _ ?side1 ?side2 ?side3 ?side4 A18.out).mono ?_); (case side1 => repeat (first | exact (Kd.R_reads' HO189.out).2.2 | (with_reducible refine Kd.C_alloc ?_ _) | (with_reducible refine Kd.C_drewN ?_ _) | (with_reducible refine Kd.C_drew ?_))); (case side2 => exact (Kd.R_reads' HO189.out).2.1); (case side3 => repeat (first | exact (Kd.R_reads' HO196.out).2.2 | (with_reducible refine Kd.C_alloc ?_ _) | (with_reducible refine Kd.C_drewN ?_ _) | (with_reducible refine Kd.C_drew ?_))); (case side4 => exact (Kd.R_reads' HO196.out).2.1); rintro e w' ⟨rfl, ⟨nd, rfl⟩⟩) | (go_at_call 22; (with_reducible refine (rotaref25_On.calls k1 _ _ l0 a2 t198 _ ?side1 ?side2 A20.out).mono ?_); (case side1 => repeat (first | exact (Kd.C_below HR0.out (by repeat (first | (with_reducible first | exact HB.out | apply below_alloc | apply pw_below_drewN | apply below_drew1 | refine below_set ?_ GE182.out) | exact HB.out))) | (with_reducible refine Kd.C_alloc ?_ _) | (with_reducible refine Kd.C_drewN ?_ _) | (with_reducible refine Kd.C_drew ?_))); (case side2 => exact HC0.out); rintro e w28 ⟨v199, rfl, ho0, hb⟩; have n0_ := Aside0.mk (Kd.R_elder' (by (with_reducible repeat (first | apply Kd.R_alloc | apply Kd.R_drewN | apply Kd.R_drew)); exact HO_7.out) (Kd.R_base ho0) hb); have n1_ := Aside0.mk (Kd.R_elder' (by (with_reducible repeat (first | apply Kd.R_alloc | apply Kd.R_drewN | apply Kd.R_drew)); exact HO189.out) (Kd.R_base ho0) hb); have n2_ := Aside0.mk (Kd.R_elder' (by (with_reducible repeat (first | apply Kd.R_alloc | apply Kd.R_drewN | apply Kd.R_drew)); exact HO192.out) (Kd.R_base ho0) hb); have n3_ := Aside0.mk (Kd.R_elder' (by (with_reducible repeat (first | apply Kd.R_alloc | apply Kd.R_drewN | apply Kd.R_drew)); exact HO196.out) (Kd.R_base ho0) hb); have n4_ := Aside0.mk (Kd.R_lower (Kd.R_new' (Kd.R_new' (Kd.R_new' (Kd.R_new' ho0 (Kd.R_lt (by (with_reducible repeat (first | apply Kd.R_alloc | apply Kd.R_drewN | apply Kd.R_drew)); exact HO_7.out))) (Kd.R_lt (by (with_reducible repeat (first | apply Kd.R_alloc | apply Kd.R_drewN | apply Kd.R_drew)); exact HO189.out))) (Kd.R_lt (by (with_reducible repeat (first | apply Kd.R_alloc | apply Kd.R_drewN | apply Kd.R_drew)); exact HO192.out))) (Kd.R_lt (by (with_reducible repeat (first | apply Kd.R_alloc | apply Kd.R_drewN | apply Kd.R_drew)); exact HO196.out))) (below_size (by repeat (first | (with_reducible first | exact HB.out | apply below_alloc | apply pw_below_drewN | apply below_drew1 | refine below_set ?_ GE182.out) | exact HB.out)))); have n5_ := Aside0.mk (blk_below (g := gb182) (o := .cells #[.int .i64 a1_0, .int .i64 a1_1] 33 (0, 0)) (by (with_reducible repeat (first | refine blk_drewN ?_ _ | refine blk_drew ?_ | refine blk_alloc ?_ _)); exact BK182.out) hb); have n6_ := Aside0.mk (below_step (by repeat (first | (with_reducible first | exact HB.out | apply below_alloc | apply pw_below_drewN | apply below_drew1 | refine below_set ?_ GE182.out) | exact HB.out)) hb); clear HO_7; clear HO189; clear HO192; clear HO196; clear BK182; clear HB; have HO_7 := n0_; have HO189 := n1_; have HO192 := n2_; have HO196 := n3_; have HO200 := n4_; have BK182 := n5_; have HB := n6_; clear n0_ n1_ n2_ n3_ n4_ n5_ n6_; (try clear hb); (try clear hb2); (try clear hk); (try clear hi); (try clear ho0); obtain ⟨Ao29, co29, eo29⟩ := Kd.R_slice HO192.out; subst eo29; obtain ⟨Ao30, co30, eo30⟩ := Kd.R_slice HO200.out; subst eo30) | (go_at_call 20; (with_reducible refine (rotaref25_Same.calls k1 _ _ t190 _ _ t198 true _ ?side1 ?side2 ?side3 ?side4 A21.out).mono ?_); (case side1 => repeat (first | exact (Kd.R_reads' HO192.out).2.2 | (with_reducible refine Kd.C_alloc ?_ _) | (with_reducible refine Kd.C_drewN ?_ _) | (with_reducible refine Kd.C_drew ?_))); (case side2 => exact (Kd.R_reads' HO192.out).2.1); (case side3 => repeat (first | exact (Kd.R_reads' HO200.out).2.2 | (with_reducible refine Kd.C_alloc ?_ _) | (with_reducible refine Kd.C_drewN ?_ _) | (with_reducible refine Kd.C_drew ?_))); (case side4 => exact (Kd.R_reads' HO200.out).2.1); rintro e w' ⟨rfl, ⟨nd, rfl⟩⟩) | (go_at_call 20; (with_reducible refine (rotaref25_Same.calls k1 _ _ x7_1 _ _ l0 t202 _ ?side1 ?side2 ?side3 ?side4 A23.out).mono ?_); (case side1 => repeat (first | exact (Kd.R_reads' HO_7.out).2.2 | (with_reducible refine Kd.C_alloc ?_ _) | (with_reducible refine Kd.C_drewN ?_ _) | (with_reducible refine Kd.C_drew ?_))); (case side2 => exact (Kd.R_reads' HO_7.out).2.1); (case side3 => repeat (first | exact (Kd.C_below HR0.out (by repeat (first | (with_reducible first | exact HB.out | apply below_alloc | apply pw_below_drewN | apply below_drew1 | refine below_set ?_ GE182.out) | exact HB.out))) | (with_reducible refine Kd.C_alloc ?_ _) | (with_reducible refine Kd.C_drewN ?_ _) | (with_reducible refine Kd.C_drew ?_))); (case side4 => exact HC0.out); rintro e w' ⟨rfl, ⟨nd, rfl⟩⟩))
                go_meet
                case rel => exact ⟨_, (!t202), (by first | rfl | (simp; done) | (simp [*]; done)), H', ⟨by have := HK1.out; first | omega | exact Nat.le_refl _⟩, ⟨by (with_reducible repeat (first | apply Kd.R_alloc | apply Kd.R_drewN | apply Kd.R_drew)); exact Kd.R_mono HO_7.out (fun _ hk => ⟨hk.1.1.1.2, hk.1.1.2⟩)⟩, ⟨by (with_reducible repeat (first | apply Kd.R_alloc | apply Kd.R_drewN | apply Kd.R_drew)); exact Kd.R_mono HO189.out (fun _ hk => ⟨hk.1.1.1.2, hk.1.1.2⟩)⟩, ⟨by (with_reducible repeat (first | apply Kd.R_alloc | apply Kd.R_drewN | apply Kd.R_drew)); exact Kd.R_mono HO192.out (fun _ hk => ⟨hk.1.1.1.2, hk.1.1.2⟩)⟩, ⟨by (with_reducible repeat (first | refine blk_drewN ?_ _ | refine blk_drew ?_ | refine blk_alloc ?_ _)); exact BK182.out⟩, ⟨by repeat (first | (with_reducible first | exact HB.out | apply below_alloc | apply pw_below_drewN | apply below_drew1 | refine below_set ?_ GE182.out) | exact HB.out)⟩⟩
              · replace c22 := Bool.eq_false_iff.mpr c22
                subst c22
                have H1 : (rotalaw25_TraceOwn.j1 k1 l0 a2 x7_1 x8_1 t187 t190 true a1_0 a1_1) = some r := by rw [if_neg (show ¬ (false = true) by decide)] at H; exact H
                clear H
                have H := H1
                clear H1
                have H' := Aside0.mk H
                clear H
                go_wp2_with (first | ((with_reducible refine gate_callee (f := 17) rfl ?_); refine goesL_ (some 25) rfl rfl Tryd.func17 (by kernel_rfl) rfl #[] rfl (by (try simp only [List.map_toArray, List.map_cons, List.map_nil]); first | done | rfl | (simp only [List.length_drop, List.length_take]; rfl)) ?_; (with_reducible refine (rotalaw25_lives.calls  true _ ?side1 A15.out).mono ?_); (case side1 => first | exact hLLaidNames | exact hLLaidNames.below (by repeat (first | (with_reducible first | exact HB.out | apply below_alloc | apply pw_below_drewN | apply below_drew1 | refine below_set ?_ GE182.out) | exact HB.out))); rintro e w' ⟨rfl, ⟨nd, rfl⟩⟩; refine ⟨_, rfl, ?_⟩; have hcz31_0 : w14.cell? ⟨gb182, 0, none⟩ = some (.int .i64 a1_0) := (blk_cell BK182.out 0).trans rfl; have hcz31_1 : w14.cell? ⟨gb182, 1, none⟩ = some (.int .i64 a1_1) := (blk_cell BK182.out 1).trans rfl; have hfz31_0 := blk_frozen BK182.out 0; have hfz31_1 := blk_frozen BK182.out 1) | (go_at_call 21; (with_reducible refine (rotaref25_Of.calls k1 _ _ l0 a1_0 a1_1 t194 _ ?side1 ?side2 A17.out).mono ?_); (case side1 => repeat (first | exact (Kd.C_below HR0.out (by repeat (first | (with_reducible first | exact HB.out | apply below_alloc | apply pw_below_drewN | apply below_drew1 | refine below_set ?_ GE182.out) | exact HB.out))) | (with_reducible refine Kd.C_alloc ?_ _) | (with_reducible refine Kd.C_drewN ?_ _) | (with_reducible refine Kd.C_drew ?_))); (case side2 => exact HC0.out); rintro e w32 ⟨v195, rfl, ho0, hb⟩; have n0_ := Aside0.mk (Kd.R_elder' (by (with_reducible repeat (first | apply Kd.R_alloc | apply Kd.R_drewN | apply Kd.R_drew)); exact HO_7.out) (Kd.R_base ho0) hb); have n1_ := Aside0.mk (Kd.R_elder' (by (with_reducible repeat (first | apply Kd.R_alloc | apply Kd.R_drewN | apply Kd.R_drew)); exact HO189.out) (Kd.R_base ho0) hb); have n2_ := Aside0.mk (Kd.R_elder' (by (with_reducible repeat (first | apply Kd.R_alloc | apply Kd.R_drewN | apply Kd.R_drew)); exact HO192.out) (Kd.R_base ho0) hb); have n3_ := Aside0.mk (Kd.R_lower (Kd.R_new' (Kd.R_new' (Kd.R_new' ho0 (Kd.R_lt (by (with_reducible repeat (first | apply Kd.R_alloc | apply Kd.R_drewN | apply Kd.R_drew)); exact HO_7.out))) (Kd.R_lt (by (with_reducible repeat (first | apply Kd.R_alloc | apply Kd.R_drewN | apply Kd.R_drew)); exact HO189.out))) (Kd.R_lt (by (with_reducible repeat (first | apply Kd.R_alloc | apply Kd.R_drewN | apply Kd.R_drew)); exact HO192.out))) (below_size (by repeat (first | (with_reducible first | exact HB.out | apply below_alloc | apply pw_below_drewN | apply below_drew1 | refine below_set ?_ GE182.out) | exact HB.out)))); have n4_ := Aside0.mk (blk_below (g := gb182) (o := .cells #[.int .i64 a1_0, .int .i64 a1_1] 33 (0, 0)) (by (with_reducible repeat (first | refine blk_drewN ?_ _ | refine blk_drew ?_ | refine blk_alloc ?_ _)); exact BK182.out) hb); have n5_ := Aside0.mk (below_step (by repeat (first | (with_reducible first | exact HB.out | apply below_alloc | apply pw_below_drewN | apply below_drew1 | refine below_set ?_ GE182.out) | exact HB.out)) hb); clear HO_7; clear HO189; clear HO192; clear BK182; clear HB; have HO_7 := n0_; have HO189 := n1_; have HO192 := n2_; have HO196 := n3_; have BK182 := n4_; have HB := n5_; clear n0_ n1_ n2_ n3_ n4_ n5_; (try clear hb); (try clear hb2); (try clear hk); (try clear hi); (try clear ho0); obtain ⟨Ao33, co33, eo33⟩ := Kd.R_slice HO189.out; subst eo33; obtain ⟨Ao34, co34, eo34⟩ := Kd.R_slice HO196.out; subst eo34) | (go_at_call 20; (with_reducible refine (rotaref25_Same.calls k1 _ _ t187 _ _ t194 true _ ?side1 ?side2 ?side3 ?side4 A18.out).mono ?_); (case side1 => repeat (first | exact (Kd.R_reads' HO189.out).2.2 | (with_reducible refine Kd.C_alloc ?_ _) | (with_reducible refine Kd.C_drewN ?_ _) | (with_reducible refine Kd.C_drew ?_))); (case side2 => exact (Kd.R_reads' HO189.out).2.1); (case side3 => repeat (first | exact (Kd.R_reads' HO196.out).2.2 | (with_reducible refine Kd.C_alloc ?_ _) | (with_reducible refine Kd.C_drewN ?_ _) | (with_reducible refine Kd.C_drew ?_))); (case side4 => exact (Kd.R_reads' HO196.out).2.1); rintro e w' ⟨rfl, ⟨nd, rfl⟩⟩) | (go_at_call 22; (with_reducible refine (rotaref25_On.calls k1 _ _ l0 a2 t198 _ ?side1 ?side2 A20.out).mono ?_); (case side1 => repeat (first | exact (Kd.C_below HR0.out (by repeat (first | (with_reducible first | exact HB.out | apply below_alloc | apply pw_below_drewN | apply below_drew1 | refine below_set ?_ GE182.out) | exact HB.out))) | (with_reducible refine Kd.C_alloc ?_ _) | (with_reducible refine Kd.C_drewN ?_ _) | (with_reducible refine Kd.C_drew ?_))); (case side2 => exact HC0.out); rintro e w35 ⟨v199, rfl, ho0, hb⟩; have n0_ := Aside0.mk (Kd.R_elder' (by (with_reducible repeat (first | apply Kd.R_alloc | apply Kd.R_drewN | apply Kd.R_drew)); exact HO_7.out) (Kd.R_base ho0) hb); have n1_ := Aside0.mk (Kd.R_elder' (by (with_reducible repeat (first | apply Kd.R_alloc | apply Kd.R_drewN | apply Kd.R_drew)); exact HO189.out) (Kd.R_base ho0) hb); have n2_ := Aside0.mk (Kd.R_elder' (by (with_reducible repeat (first | apply Kd.R_alloc | apply Kd.R_drewN | apply Kd.R_drew)); exact HO192.out) (Kd.R_base ho0) hb); have n3_ := Aside0.mk (Kd.R_elder' (by (with_reducible repeat (first | apply Kd.R_alloc | apply Kd.R_drewN | apply Kd.R_drew)); exact HO196.out) (Kd.R_base ho0) hb); have n4_ := Aside0.mk (Kd.R_lower (Kd.R_new' (Kd.R_new' (Kd.R_new' (Kd.R_new' ho0 (Kd.R_lt (by (with_reducible repeat (first | apply Kd.R_alloc | apply Kd.R_drewN | apply Kd.R_drew)); exact HO_7.out))) (Kd.R_lt (by (with_reducible repeat (first | apply Kd.R_alloc | apply Kd.R_drewN | apply Kd.R_drew)); exact HO189.out))) (Kd.R_lt (by (with_reducible repeat (first | apply Kd.R_alloc | apply Kd.R_drewN | apply Kd.R_drew)); exact HO192.out))) (Kd.R_lt (by (with_reducible repeat (first | apply Kd.R_alloc | apply Kd.R_drewN | apply Kd.R_drew)); exact HO196.out))) (below_size (by repeat (first | (with_reducible first | exact HB.out | apply below_alloc | apply pw_below_drewN | apply below_drew1 | refine below_set ?_ GE182.out) | exact HB.out)))); have n5_ := Aside0.mk (blk_below (g := gb182) (o := .cells #[.int .i64 a1_0, .int .i64 a1_1] 33 (0, 0)) (by (with_reducible repeat (first | refine blk_drewN ?_ _ | refine blk_drew ?_ | refine blk_alloc ?_ _)); exact BK182.out) hb); have n6_ := Aside0.mk (below_step (by repeat (first | (with_reducible first | exact HB.out | apply below_alloc | apply pw_below_drewN | apply below_drew1 | refine below_set ?_ GE182.out) | exact HB.out)) hb); clear HO_7; clear HO189; clear HO192; clear HO196; clear BK182; clear HB; have HO_7 := n0_; have HO189 := n1_; have HO192 := n2_; have HO196 := n3_; have HO200 := n4_; have BK182 := n5_; have HB := n6_; clear n0_ n1_ n2_ n3_ n4_ n5_ n6_; (try clear hb); (try clear hb2); (try clear hk); (try clear hi); (try clear ho0); obtain ⟨Ao36, co36, eo36⟩ := Kd.R_slice HO192.out; subst eo36; obtain ⟨Ao37, co37, eo37⟩ := Kd.R_slice HO200.out; subst eo37) | (go_at_call 20; (with_reducible refine (rotaref25_Same.calls k1 _ _ t190 _ _ t198 false _ ?side1 ?side2 ?side3 ?side4 A21.out).mono ?_); (case side1 => repeat (first | exact (Kd.R_reads' HO192.out).2.2 | (with_reducible refine Kd.C_alloc ?_ _) | (with_reducible refine Kd.C_drewN ?_ _) | (with_reducible refine Kd.C_drew ?_))); (case side2 => exact (Kd.R_reads' HO192.out).2.1); (case side3 => repeat (first | exact (Kd.R_reads' HO200.out).2.2 | (with_reducible refine Kd.C_alloc ?_ _) | (with_reducible refine Kd.C_drewN ?_ _) | (with_reducible refine Kd.C_drew ?_))); (case side4 => exact (Kd.R_reads' HO200.out).2.1); rintro e w' ⟨rfl, ⟨nd, rfl⟩⟩))
                go_meet
                case rel => exact ⟨_, (true), (by first | rfl | (simp; done) | (simp [*]; done)), H', ⟨by have := HK1.out; first | omega | exact Nat.le_refl _⟩, ⟨by (with_reducible repeat (first | apply Kd.R_alloc | apply Kd.R_drewN | apply Kd.R_drew)); exact Kd.R_mono HO_7.out (fun _ hk => ⟨hk.1.1.1.2, hk.1.1.2⟩)⟩, ⟨by (with_reducible repeat (first | apply Kd.R_alloc | apply Kd.R_drewN | apply Kd.R_drew)); exact Kd.R_mono HO189.out (fun _ hk => ⟨hk.1.1.1.2, hk.1.1.2⟩)⟩, ⟨by (with_reducible repeat (first | apply Kd.R_alloc | apply Kd.R_drewN | apply Kd.R_drew)); exact Kd.R_mono HO192.out (fun _ hk => ⟨hk.1.1.1.2, hk.1.1.2⟩)⟩, ⟨by (with_reducible repeat (first | refine blk_drewN ?_ _ | refine blk_drew ?_ | refine blk_alloc ?_ _)); exact BK182.out⟩, ⟨by repeat (first | (with_reducible first | exact HB.out | apply below_alloc | apply pw_below_drewN | apply below_drew1 | refine below_set ?_ GE182.out) | exact HB.out)⟩⟩
            · replace c19 := Bool.eq_false_iff.mpr c19
              subst c19
              have H1 : (rotalaw25_TraceOwn.j1 k1 l0 a2 x7_1 x8_1 t187 t190 true a1_0 a1_1) = some r := by rw [if_neg (show ¬ (false = true) by decide)] at H; exact H
              clear H
              have H := H1
              clear H1
              have H' := Aside0.mk H
              clear H
              go_wp2_with (first | ((with_reducible refine gate_callee (f := 17) rfl ?_); refine goesL_ (some 25) rfl rfl Tryd.func17 (by kernel_rfl) rfl #[] rfl (by (try simp only [List.map_toArray, List.map_cons, List.map_nil]); first | done | rfl | (simp only [List.length_drop, List.length_take]; rfl)) ?_; (with_reducible refine (rotalaw25_lives.calls  true _ ?side1 A15.out).mono ?_); (case side1 => first | exact hLLaidNames | exact hLLaidNames.below (by repeat (first | (with_reducible first | exact HB.out | apply below_alloc | apply pw_below_drewN | apply below_drew1 | refine below_set ?_ GE182.out) | exact HB.out))); rintro e w' ⟨rfl, ⟨nd, rfl⟩⟩; refine ⟨_, rfl, ?_⟩; have hcz38_0 : w14.cell? ⟨gb182, 0, none⟩ = some (.int .i64 a1_0) := (blk_cell BK182.out 0).trans rfl; have hcz38_1 : w14.cell? ⟨gb182, 1, none⟩ = some (.int .i64 a1_1) := (blk_cell BK182.out 1).trans rfl; have hfz38_0 := blk_frozen BK182.out 0; have hfz38_1 := blk_frozen BK182.out 1) | (go_at_call 21; (with_reducible refine (rotaref25_Of.calls k1 _ _ l0 a1_0 a1_1 t194 _ ?side1 ?side2 A17.out).mono ?_); (case side1 => repeat (first | exact (Kd.C_below HR0.out (by repeat (first | (with_reducible first | exact HB.out | apply below_alloc | apply pw_below_drewN | apply below_drew1 | refine below_set ?_ GE182.out) | exact HB.out))) | (with_reducible refine Kd.C_alloc ?_ _) | (with_reducible refine Kd.C_drewN ?_ _) | (with_reducible refine Kd.C_drew ?_))); (case side2 => exact HC0.out); rintro e w39 ⟨v195, rfl, ho0, hb⟩; have n0_ := Aside0.mk (Kd.R_elder' (by (with_reducible repeat (first | apply Kd.R_alloc | apply Kd.R_drewN | apply Kd.R_drew)); exact HO_7.out) (Kd.R_base ho0) hb); have n1_ := Aside0.mk (Kd.R_elder' (by (with_reducible repeat (first | apply Kd.R_alloc | apply Kd.R_drewN | apply Kd.R_drew)); exact HO189.out) (Kd.R_base ho0) hb); have n2_ := Aside0.mk (Kd.R_elder' (by (with_reducible repeat (first | apply Kd.R_alloc | apply Kd.R_drewN | apply Kd.R_drew)); exact HO192.out) (Kd.R_base ho0) hb); have n3_ := Aside0.mk (Kd.R_lower (Kd.R_new' (Kd.R_new' (Kd.R_new' ho0 (Kd.R_lt (by (with_reducible repeat (first | apply Kd.R_alloc | apply Kd.R_drewN | apply Kd.R_drew)); exact HO_7.out))) (Kd.R_lt (by (with_reducible repeat (first | apply Kd.R_alloc | apply Kd.R_drewN | apply Kd.R_drew)); exact HO189.out))) (Kd.R_lt (by (with_reducible repeat (first | apply Kd.R_alloc | apply Kd.R_drewN | apply Kd.R_drew)); exact HO192.out))) (below_size (by repeat (first | (with_reducible first | exact HB.out | apply below_alloc | apply pw_below_drewN | apply below_drew1 | refine below_set ?_ GE182.out) | exact HB.out)))); have n4_ := Aside0.mk (blk_below (g := gb182) (o := .cells #[.int .i64 a1_0, .int .i64 a1_1] 33 (0, 0)) (by (with_reducible repeat (first | refine blk_drewN ?_ _ | refine blk_drew ?_ | refine blk_alloc ?_ _)); exact BK182.out) hb); have n5_ := Aside0.mk (below_step (by repeat (first | (with_reducible first | exact HB.out | apply below_alloc | apply pw_below_drewN | apply below_drew1 | refine below_set ?_ GE182.out) | exact HB.out)) hb); clear HO_7; clear HO189; clear HO192; clear BK182; clear HB; have HO_7 := n0_; have HO189 := n1_; have HO192 := n2_; have HO196 := n3_; have BK182 := n4_; have HB := n5_; clear n0_ n1_ n2_ n3_ n4_ n5_; (try clear hb); (try clear hb2); (try clear hk); (try clear hi); (try clear ho0); obtain ⟨Ao40, co40, eo40⟩ := Kd.R_slice HO189.out; subst eo40; obtain ⟨Ao41, co41, eo41⟩ := Kd.R_slice HO196.out; subst eo41) | (go_at_call 20; (with_reducible refine (rotaref25_Same.calls k1 _ _ t187 _ _ t194 false _ ?side1 ?side2 ?side3 ?side4 A18.out).mono ?_); (case side1 => repeat (first | exact (Kd.R_reads' HO189.out).2.2 | (with_reducible refine Kd.C_alloc ?_ _) | (with_reducible refine Kd.C_drewN ?_ _) | (with_reducible refine Kd.C_drew ?_))); (case side2 => exact (Kd.R_reads' HO189.out).2.1); (case side3 => repeat (first | exact (Kd.R_reads' HO196.out).2.2 | (with_reducible refine Kd.C_alloc ?_ _) | (with_reducible refine Kd.C_drewN ?_ _) | (with_reducible refine Kd.C_drew ?_))); (case side4 => exact (Kd.R_reads' HO196.out).2.1); rintro e w' ⟨rfl, ⟨nd, rfl⟩⟩))
              go_meet
              case rel => exact ⟨_, (true), (by first | rfl | (simp; done) | (simp [*]; done)), H', ⟨by have := HK1.out; first | omega | exact Nat.le_refl _⟩, ⟨by (with_reducible repeat (first | apply Kd.R_alloc | apply Kd.R_drewN | apply Kd.R_drew)); exact Kd.R_mono HO_7.out (fun _ hk => ⟨hk.1.1.2, hk.1.2⟩)⟩, ⟨by (with_reducible repeat (first | apply Kd.R_alloc | apply Kd.R_drewN | apply Kd.R_drew)); exact Kd.R_mono HO189.out (fun _ hk => ⟨hk.1.1.2, hk.1.2⟩)⟩, ⟨by (with_reducible repeat (first | apply Kd.R_alloc | apply Kd.R_drewN | apply Kd.R_drew)); exact Kd.R_mono HO192.out (fun _ hk => ⟨hk.1.1.2, hk.1.2⟩)⟩, ⟨by (with_reducible repeat (first | refine blk_drewN ?_ _ | refine blk_drew ?_ | refine blk_alloc ?_ _)); exact BK182.out⟩, ⟨by repeat (first | (with_reducible first | exact HB.out | apply below_alloc | apply pw_below_drewN | apply below_drew1 | refine below_set ?_ GE182.out) | exact HB.out)⟩⟩
          · replace c16 := Bool.eq_false_iff.mpr c16
            subst c16
            have H1 : (rotalaw25_TraceOwn.j1 k1 l0 a2 x7_1 x8_1 t187 t190 true a1_0 a1_1) = some r := by rw [if_neg (show ¬ (false = true) by decide)] at H; exact H
            clear H
            have H := H1
            clear H1
            have H' := Aside0.mk H
            clear H
            go_wp2_with (first | ((with_reducible refine gate_callee (f := 17) rfl ?_); refine goesL_ (some 25) rfl rfl Tryd.func17 (by kernel_rfl) rfl #[] rfl (by (try simp only [List.map_toArray, List.map_cons, List.map_nil]); first | done | rfl | (simp only [List.length_drop, List.length_take]; rfl)) ?_; (with_reducible refine (rotalaw25_lives.calls  false _ ?side1 A15.out).mono ?_); (case side1 => first | exact hLLaidNames | exact hLLaidNames.below (by repeat (first | (with_reducible first | exact HB.out | apply below_alloc | apply pw_below_drewN | apply below_drew1 | refine below_set ?_ GE182.out) | exact HB.out))); rintro e w' ⟨rfl, ⟨nd, rfl⟩⟩; refine ⟨_, rfl, ?_⟩))
            go_meet
            case rel => exact ⟨_, (true), (by first | rfl | (simp; done) | (simp [*]; done)), H', ⟨by have := HK1.out; first | omega | exact Nat.le_refl _⟩, ⟨by (with_reducible repeat (first | apply Kd.R_alloc | apply Kd.R_drewN | apply Kd.R_drew)); exact Kd.R_mono HO_7.out (fun _ hk => ⟨hk.1.2, hk.2⟩)⟩, ⟨by (with_reducible repeat (first | apply Kd.R_alloc | apply Kd.R_drewN | apply Kd.R_drew)); exact Kd.R_mono HO189.out (fun _ hk => ⟨hk.1.2, hk.2⟩)⟩, ⟨by (with_reducible repeat (first | apply Kd.R_alloc | apply Kd.R_drewN | apply Kd.R_drew)); exact Kd.R_mono HO192.out (fun _ hk => ⟨hk.1.2, hk.2⟩)⟩, ⟨by (with_reducible repeat (first | refine blk_drewN ?_ _ | refine blk_drew ?_ | refine blk_alloc ?_ _)); exact BK182.out⟩, ⟨by repeat (first | (with_reducible first | exact HB.out | apply below_alloc | apply pw_below_drewN | apply below_drew1 | refine below_set ?_ GE182.out) | exact HB.out)⟩⟩
        case rest =>
          clear HC10
          try clear c1
          try clear c2
          try clear p2
          try clear c5
          try clear c7
          try clear c7b0
          try clear c15
          try clear c16
          try clear c17
          try clear c18
          try clear c19
          try clear c22
          try clear hcz11_0
          try clear hcz11_1
          try clear hcz24_0
          try clear hcz24_1
          try clear hcz31_0
          try clear hcz31_1
          try clear hcz38_0
          try clear hcz38_1
          try clear hfz11_0
          try clear hfz11_1
          try clear hfz24_0
          try clear hfz24_1
          try clear hfz31_0
          try clear hfz31_1
          try clear hfz38_0
          try clear hfz38_1
          try clear p2
          obtain ⟨kq, x48_9, rfl, HA, HJ9, HO_7, HO_9, HO_10, BK182, HB⟩ := hcut
          cases kq with
          | zero => exact absurd HA.out (by simp [rotalaw25_TraceOwn.j1])
          | succ kj9 =>
            have H := HA.out
            clear HA
            simp only [rotalaw25_TraceOwn.j1] at H
            by_cases c42 : x48_9 = true
            · subst c42
              have H1 : (some false) = some r := by rw [if_pos rfl] at H; exact H
              clear H
              have H := H1
              clear H1
              obtain rfl := Option.some.inj H
              go_wp2
              go_ret
              exact ⟨by first | rfl | (simp [errW_none, errW_some] <;> rfl) | (simp [*, errW_none, errW_some] <;> rfl), by repeat (first | (with_reducible first | exact HB.out | apply below_alloc | apply pw_below_drewN | apply below_drew1 | refine below_set ?_ GE182.out) | exact HB.out)⟩
            · replace c42 := Bool.eq_false_iff.mpr c42
              subst c42
              have H1 : (rotalaw25_TraceOwn.l1 kj9 l0 a2 x7_1 x8_1 t187 t190 0 a1_0 a1_1) = some r := by rw [if_neg (show ¬ (false = true) by decide)] at H; exact H
              clear H
              have H := H1
              clear H1
              have H' := Aside0.mk H
              clear H
              go_wp2
              go_loopg [11] kj9 (fun kq v11 w' => ∃ (x9_3 : List (S36)) (x11_3 : Int), v11 = .int .i64 x11_3 ∧ Aside0 (rotalaw25_TraceOwn.l1 kq l0 a2 x7_1 x8_1 x9_3 t190 x11_3 a1_0 a1_1 = some r) ∧ Aside0 (kq ≤ kj9) ∧ Aside0 (Kd.R k36 36 w' w.heap.size (fun k_ => some k_ ≠ (v188 : Value).ownBlock ∧ some k_ ≠ (v191 : Value).ownBlock) (.slice Ao12 x7_1.length co12) x7_1) ∧ Aside0 (Kd.R k36 36 w' w.heap.size (fun k_ => some k_ ≠ ((.slice Ao12 x7_1.length co12) : Value).ownBlock ∧ some k_ ≠ (v191 : Value).ownBlock) v188 x9_3) ∧ Aside0 (Kd.R k36 36 w' w.heap.size (fun k_ => some k_ ≠ ((.slice Ao12 x7_1.length co12) : Value).ownBlock ∧ some k_ ≠ (v188 : Value).ownBlock) v191 t190) ∧ Aside0 (w'.heap[gb182]? = some (.cells #[.int .i64 a1_0, .int .i64 a1_1] 33 (0, 0))) ∧ Aside0 (Below w.heap.size w w'))
              case atStart => exact ⟨(t187), (0), (by first | rfl | (simp; done) | (simp [*]; done)), H', ⟨Nat.le_refl _⟩, ⟨by (with_reducible repeat (first | apply Kd.R_alloc | apply Kd.R_drewN | apply Kd.R_drew)); exact HO_7.out⟩, ⟨by (with_reducible repeat (first | apply Kd.R_alloc | apply Kd.R_drewN | apply Kd.R_drew)); exact HO_9.out⟩, ⟨by (with_reducible repeat (first | apply Kd.R_alloc | apply Kd.R_drewN | apply Kd.R_drew)); exact HO_10.out⟩, ⟨by (with_reducible repeat (first | refine blk_drewN ?_ _ | refine blk_drew ?_ | refine blk_alloc ?_ _)); exact BK182.out⟩, ⟨by repeat (first | (with_reducible first | exact HB.out | apply below_alloc | apply pw_below_drewN | apply below_drew1 | refine below_set ?_ GE182.out) | exact HB.out)⟩⟩
              case round =>
                clear H'
                try clear c1
                try clear c2
                try clear p2
                try clear c4
                try clear c5
                try clear c7
                try clear c7b0
                try clear c15
                try clear c16
                try clear c17
                try clear c18
                try clear c19
                try clear c22
                try clear c42
                try clear hcz11_0
                try clear hcz11_1
                try clear hcz24_0
                try clear hcz24_1
                try clear hcz31_0
                try clear hcz31_1
                try clear hcz38_0
                try clear hcz38_1
                try clear hfz11_0
                try clear hfz11_1
                try clear hfz24_0
                try clear hfz24_1
                try clear hfz31_0
                try clear hfz31_1
                try clear hfz38_0
                try clear hfz38_1
                try clear p2
                obtain ⟨x9_3, x11_3, rfl, HA, HK3, HO_7, HO_9, HO_10, BK182, HB⟩ := hrel
                cases gk with
                | zero => exact absurd HA.out (by simp [rotalaw25_TraceOwn.l1])
                | succ k3 =>
                  have H := HA.out
                  clear HA
                  simp only [rotalaw25_TraceOwn.l1] at H
                  by_cases c43 : x11_3 < (x9_3.length : Int)
                  · rw [if_pos c43] at H
                    have c43b0 : decide (x11_3 < (x9_3.length : Int)) = true := decide_eq_true c43
                    clear c43
                    by_cases c44 : 0 ≤ x11_3
                    · rw [if_pos c44] at H
                      have c44b0 : decide (0 ≤ x11_3) = true := decide_eq_true c44
                      clear c44
                      obtain ⟨y203, hy203⟩ : ∃ y_ : List (S36), y_ = (x9_3.set (x11_3 : Int).toNat (⟨(rd_T36 x9_3 x11_3).f0, (rd_T36 x9_3 x11_3).f1, (⟨(rd_T36 x9_3 x11_3).f2.f0, (rd_T36 x9_3 x11_3).f2.f1⟩ : S33), (-7), (rd_T36 x9_3 x11_3).f4, (rd_T36 x9_3 x11_3).f5, (rd_T36 x9_3 x11_3).f6⟩ : S36)) := ⟨_, rfl⟩
                      replace H : (rotalaw25_TraceOwn.l1 k3 l0 a2 x7_1 x8_1 y203 t190 (wrap64 (x11_3 + 1)) a1_0 a1_1) = some r := by first | (rw [hy203]; with_reducible exact H) | (have H2_ := (Option.bind_some _ _).symm.trans H; rw [hy203]; with_reducible exact H2_) | (have H2_ := (Option.bind_some _ _).symm.trans H; with_reducible exact H2_) | with_reducible exact H | (rw [hy203]; exact H) | exact H
                      have Ny203 := Aside0.mk hy203
                      clear hy203
                      have H' := Aside0.mk H
                      clear H
                      obtain ⟨Ao46, co46, eo46⟩ := Kd.R_slice HO_9.out
                      subst eo46
                      have p45 : 0 ≤ (x11_3 : Int) := of_decide_eq_true (by first | (with_reducible assumption) | assumption)
                      have q45 : (x11_3 : Int) < ((x9_3.length : Int) : Int) := of_decide_eq_true (by first | (with_reducible assumption) | assumption)
                      obtain ⟨go45, co45, eo45, gb45, gl45, cl45, HG45⟩ := Kd.R_form HO_9.out (by omega)
                      (first | cases eo45 | (injection eo45 with ea_ en_ ec_; (first | subst ea_ | (injection ea_ with ea_; subst ea_)); subst ec_; clear en_))
                      have GB45 := Aside0.mk gb45
                      have GG45 := Aside0.mk HG45
                      clear gb45 gl45 HG45
                      obtain ⟨ce45, hcl45, hM45, hcc45, hfr45⟩ := Kd.R_elem HO_9.out z36 (x11_3 : Int) p45 q45
                      obtain rfl := k36_openM hM45
                      have hx45_0 : wr.cell? ⟨go45, (x11_3 : Int).toNat * 8, none⟩ = some (.int .u64 ((rd_T36 x9_3 x11_3).f0)) := hcc45 0 _ rfl
                      have hx45_1 : wr.cell? ⟨go45, (x11_3 : Int).toNat * 8 + 1, none⟩ = some (.int .i64 ((rd_T36 x9_3 x11_3).f1)) := hcc45 1 _ rfl
                      have hx45_2 : wr.cell? ⟨go45, (x11_3 : Int).toNat * 8 + 2, none⟩ = some (.int .i64 ((rd_T36 x9_3 x11_3).f2.f0)) := hcc45 2 _ rfl
                      have hx45_3 : wr.cell? ⟨go45, (x11_3 : Int).toNat * 8 + 3, none⟩ = some (.int .i64 ((rd_T36 x9_3 x11_3).f2.f1)) := hcc45 3 _ rfl
                      have hx45_4 : wr.cell? ⟨go45, (x11_3 : Int).toNat * 8 + 4, none⟩ = some (.int .i64 ((rd_T36 x9_3 x11_3).f3)) := hcc45 4 _ rfl
                      have hx45_5 : wr.cell? ⟨go45, (x11_3 : Int).toNat * 8 + 5, none⟩ = some (.int .i64 ((rd_T36 x9_3 x11_3).f4)) := hcc45 5 _ rfl
                      have hx45_6 : wr.cell? ⟨go45, (x11_3 : Int).toNat * 8 + 6, none⟩ = some (.int .i64 ((rd_T36 x9_3 x11_3).f5)) := hcc45 6 _ rfl
                      have hx45_7 : wr.cell? ⟨go45, (x11_3 : Int).toNat * 8 + 7, none⟩ = some (.int .i64 ((rd_T36 x9_3 x11_3).f6)) := hcc45 7 _ rfl
                      have hf45_0 : wr.frozen? ⟨go45, (x11_3 : Int).toNat * 8, none⟩ = false := hfr45 0
                      have hf45_1 : wr.frozen? ⟨go45, (x11_3 : Int).toNat * 8 + 1, none⟩ = false := hfr45 1
                      have hf45_2 : wr.frozen? ⟨go45, (x11_3 : Int).toNat * 8 + 2, none⟩ = false := hfr45 2
                      have hf45_3 : wr.frozen? ⟨go45, (x11_3 : Int).toNat * 8 + 3, none⟩ = false := hfr45 3
                      have hf45_4 : wr.frozen? ⟨go45, (x11_3 : Int).toNat * 8 + 4, none⟩ = false := hfr45 4
                      have hf45_5 : wr.frozen? ⟨go45, (x11_3 : Int).toNat * 8 + 5, none⟩ = false := hfr45 5
                      have hf45_6 : wr.frozen? ⟨go45, (x11_3 : Int).toNat * 8 + 6, none⟩ = false := hfr45 6
                      have hf45_7 : wr.frozen? ⟨go45, (x11_3 : Int).toNat * 8 + 7, none⟩ = false := hfr45 7
                      clear hcl45 hcc45 hfr45 hM45
                      replace p45 := eq_true p45
                      replace q45 := eq_true q45
                      have HX47 := Aside0.mk (show Kd.R k36 36 wr w.heap.size (fun k_ => some k_ ≠ (.slice Ao12 x7_1.length co12 : Value).ownBlock ∧ some k_ ≠ (v191 : Value).ownBlock) (.slice (some ⟨go45, 0, none⟩) x9_3.length co46) x9_3 from (by (with_reducible repeat (first | apply Kd.R_alloc | apply Kd.R_drewN | apply Kd.R_drew)); exact HO_9.out))
                      obtain ⟨ce47, hcl47, hM47, hcc47, hfr47⟩ := Kd.R_elem HX47.out z36 (x11_3 : Int) (of_decide_eq_true (by first | (with_reducible assumption) | assumption)) (by have h_ : (x11_3 : Int) < ((x9_3.length : Int) : Int) := of_decide_eq_true (by first | (with_reducible assumption) | assumption); first | exact h_ | (have e_ := (Kd.R_reads' HO_9.out).1; omega) | simpa using h_)
                      obtain rfl := k36_openM hM47
                      have HP47 := Kd.R_seg HX47.out (x11_3 : Int) (of_decide_eq_true (by first | (with_reducible assumption) | assumption)) (by have h_ : (x11_3 : Int) < ((x9_3.length : Int) : Int) := of_decide_eq_true (by first | (with_reducible assumption) | assumption); first | exact h_ | (have e_ := (Kd.R_reads' HO_9.out).1; omega) | simpa using h_) (seg := [.int .i64 (-7)]) (j := 4) hcl47 hcc47 (show 5 ≤ 8 from by decide) (x' := (⟨(rd_T36 x9_3 x11_3).f0, (rd_T36 x9_3 x11_3).f1, (⟨(rd_T36 x9_3 x11_3).f2.f0, (rd_T36 x9_3 x11_3).f2.f1⟩ : S33), (-7), (rd_T36 x9_3 x11_3).f4, (rd_T36 x9_3 x11_3).f5, (rd_T36 x9_3 x11_3).f6⟩ : S36)) (k36_mkM _ _ _ (⟨(rd_T36 x9_3 x11_3).f0, (rd_T36 x9_3 x11_3).f1, (⟨(rd_T36 x9_3 x11_3).f2.f0, (rd_T36 x9_3 x11_3).f2.f1⟩ : S33), (-7), (rd_T36 x9_3 x11_3).f4, (rd_T36 x9_3 x11_3).f5, (rd_T36 x9_3 x11_3).f6⟩ : S36) ) (fun _ hk => hk)
                      have hx47_4 := hcc47 4 _ rfl
                      (try simp only [show (k36).sz = 8 from rfl, Nat.mul_one, Nat.add_zero] at hx47_4)
                      have hf47_4 := hfr47 4
                      (try simp only [show (k36).sz = 8 from rfl, Nat.mul_one, Nat.add_zero] at hf47_4)
                      clear hcl47 hcc47 hfr47 hM47
                      go_wp2_with (first | ((with_reducible refine gate_store (t := 3) (p := 58) rfl ?_); refine store_event (t := 3) (p := 58) (v := ?vo_w48) (w1 := (wr.setCell ⟨go45, (x11_3 : Int).toNat * 8 + 4, none⟩ (.int .i64 (-7)))) ?hg ?ho ?hn ?hr ?_; (case ho => rfl); (case hg => rfl); (case hn => rfl); (case hr => first | (go_simp; done) | (go_simp; rfl)); intro w48 hw; have hg : wr.grownBy w48 (some go45) := (by rw [hw]; exact HP47.2); have hp_ : Kd.R k36 36 w48 w.heap.size (fun k_ => some k_ ≠ (.slice Ao12 x7_1.length co12 : Value).ownBlock ∧ some k_ ≠ (v191 : Value).ownBlock) (.slice (some ⟨go45, 0, none⟩) x9_3.length co46) y203 := (by rw [hw, Ny203.out]; exact HP47.1); clear HP47; have n0_ := Aside0.mk (Kd.R_after (v := (.slice (some ⟨go45, 0, none⟩) x9_3.length co46)) (v1 := (.slice (some ⟨go45, 0, none⟩) x9_3.length co46)) (ok := (fun k_ => some k_ ≠ (v191 : Value).ownBlock)) (by (with_reducible repeat (first | apply Kd.R_alloc | apply Kd.R_drewN | apply Kd.R_drew)); exact Kd.R_mono HO_7.out (fun _ hk => ⟨hk.2, hk.1⟩)) hg (.inl rfl)); have n1_ := Aside0.mk (hp_); have n2_ := Aside0.mk (Kd.R_after (v := (.slice (some ⟨go45, 0, none⟩) x9_3.length co46)) (v1 := (.slice (some ⟨go45, 0, none⟩) x9_3.length co46)) (ok := (fun k_ => some k_ ≠ (.slice Ao12 x7_1.length co12 : Value).ownBlock)) (by (with_reducible repeat (first | apply Kd.R_alloc | apply Kd.R_drewN | apply Kd.R_drew)); exact HO_10.out) hg (.inl rfl)); have n3_ := Aside0.mk (blk_grown (g := gb182) (o := .cells #[.int .i64 a1_0, .int .i64 a1_1] 33 (0, 0)) (by (with_reducible repeat (first | refine blk_drewN ?_ _ | refine blk_drew ?_ | refine blk_alloc ?_ _)); exact BK182.out) hg (Kd.R_ne HO_9.out BK182.out (by decide))); have n4_ := Aside0.mk ((by rw [hw]; exact below_set (HB.out) GB45.out : Below w.heap.size w w48)); clear HO_7; clear HO_9; clear HO_10; clear BK182; clear HB; have HO_7 := n0_; have HO_9 := n1_; have HO_10 := n2_; have BK182 := n3_; have HB := n4_; clear n0_ n1_ n2_ n3_ n4_; clear hg hw hp_))
                      go_roundg k3
                      case measure => have := HK1.out; have := HJ9.out; have := HK3.out; omega
                      case rel => exact ⟨(y203), (wrap64 (x11_3 + 1)), (by first | rfl | (simp; done) | (simp [*]; done)), H', ⟨by have := HK1.out; have := HJ9.out; have := HK3.out; omega⟩, ⟨by (with_reducible repeat (first | apply Kd.R_alloc | apply Kd.R_drewN | apply Kd.R_drew)); exact Kd.R_mono HO_7.out (fun _ hk => ⟨hk.2, hk.1⟩)⟩, ⟨by (with_reducible repeat (first | apply Kd.R_alloc | apply Kd.R_drewN | apply Kd.R_drew)); exact HO_9.out⟩, ⟨by (with_reducible repeat (first | apply Kd.R_alloc | apply Kd.R_drewN | apply Kd.R_drew)); exact HO_10.out⟩, ⟨by (with_reducible repeat (first | refine blk_drewN ?_ _ | refine blk_drew ?_ | refine blk_alloc ?_ _)); exact BK182.out⟩, ⟨by repeat (first | (with_reducible first | exact HB.out | apply below_alloc | apply pw_below_drewN | apply below_drew1 | refine below_set ?_ GE182.out) | exact HB.out)⟩⟩
                    · rw [if_neg c44] at H
                      exact absurd H (by simp)
                  · rw [if_neg c43] at H
                    have c43b0 : decide (x11_3 < (x9_3.length : Int)) = false := decide_eq_false c43
                    clear c43
                    have H' := Aside0.mk H
                    clear H
                    obtain ⟨Ao49, co49, eo49⟩ := Kd.R_slice HO_9.out
                    subst eo49
                    go_wp2
                    go_loopg [12] k3 (fun kq v12 w' => ∃ (x10_4 : List (S36)) (x12_4 : Int), v12 = .int .i64 x12_4 ∧ Aside0 (rotalaw25_TraceOwn.l2 kq l0 a2 x7_1 x8_1 x9_3 x10_4 x12_4 a1_0 a1_1 = some r) ∧ Aside0 (kq ≤ k3) ∧ Aside0 (Kd.R k36 36 w' w.heap.size (fun k_ => some k_ ≠ ((.slice Ao49 x9_3.length co49) : Value).ownBlock ∧ some k_ ≠ (v191 : Value).ownBlock) (.slice Ao12 x7_1.length co12) x7_1) ∧ Aside0 (Kd.R k36 36 w' w.heap.size (fun k_ => some k_ ≠ ((.slice Ao12 x7_1.length co12) : Value).ownBlock ∧ some k_ ≠ (v191 : Value).ownBlock) (.slice Ao49 x9_3.length co49) x9_3) ∧ Aside0 (Kd.R k36 36 w' w.heap.size (fun k_ => some k_ ≠ ((.slice Ao12 x7_1.length co12) : Value).ownBlock ∧ some k_ ≠ ((.slice Ao49 x9_3.length co49) : Value).ownBlock) v191 x10_4) ∧ Aside0 (w'.heap[gb182]? = some (.cells #[.int .i64 a1_0, .int .i64 a1_1] 33 (0, 0))) ∧ Aside0 (Below w.heap.size w w'))
                    case atStart => exact ⟨(t190), (0), (by first | rfl | (simp; done) | (simp [*]; done)), H', ⟨Nat.le_refl _⟩, ⟨by (with_reducible repeat (first | apply Kd.R_alloc | apply Kd.R_drewN | apply Kd.R_drew)); exact HO_7.out⟩, ⟨by (with_reducible repeat (first | apply Kd.R_alloc | apply Kd.R_drewN | apply Kd.R_drew)); exact HO_9.out⟩, ⟨by (with_reducible repeat (first | apply Kd.R_alloc | apply Kd.R_drewN | apply Kd.R_drew)); exact HO_10.out⟩, ⟨by (with_reducible repeat (first | refine blk_drewN ?_ _ | refine blk_drew ?_ | refine blk_alloc ?_ _)); exact BK182.out⟩, ⟨by repeat (first | (with_reducible first | exact HB.out | apply below_alloc | apply pw_below_drewN | apply below_drew1 | refine below_set ?_ GE182.out) | exact HB.out)⟩⟩
                    case round =>
                      clear H'
                      try clear c1
                      try clear c2
                      try clear p2
                      try clear c4
                      try clear p4
                      try clear q4
                      try clear hx4
                      try clear hf4
                      try clear c5
                      try clear p6
                      try clear c7
                      try clear c7b0
                      try clear c15
                      try clear c16
                      try clear c17
                      try clear c18
                      try clear c19
                      try clear c22
                      try clear c42
                      try clear c43
                      try clear c43b0
                      try clear c44
                      try clear c44b0
                      try clear c45
                      try clear p45
                      try clear q45
                      try clear hx45
                      try clear hf45
                      try clear c47
                      try clear hx47
                      try clear hf47
                      try clear hcz11_0
                      try clear hcz11_1
                      try clear hcz24_0
                      try clear hcz24_1
                      try clear hcz31_0
                      try clear hcz31_1
                      try clear hcz38_0
                      try clear hcz38_1
                      try clear hfz11_0
                      try clear hfz11_1
                      try clear hfz24_0
                      try clear hfz24_1
                      try clear hfz31_0
                      try clear hfz31_1
                      try clear hfz38_0
                      try clear hfz38_1
                      try clear hx45_0
                      try clear hx45_1
                      try clear hx45_2
                      try clear hx45_3
                      try clear hx45_4
                      try clear hx45_5
                      try clear hx45_6
                      try clear hx45_7
                      try clear hx47_4
                      try clear p2
                      try clear p45
                      try clear q45
                      obtain ⟨x10_4, x12_4, rfl, HA, HK4, HO_7, HO_9, HO_10, BK182, HB⟩ := hrel
                      cases gk with
                      | zero => exact absurd HA.out (by simp [rotalaw25_TraceOwn.l2])
                      | succ k4 =>
                        have H := HA.out
                        clear HA
                        simp only [rotalaw25_TraceOwn.l2] at H
                        by_cases c50 : x12_4 < (x10_4.length : Int)
                        · rw [if_pos c50] at H
                          have c50b0 : decide (x12_4 < (x10_4.length : Int)) = true := decide_eq_true c50
                          clear c50
                          by_cases c51 : 0 ≤ x12_4
                          · rw [if_pos c51] at H
                            have c51b0 : decide (0 ≤ x12_4) = true := decide_eq_true c51
                            clear c51
                            obtain ⟨y204, hy204⟩ : ∃ y_ : List (S36), y_ = (x10_4.set (x12_4 : Int).toNat (⟨(rd_T36 x10_4 x12_4).f0, (rd_T36 x10_4 x12_4).f1, (⟨(rd_T36 x10_4 x12_4).f2.f0, (rd_T36 x10_4 x12_4).f2.f1⟩ : S33), (-8), (rd_T36 x10_4 x12_4).f4, (rd_T36 x10_4 x12_4).f5, (rd_T36 x10_4 x12_4).f6⟩ : S36)) := ⟨_, rfl⟩
                            replace H : (rotalaw25_TraceOwn.l2 k4 l0 a2 x7_1 x8_1 x9_3 y204 (wrap64 (x12_4 + 1)) a1_0 a1_1) = some r := by first | (rw [hy204]; with_reducible exact H) | (have H2_ := (Option.bind_some _ _).symm.trans H; rw [hy204]; with_reducible exact H2_) | (have H2_ := (Option.bind_some _ _).symm.trans H; with_reducible exact H2_) | with_reducible exact H | (rw [hy204]; exact H) | exact H
                            have Ny204 := Aside0.mk hy204
                            clear hy204
                            have H' := Aside0.mk H
                            clear H
                            obtain ⟨Ao53, co53, eo53⟩ := Kd.R_slice HO_10.out
                            subst eo53
                            have p52 : 0 ≤ (x12_4 : Int) := of_decide_eq_true (by first | (with_reducible assumption) | assumption)
                            have q52 : (x12_4 : Int) < ((x10_4.length : Int) : Int) := of_decide_eq_true (by first | (with_reducible assumption) | assumption)
                            obtain ⟨go52, co52, eo52, gb52, gl52, cl52, HG52⟩ := Kd.R_form HO_10.out (by omega)
                            (first | cases eo52 | (injection eo52 with ea_ en_ ec_; (first | subst ea_ | (injection ea_ with ea_; subst ea_)); subst ec_; clear en_))
                            have GB52 := Aside0.mk gb52
                            have GG52 := Aside0.mk HG52
                            clear gb52 gl52 HG52
                            obtain ⟨ce52, hcl52, hM52, hcc52, hfr52⟩ := Kd.R_elem HO_10.out z36 (x12_4 : Int) p52 q52
                            obtain rfl := k36_openM hM52
                            have hx52_0 : wr.cell? ⟨go52, (x12_4 : Int).toNat * 8, none⟩ = some (.int .u64 ((rd_T36 x10_4 x12_4).f0)) := hcc52 0 _ rfl
                            have hx52_1 : wr.cell? ⟨go52, (x12_4 : Int).toNat * 8 + 1, none⟩ = some (.int .i64 ((rd_T36 x10_4 x12_4).f1)) := hcc52 1 _ rfl
                            have hx52_2 : wr.cell? ⟨go52, (x12_4 : Int).toNat * 8 + 2, none⟩ = some (.int .i64 ((rd_T36 x10_4 x12_4).f2.f0)) := hcc52 2 _ rfl
                            have hx52_3 : wr.cell? ⟨go52, (x12_4 : Int).toNat * 8 + 3, none⟩ = some (.int .i64 ((rd_T36 x10_4 x12_4).f2.f1)) := hcc52 3 _ rfl
                            have hx52_4 : wr.cell? ⟨go52, (x12_4 : Int).toNat * 8 + 4, none⟩ = some (.int .i64 ((rd_T36 x10_4 x12_4).f3)) := hcc52 4 _ rfl
                            have hx52_5 : wr.cell? ⟨go52, (x12_4 : Int).toNat * 8 + 5, none⟩ = some (.int .i64 ((rd_T36 x10_4 x12_4).f4)) := hcc52 5 _ rfl
                            have hx52_6 : wr.cell? ⟨go52, (x12_4 : Int).toNat * 8 + 6, none⟩ = some (.int .i64 ((rd_T36 x10_4 x12_4).f5)) := hcc52 6 _ rfl
                            have hx52_7 : wr.cell? ⟨go52, (x12_4 : Int).toNat * 8 + 7, none⟩ = some (.int .i64 ((rd_T36 x10_4 x12_4).f6)) := hcc52 7 _ rfl
                            have hf52_0 : wr.frozen? ⟨go52, (x12_4 : Int).toNat * 8, none⟩ = false := hfr52 0
                            have hf52_1 : wr.frozen? ⟨go52, (x12_4 : Int).toNat * 8 + 1, none⟩ = false := hfr52 1
                            have hf52_2 : wr.frozen? ⟨go52, (x12_4 : Int).toNat * 8 + 2, none⟩ = false := hfr52 2
                            have hf52_3 : wr.frozen? ⟨go52, (x12_4 : Int).toNat * 8 + 3, none⟩ = false := hfr52 3
                            have hf52_4 : wr.frozen? ⟨go52, (x12_4 : Int).toNat * 8 + 4, none⟩ = false := hfr52 4
                            have hf52_5 : wr.frozen? ⟨go52, (x12_4 : Int).toNat * 8 + 5, none⟩ = false := hfr52 5
                            have hf52_6 : wr.frozen? ⟨go52, (x12_4 : Int).toNat * 8 + 6, none⟩ = false := hfr52 6
                            have hf52_7 : wr.frozen? ⟨go52, (x12_4 : Int).toNat * 8 + 7, none⟩ = false := hfr52 7
                            clear hcl52 hcc52 hfr52 hM52
                            replace p52 := eq_true p52
                            replace q52 := eq_true q52
                            have HX54 := Aside0.mk (show Kd.R k36 36 wr w.heap.size (fun k_ => some k_ ≠ (.slice Ao12 x7_1.length co12 : Value).ownBlock ∧ some k_ ≠ (.slice Ao49 x9_3.length co49 : Value).ownBlock) (.slice (some ⟨go52, 0, none⟩) x10_4.length co53) x10_4 from (by (with_reducible repeat (first | apply Kd.R_alloc | apply Kd.R_drewN | apply Kd.R_drew)); exact HO_10.out))
                            obtain ⟨ce54, hcl54, hM54, hcc54, hfr54⟩ := Kd.R_elem HX54.out z36 (x12_4 : Int) (of_decide_eq_true (by first | (with_reducible assumption) | assumption)) (by have h_ : (x12_4 : Int) < ((x10_4.length : Int) : Int) := of_decide_eq_true (by first | (with_reducible assumption) | assumption); first | exact h_ | (have e_ := (Kd.R_reads' HO_10.out).1; omega) | simpa using h_)
                            obtain rfl := k36_openM hM54
                            have HP54 := Kd.R_seg HX54.out (x12_4 : Int) (of_decide_eq_true (by first | (with_reducible assumption) | assumption)) (by have h_ : (x12_4 : Int) < ((x10_4.length : Int) : Int) := of_decide_eq_true (by first | (with_reducible assumption) | assumption); first | exact h_ | (have e_ := (Kd.R_reads' HO_10.out).1; omega) | simpa using h_) (seg := [.int .i64 (-8)]) (j := 4) hcl54 hcc54 (show 5 ≤ 8 from by decide) (x' := (⟨(rd_T36 x10_4 x12_4).f0, (rd_T36 x10_4 x12_4).f1, (⟨(rd_T36 x10_4 x12_4).f2.f0, (rd_T36 x10_4 x12_4).f2.f1⟩ : S33), (-8), (rd_T36 x10_4 x12_4).f4, (rd_T36 x10_4 x12_4).f5, (rd_T36 x10_4 x12_4).f6⟩ : S36)) (k36_mkM _ _ _ (⟨(rd_T36 x10_4 x12_4).f0, (rd_T36 x10_4 x12_4).f1, (⟨(rd_T36 x10_4 x12_4).f2.f0, (rd_T36 x10_4 x12_4).f2.f1⟩ : S33), (-8), (rd_T36 x10_4 x12_4).f4, (rd_T36 x10_4 x12_4).f5, (rd_T36 x10_4 x12_4).f6⟩ : S36) ) (fun _ hk => hk)
                            have hx54_4 := hcc54 4 _ rfl
                            (try simp only [show (k36).sz = 8 from rfl, Nat.mul_one, Nat.add_zero] at hx54_4)
                            have hf54_4 := hfr54 4
                            (try simp only [show (k36).sz = 8 from rfl, Nat.mul_one, Nat.add_zero] at hf54_4)
                            clear hcl54 hcc54 hfr54 hM54
                            go_wp2_with (first | ((with_reducible refine gate_store (t := 3) (p := 68) rfl ?_); refine store_event (t := 3) (p := 68) (v := ?vo_w55) (w1 := (wr.setCell ⟨go52, (x12_4 : Int).toNat * 8 + 4, none⟩ (.int .i64 (-8)))) ?hg ?ho ?hn ?hr ?_; (case ho => rfl); (case hg => rfl); (case hn => rfl); (case hr => first | (go_simp; done) | (go_simp; rfl)); intro w55 hw; have hg : wr.grownBy w55 (some go52) := (by rw [hw]; exact HP54.2); have hp_ : Kd.R k36 36 w55 w.heap.size (fun k_ => some k_ ≠ (.slice Ao12 x7_1.length co12 : Value).ownBlock ∧ some k_ ≠ (.slice Ao49 x9_3.length co49 : Value).ownBlock) (.slice (some ⟨go52, 0, none⟩) x10_4.length co53) y204 := (by rw [hw, Ny204.out]; exact HP54.1); clear HP54; have n0_ := Aside0.mk (Kd.R_after (v := (.slice (some ⟨go52, 0, none⟩) x10_4.length co53)) (v1 := (.slice (some ⟨go52, 0, none⟩) x10_4.length co53)) (ok := (fun k_ => some k_ ≠ (.slice Ao49 x9_3.length co49 : Value).ownBlock)) (by (with_reducible repeat (first | apply Kd.R_alloc | apply Kd.R_drewN | apply Kd.R_drew)); exact HO_7.out) hg (.inl rfl)); have n1_ := Aside0.mk (Kd.R_after (v := (.slice (some ⟨go52, 0, none⟩) x10_4.length co53)) (v1 := (.slice (some ⟨go52, 0, none⟩) x10_4.length co53)) (ok := (fun k_ => some k_ ≠ (.slice Ao12 x7_1.length co12 : Value).ownBlock)) (by (with_reducible repeat (first | apply Kd.R_alloc | apply Kd.R_drewN | apply Kd.R_drew)); exact HO_9.out) hg (.inl rfl)); have n2_ := Aside0.mk (hp_); have n3_ := Aside0.mk (blk_grown (g := gb182) (o := .cells #[.int .i64 a1_0, .int .i64 a1_1] 33 (0, 0)) (by (with_reducible repeat (first | refine blk_drewN ?_ _ | refine blk_drew ?_ | refine blk_alloc ?_ _)); exact BK182.out) hg (Kd.R_ne HO_10.out BK182.out (by decide))); have n4_ := Aside0.mk ((by rw [hw]; exact below_set (HB.out) GB52.out : Below w.heap.size w w55)); clear HO_7; clear HO_9; clear HO_10; clear BK182; clear HB; have HO_7 := n0_; have HO_9 := n1_; have HO_10 := n2_; have BK182 := n3_; have HB := n4_; clear n0_ n1_ n2_ n3_ n4_; clear hg hw hp_))
                            go_roundg k4
                            case measure => have := HK1.out; have := HJ9.out; have := HK3.out; have := HK4.out; omega
                            case rel => exact ⟨(y204), (wrap64 (x12_4 + 1)), (by first | rfl | (simp; done) | (simp [*]; done)), H', ⟨by have := HK1.out; have := HJ9.out; have := HK3.out; have := HK4.out; omega⟩, ⟨by (with_reducible repeat (first | apply Kd.R_alloc | apply Kd.R_drewN | apply Kd.R_drew)); exact HO_7.out⟩, ⟨by (with_reducible repeat (first | apply Kd.R_alloc | apply Kd.R_drewN | apply Kd.R_drew)); exact HO_9.out⟩, ⟨by (with_reducible repeat (first | apply Kd.R_alloc | apply Kd.R_drewN | apply Kd.R_drew)); exact HO_10.out⟩, ⟨by (with_reducible repeat (first | refine blk_drewN ?_ _ | refine blk_drew ?_ | refine blk_alloc ?_ _)); exact BK182.out⟩, ⟨by repeat (first | (with_reducible first | exact HB.out | apply below_alloc | apply pw_below_drewN | apply below_drew1 | refine below_set ?_ GE182.out) | exact HB.out)⟩⟩
                          · rw [if_neg c51] at H
                            exact absurd H (by simp)
                        · rw [if_neg c50] at H
                          have c50b0 : decide (x12_4 < (x10_4.length : Int)) = false := decide_eq_false c50
                          clear c50
                          obtain ⟨y205, hy205⟩ : ∃ y_ : List (S36), y_ = (([(⟨0, 0, (⟨0, 0⟩ : S33), 0, 0, 0, 0⟩ : S36), (⟨0, 0, (⟨0, 0⟩ : S33), 0, 0, 0, 0⟩ : S36), (⟨0, 0, (⟨0, 0⟩ : S33), 0, 0, 0, 0⟩ : S36), (⟨0, 0, (⟨0, 0⟩ : S33), 0, 0, 0, 0⟩ : S36)] : List (S36))) := ⟨_, rfl⟩
                          replace H : (if x9_3.length + y205.length < 2199023255552 then ((some (([(⟨0, 0, (⟨0, 0⟩ : S33), 0, 0, 0, 0⟩ : S36), (⟨0, 0, (⟨0, 0⟩ : S33), 0, 0, 0, 0⟩ : S36), (⟨0, 0, (⟨0, 0⟩ : S33), 0, 0, 0, 0⟩ : S36), (⟨0, 0, (⟨0, 0⟩ : S33), 0, 0, 0, 0⟩ : S36)] : List (S36)) : List (S36))).bind fun y211 => (if x10_4.length + y211.length < 2199023255552 then (if (wrap64 (((x9_3 ++ y205).length : Int) + ((x10_4 ++ y211).length : Int))) < 8 then (some false) else (rotalaw25_TraceOwn.l0 k4 l0 a2 x7_1 (wrap64 (x8_1 + 1)) a1_0 a1_1)) else (none))) else (none)) = some r := by first | (rw [hy205]; with_reducible exact H) | (have H2_ := (Option.bind_some _ _).symm.trans H; rw [hy205]; with_reducible exact H2_) | (have H2_ := (Option.bind_some _ _).symm.trans H; with_reducible exact H2_) | with_reducible exact H | (rw [hy205]; exact H) | exact H
                          have Ny205 := Aside0.mk hy205
                          clear hy205
                          by_cases c56 : x9_3.length + y205.length < 2199023255552
                          · rw [if_pos c56] at H
                            have LMc56 := Aside0.mk c56
                            clear c56
                            obtain ⟨y208, hy208⟩ : ∃ y_ : List (S36), y_ = (x9_3 ++ y205) := ⟨_, rfl⟩
                            replace H : ((some (([(⟨0, 0, (⟨0, 0⟩ : S33), 0, 0, 0, 0⟩ : S36), (⟨0, 0, (⟨0, 0⟩ : S33), 0, 0, 0, 0⟩ : S36), (⟨0, 0, (⟨0, 0⟩ : S33), 0, 0, 0, 0⟩ : S36), (⟨0, 0, (⟨0, 0⟩ : S33), 0, 0, 0, 0⟩ : S36)] : List (S36)) : List (S36))).bind fun y211 => (if x10_4.length + y211.length < 2199023255552 then (if (wrap64 ((y208.length : Int) + ((x10_4 ++ y211).length : Int))) < 8 then (some false) else (rotalaw25_TraceOwn.l0 k4 l0 a2 x7_1 (wrap64 (x8_1 + 1)) a1_0 a1_1)) else (none))) = some r := by first | (rw [hy208]; with_reducible exact H) | (have H2_ := (Option.bind_some _ _).symm.trans H; rw [hy208]; with_reducible exact H2_) | (have H2_ := (Option.bind_some _ _).symm.trans H; with_reducible exact H2_) | with_reducible exact H | (rw [hy208]; exact H) | exact H
                            have Ny208 := Aside0.mk hy208
                            clear hy208
                            obtain ⟨y211, hy211⟩ : ∃ y_ : List (S36), y_ = (([(⟨0, 0, (⟨0, 0⟩ : S33), 0, 0, 0, 0⟩ : S36), (⟨0, 0, (⟨0, 0⟩ : S33), 0, 0, 0, 0⟩ : S36), (⟨0, 0, (⟨0, 0⟩ : S33), 0, 0, 0, 0⟩ : S36), (⟨0, 0, (⟨0, 0⟩ : S33), 0, 0, 0, 0⟩ : S36)] : List (S36))) := ⟨_, rfl⟩
                            replace H : (if x10_4.length + y211.length < 2199023255552 then (if (wrap64 ((y208.length : Int) + ((x10_4 ++ y211).length : Int))) < 8 then (some false) else (rotalaw25_TraceOwn.l0 k4 l0 a2 x7_1 (wrap64 (x8_1 + 1)) a1_0 a1_1)) else (none)) = some r := by first | (rw [hy211]; with_reducible exact H) | (have H2_ := (Option.bind_some _ _).symm.trans H; rw [hy211]; with_reducible exact H2_) | (have H2_ := (Option.bind_some _ _).symm.trans H; with_reducible exact H2_) | with_reducible exact H | (rw [hy211]; exact H) | exact H
                            have Ny211 := Aside0.mk hy211
                            clear hy211
                            by_cases c57 : x10_4.length + y211.length < 2199023255552
                            · rw [if_pos c57] at H
                              have LMc57 := Aside0.mk c57
                              clear c57
                              obtain ⟨y214, hy214⟩ : ∃ y_ : List (S36), y_ = (x10_4 ++ y211) := ⟨_, rfl⟩
                              replace H : (if (wrap64 ((y208.length : Int) + (y214.length : Int))) < 8 then (some false) else (rotalaw25_TraceOwn.l0 k4 l0 a2 x7_1 (wrap64 (x8_1 + 1)) a1_0 a1_1)) = some r := by first | (rw [hy214]; with_reducible exact H) | (have H2_ := (Option.bind_some _ _).symm.trans H; rw [hy214]; with_reducible exact H2_) | (have H2_ := (Option.bind_some _ _).symm.trans H; with_reducible exact H2_) | with_reducible exact H | (rw [hy214]; exact H) | exact H
                              have Ny214 := Aside0.mk hy214
                              clear hy214
                              by_cases c58 : (wrap64 ((y208.length : Int) + (y214.length : Int))) < 8
                              · rw [if_pos c58] at H
                                have c58b0 : decide ((wrap64 ((y208.length : Int) + (y214.length : Int))) < 8) = true := decide_eq_true c58
                                clear c58
                                obtain rfl := Option.some.inj H
                                obtain ⟨Ao59, co59, eo59⟩ := Kd.R_slice HO_10.out
                                subst eo59
                                go_wp2_with (first | ((with_reducible refine gate_dst (N := 74) rfl ?_); refine Kd.R_lit k36 _ 36 ?hg (N := 74) ?hd (xs := ([(⟨0, 0, (⟨0, 0⟩ : S33), 0, 0, 0, 0⟩ : S36), (⟨0, 0, (⟨0, 0⟩ : S33), 0, 0, 0, 0⟩ : S36), (⟨0, 0, (⟨0, 0⟩ : S33), 0, 0, 0, 0⟩ : S36), (⟨0, 0, (⟨0, 0⟩ : S33), 0, 0, 0, 0⟩ : S36)] : List (S36))) (inner := [.int .u64 0, .int .i64 0, .int .i64 0, .int .i64 0, .int .i64 0, .int .i64 0, .int .i64 0, .int .i64 0, .int .u64 0, .int .i64 0, .int .i64 0, .int .i64 0, .int .i64 0, .int .i64 0, .int .i64 0, .int .i64 0, .int .u64 0, .int .i64 0, .int .i64 0, .int .i64 0, .int .i64 0, .int .i64 0, .int .i64 0, .int .i64 0, .int .u64 0, .int .i64 0, .int .i64 0, .int .i64 0, .int .i64 0, .int .i64 0, .int .i64 0, .int .i64 0]) (ok := fun _ => True) (okp := fun _ => True) ?hr ?hp (fun _ hk => hk) trivial (Below.refl _ _) (Nat.le_refl _) (by simp) ?_; (case hd => rfl); (case hg => rfl); (case hr => first | (go_simp; done) | (go_simp; rfl)); (case hp => exact (Reps.c8 (show Kd.M k36 _ _ _ (⟨0, 0, (⟨0, 0⟩ : S33), 0, 0, 0, 0⟩ : S36) [.int .u64 0, .int .i64 0, .int .i64 0, .int .i64 0, .int .i64 0, .int .i64 0, .int .i64 0, .int .i64 0] from (k36_mkM _ _ _ (⟨0, 0, (⟨0, 0⟩ : S33), 0, 0, 0, 0⟩ : S36) )) (Reps.c8 (show Kd.M k36 _ _ _ (⟨0, 0, (⟨0, 0⟩ : S33), 0, 0, 0, 0⟩ : S36) [.int .u64 0, .int .i64 0, .int .i64 0, .int .i64 0, .int .i64 0, .int .i64 0, .int .i64 0, .int .i64 0] from (k36_mkM _ _ _ (⟨0, 0, (⟨0, 0⟩ : S33), 0, 0, 0, 0⟩ : S36) )) (Reps.c8 (show Kd.M k36 _ _ _ (⟨0, 0, (⟨0, 0⟩ : S33), 0, 0, 0, 0⟩ : S36) [.int .u64 0, .int .i64 0, .int .i64 0, .int .i64 0, .int .i64 0, .int .i64 0, .int .i64 0, .int .i64 0] from (k36_mkM _ _ _ (⟨0, 0, (⟨0, 0⟩ : S33), 0, 0, 0, 0⟩ : S36) )) (Reps.c8 (show Kd.M k36 _ _ _ (⟨0, 0, (⟨0, 0⟩ : S33), 0, 0, 0, 0⟩ : S36) [.int .u64 0, .int .i64 0, .int .i64 0, .int .i64 0, .int .i64 0, .int .i64 0, .int .i64 0, .int .i64 0] from (k36_mkM _ _ _ (⟨0, 0, (⟨0, 0⟩ : S33), 0, 0, 0, 0⟩ : S36) )) (Reps.none _ _)))))); intro v206 w60 ho61 hb hg_ hnew_; clear hg_ hnew_; (first | rw [← Ny205.out] at ho61 | (simp only [Int.reduceToNat] at ho61; rw [← Ny205.out] at ho61)); have n0_ := Aside0.mk (Kd.R_elder' (by (with_reducible repeat (first | apply Kd.R_alloc | apply Kd.R_drewN | apply Kd.R_drew)); exact HO_7.out) (Kd.R_base ho61) hb); have n1_ := Aside0.mk (Kd.R_elder' (by (with_reducible repeat (first | apply Kd.R_alloc | apply Kd.R_drewN | apply Kd.R_drew)); exact HO_9.out) (Kd.R_base ho61) hb); have n2_ := Aside0.mk (Kd.R_elder' (by (with_reducible repeat (first | apply Kd.R_alloc | apply Kd.R_drewN | apply Kd.R_drew)); exact HO_10.out) (Kd.R_base ho61) hb); have n3_ := Aside0.mk (Kd.R_lower (Kd.R_new' (Kd.R_new' (Kd.R_new' ho61 (Kd.R_lt (by (with_reducible repeat (first | apply Kd.R_alloc | apply Kd.R_drewN | apply Kd.R_drew)); exact HO_7.out))) (Kd.R_lt (by (with_reducible repeat (first | apply Kd.R_alloc | apply Kd.R_drewN | apply Kd.R_drew)); exact HO_9.out))) (Kd.R_lt (by (with_reducible repeat (first | apply Kd.R_alloc | apply Kd.R_drewN | apply Kd.R_drew)); exact HO_10.out))) (below_size (by repeat (first | (with_reducible first | exact HB.out | apply below_alloc | apply pw_below_drewN | apply below_drew1 | refine below_set ?_ GE182.out) | exact HB.out)))); have n4_ := Aside0.mk (blk_below (g := gb182) (o := .cells #[.int .i64 a1_0, .int .i64 a1_1] 33 (0, 0)) (by (with_reducible repeat (first | refine blk_drewN ?_ _ | refine blk_drew ?_ | refine blk_alloc ?_ _)); exact BK182.out) hb); have n5_ := Aside0.mk (below_step (by repeat (first | (with_reducible first | exact HB.out | apply below_alloc | apply pw_below_drewN | apply below_drew1 | refine below_set ?_ GE182.out) | exact HB.out)) hb); clear HO_7; clear HO_9; clear HO_10; clear BK182; clear HB; have HO_7 := n0_; have HO_9 := n1_; have HO_10 := n2_; have HO207 := n3_; have BK182 := n4_; have HB := n5_; clear n0_ n1_ n2_ n3_ n4_ n5_; clear hb ho61; obtain ⟨Ao63, co63, eo63⟩ := Kd.R_slice HO207.out; subst eo63) | ((with_reducible refine gate_builtin (b := .append) (xs := #[.tmp 69, .tmp 74]) rfl ?_); at_builtin; refine Kd.R_append_rows k36 (w0 := w) w.heap.size rfl (.tmp 69) (.tmp 74) 22 36 (.agg #[(.int .u64 0), (.int .i64 0), (.int .i64 0), (.int .i64 0), (.int .i64 0), (.int .i64 0), (.int .i64 0), (.int .i64 0)]) 64 rfl Tryd.underlying22 info36 rfl (by decide) (by omega) (.slice Ao49 x9_3.length co49) x9_3 y205 _ _ _ (fun k_ => some k_ ≠ (.slice Ao12 x7_1.length co12 : Value).ownBlock ∧ some k_ ≠ (.slice Ao59 x10_4.length co59 : Value).ownBlock ∧ some k_ ≠ (.slice Ao63 y205.length co63 : Value).ownBlock) (fun _ => False) rfl rfl ?aO ?aR (fun _ _ h => h) (fun _ h => h.elim) ?aF ?aB ?aS ?aL ?_; (case aR => repeat (first | exact (Kd.R_reads' HO207.out).2.2 | (with_reducible refine Kd.C_alloc ?_ _) | (with_reducible refine Kd.C_drewN ?_ _) | (with_reducible refine Kd.C_drew ?_))); (case aB => exact (by repeat (first | (with_reducible first | exact HB.out | apply below_alloc | apply pw_below_drewN | apply below_drew1 | refine below_set ?_ GE182.out) | exact HB.out))); (case aF => exact (fun k_ hk => ⟨Kd.fresh' (Kd.R_lt (by (with_reducible repeat (first | apply Kd.R_alloc | apply Kd.R_drewN | apply Kd.R_drew)); exact HO_7.out)) k_ hk, Kd.fresh' (Kd.R_lt (by (with_reducible repeat (first | apply Kd.R_alloc | apply Kd.R_drewN | apply Kd.R_drew)); exact HO_10.out)) k_ hk, Kd.fresh' (Kd.R_lt (by (with_reducible repeat (first | apply Kd.R_alloc | apply Kd.R_drewN | apply Kd.R_drew)); exact HO207.out)) k_ hk⟩)); (case aO => exact (by (with_reducible repeat (first | apply Kd.R_alloc | apply Kd.R_drewN | apply Kd.R_drew)); exact Kd.R_mono HO_9.out (fun _ hk => ⟨hk.1.1, ⟨hk.1.2, hk.2⟩⟩))); (case aS => exact (below_size (by repeat (first | (with_reducible first | exact HB.out | apply below_alloc | apply pw_below_drewN | apply below_drew1 | refine below_set ?_ GE182.out) | exact HB.out)))); (case aL => have := LMc56.out; omega); intro v209 w62 ho hb hg hat; rw [← Ny208.out] at ho; have n0_ := Aside0.mk (Kd.R_after (ok := (fun k_ => some k_ ≠ (.slice Ao59 x10_4.length co59 : Value).ownBlock ∧ some k_ ≠ (.slice Ao63 y205.length co63 : Value).ownBlock)) (by (with_reducible repeat (first | apply Kd.R_alloc | apply Kd.R_drewN | apply Kd.R_drew)); exact Kd.R_mono HO_7.out (fun _ hk => ⟨⟨hk.1.2, hk.2⟩, hk.1.1⟩)) hg hat); have n1_ := Aside0.mk (Kd.R_after (ok := (fun k_ => some k_ ≠ (.slice Ao12 x7_1.length co12 : Value).ownBlock ∧ some k_ ≠ (.slice Ao63 y205.length co63 : Value).ownBlock)) (by (with_reducible repeat (first | apply Kd.R_alloc | apply Kd.R_drewN | apply Kd.R_drew)); exact Kd.R_mono HO_10.out (fun _ hk => ⟨⟨hk.1.1, hk.2⟩, hk.1.2⟩)) hg hat); have n2_ := Aside0.mk (blk_grown (g := gb182) (o := .cells #[.int .i64 a1_0, .int .i64 a1_1] 33 (0, 0)) (by (with_reducible repeat (first | refine blk_drewN ?_ _ | refine blk_drew ?_ | refine blk_alloc ?_ _)); exact BK182.out) hg (Kd.R_ne HO_9.out BK182.out (by decide))); have n3_ := Aside0.mk (Kd.R_after (ok := (fun k_ => some k_ ≠ (.slice Ao12 x7_1.length co12 : Value).ownBlock ∧ some k_ ≠ (.slice Ao59 x10_4.length co59 : Value).ownBlock)) (by (with_reducible repeat (first | apply Kd.R_alloc | apply Kd.R_drewN | apply Kd.R_drew)); exact Kd.R_mono HO207.out (fun _ hk => ⟨⟨hk.1.1.2, hk.2⟩, hk.1.2⟩)) hg hat); have n4_ := Aside0.mk (hb); have n5_ := Aside0.mk (ho); clear HO_7; clear HO_10; clear BK182; clear HO207; clear HB; clear HO_9; have HO_7 := n0_; have HO_10 := n1_; have BK182 := n2_; have HO207 := n3_; have HB := n4_; have HO210 := n5_; clear n0_ n1_ n2_ n3_ n4_ n5_; clear ho hb hg hat) | ((with_reducible refine gate_dst (N := 81) rfl ?_); refine Kd.R_lit k36 _ 36 ?hg (N := 81) ?hd (xs := ([(⟨0, 0, (⟨0, 0⟩ : S33), 0, 0, 0, 0⟩ : S36), (⟨0, 0, (⟨0, 0⟩ : S33), 0, 0, 0, 0⟩ : S36), (⟨0, 0, (⟨0, 0⟩ : S33), 0, 0, 0, 0⟩ : S36), (⟨0, 0, (⟨0, 0⟩ : S33), 0, 0, 0, 0⟩ : S36)] : List (S36))) (inner := [.int .u64 0, .int .i64 0, .int .i64 0, .int .i64 0, .int .i64 0, .int .i64 0, .int .i64 0, .int .i64 0, .int .u64 0, .int .i64 0, .int .i64 0, .int .i64 0, .int .i64 0, .int .i64 0, .int .i64 0, .int .i64 0, .int .u64 0, .int .i64 0, .int .i64 0, .int .i64 0, .int .i64 0, .int .i64 0, .int .i64 0, .int .i64 0, .int .u64 0, .int .i64 0, .int .i64 0, .int .i64 0, .int .i64 0, .int .i64 0, .int .i64 0, .int .i64 0]) (ok := fun _ => True) (okp := fun _ => True) ?hr ?hp (fun _ hk => hk) trivial (Below.refl _ _) (Nat.le_refl _) (by simp) ?_; (case hd => rfl); (case hg => rfl); (case hr => first | (go_simp; done) | (go_simp; rfl)); (case hp => exact (Reps.c8 (show Kd.M k36 _ _ _ (⟨0, 0, (⟨0, 0⟩ : S33), 0, 0, 0, 0⟩ : S36) [.int .u64 0, .int .i64 0, .int .i64 0, .int .i64 0, .int .i64 0, .int .i64 0, .int .i64 0, .int .i64 0] from (k36_mkM _ _ _ (⟨0, 0, (⟨0, 0⟩ : S33), 0, 0, 0, 0⟩ : S36) )) (Reps.c8 (show Kd.M k36 _ _ _ (⟨0, 0, (⟨0, 0⟩ : S33), 0, 0, 0, 0⟩ : S36) [.int .u64 0, .int .i64 0, .int .i64 0, .int .i64 0, .int .i64 0, .int .i64 0, .int .i64 0, .int .i64 0] from (k36_mkM _ _ _ (⟨0, 0, (⟨0, 0⟩ : S33), 0, 0, 0, 0⟩ : S36) )) (Reps.c8 (show Kd.M k36 _ _ _ (⟨0, 0, (⟨0, 0⟩ : S33), 0, 0, 0, 0⟩ : S36) [.int .u64 0, .int .i64 0, .int .i64 0, .int .i64 0, .int .i64 0, .int .i64 0, .int .i64 0, .int .i64 0] from (k36_mkM _ _ _ (⟨0, 0, (⟨0, 0⟩ : S33), 0, 0, 0, 0⟩ : S36) )) (Reps.c8 (show Kd.M k36 _ _ _ (⟨0, 0, (⟨0, 0⟩ : S33), 0, 0, 0, 0⟩ : S36) [.int .u64 0, .int .i64 0, .int .i64 0, .int .i64 0, .int .i64 0, .int .i64 0, .int .i64 0, .int .i64 0] from (k36_mkM _ _ _ (⟨0, 0, (⟨0, 0⟩ : S33), 0, 0, 0, 0⟩ : S36) )) (Reps.none _ _)))))); intro v212 w64 ho65 hb hg_ hnew_; clear hg_ hnew_; (first | rw [← Ny211.out] at ho65 | (simp only [Int.reduceToNat] at ho65; rw [← Ny211.out] at ho65)); have n0_ := Aside0.mk (Kd.R_elder' (by (with_reducible repeat (first | apply Kd.R_alloc | apply Kd.R_drewN | apply Kd.R_drew)); exact HO_7.out) (Kd.R_base ho65) hb); have n1_ := Aside0.mk (Kd.R_elder' (by (with_reducible repeat (first | apply Kd.R_alloc | apply Kd.R_drewN | apply Kd.R_drew)); exact HO_10.out) (Kd.R_base ho65) hb); have n2_ := Aside0.mk (Kd.R_elder' (by (with_reducible repeat (first | apply Kd.R_alloc | apply Kd.R_drewN | apply Kd.R_drew)); exact HO207.out) (Kd.R_base ho65) hb); have n3_ := Aside0.mk (Kd.R_elder' (by (with_reducible repeat (first | apply Kd.R_alloc | apply Kd.R_drewN | apply Kd.R_drew)); exact HO210.out) (Kd.R_base ho65) hb); have n4_ := Aside0.mk (Kd.R_lower (Kd.R_new' (Kd.R_new' (Kd.R_new' (Kd.R_new' ho65 (Kd.R_lt (by (with_reducible repeat (first | apply Kd.R_alloc | apply Kd.R_drewN | apply Kd.R_drew)); exact HO_7.out))) (Kd.R_lt (by (with_reducible repeat (first | apply Kd.R_alloc | apply Kd.R_drewN | apply Kd.R_drew)); exact HO_10.out))) (Kd.R_lt (by (with_reducible repeat (first | apply Kd.R_alloc | apply Kd.R_drewN | apply Kd.R_drew)); exact HO207.out))) (Kd.R_lt (by (with_reducible repeat (first | apply Kd.R_alloc | apply Kd.R_drewN | apply Kd.R_drew)); exact HO210.out))) (below_size (by repeat (first | (with_reducible first | exact HB.out | apply below_alloc | apply pw_below_drewN | apply below_drew1 | refine below_set ?_ GE182.out) | exact HB.out)))); have n5_ := Aside0.mk (blk_below (g := gb182) (o := .cells #[.int .i64 a1_0, .int .i64 a1_1] 33 (0, 0)) (by (with_reducible repeat (first | refine blk_drewN ?_ _ | refine blk_drew ?_ | refine blk_alloc ?_ _)); exact BK182.out) hb); have n6_ := Aside0.mk (below_step (by repeat (first | (with_reducible first | exact HB.out | apply below_alloc | apply pw_below_drewN | apply below_drew1 | refine below_set ?_ GE182.out) | exact HB.out)) hb); clear HO_7; clear HO_10; clear HO207; clear HO210; clear BK182; clear HB; have HO_7 := n0_; have HO_10 := n1_; have HO207 := n2_; have HO210 := n3_; have HO213 := n4_; have BK182 := n5_; have HB := n6_; clear n0_ n1_ n2_ n3_ n4_ n5_ n6_; clear hb ho65; obtain ⟨Ao67, co67, eo67⟩ := Kd.R_slice HO213.out; subst eo67) | ((with_reducible refine gate_builtin (b := .append) (xs := #[.tmp 76, .tmp 81]) rfl ?_); at_builtin; refine Kd.R_append_rows k36 (w0 := w) w.heap.size rfl (.tmp 76) (.tmp 81) 22 36 (.agg #[(.int .u64 0), (.int .i64 0), (.int .i64 0), (.int .i64 0), (.int .i64 0), (.int .i64 0), (.int .i64 0), (.int .i64 0)]) 64 rfl Tryd.underlying22 info36 rfl (by decide) (by omega) (.slice Ao59 x10_4.length co59) x10_4 y211 _ _ _ (fun k_ => some k_ ≠ (.slice Ao12 x7_1.length co12 : Value).ownBlock ∧ some k_ ≠ (.slice Ao63 y205.length co63 : Value).ownBlock ∧ some k_ ≠ (v209 : Value).ownBlock ∧ some k_ ≠ (.slice Ao67 y211.length co67 : Value).ownBlock) (fun _ => False) rfl rfl ?aO ?aR (fun _ _ h => h) (fun _ h => h.elim) ?aF ?aB ?aS ?aL ?_; (case aR => repeat (first | exact (Kd.R_reads' HO213.out).2.2 | (with_reducible refine Kd.C_alloc ?_ _) | (with_reducible refine Kd.C_drewN ?_ _) | (with_reducible refine Kd.C_drew ?_))); (case aB => exact (by repeat (first | (with_reducible first | exact HB.out | apply below_alloc | apply pw_below_drewN | apply below_drew1 | refine below_set ?_ GE182.out) | exact HB.out))); (case aF => exact (fun k_ hk => ⟨Kd.fresh' (Kd.R_lt (by (with_reducible repeat (first | apply Kd.R_alloc | apply Kd.R_drewN | apply Kd.R_drew)); exact HO_7.out)) k_ hk, Kd.fresh' (Kd.R_lt (by (with_reducible repeat (first | apply Kd.R_alloc | apply Kd.R_drewN | apply Kd.R_drew)); exact HO207.out)) k_ hk, Kd.fresh' (Kd.R_lt (by (with_reducible repeat (first | apply Kd.R_alloc | apply Kd.R_drewN | apply Kd.R_drew)); exact HO210.out)) k_ hk, Kd.fresh' (Kd.R_lt (by (with_reducible repeat (first | apply Kd.R_alloc | apply Kd.R_drewN | apply Kd.R_drew)); exact HO213.out)) k_ hk⟩)); (case aO => exact (by (with_reducible repeat (first | apply Kd.R_alloc | apply Kd.R_drewN | apply Kd.R_drew)); exact Kd.R_mono HO_10.out (fun _ hk => ⟨hk.1.1.1, ⟨hk.1.1.2, ⟨hk.1.2, hk.2⟩⟩⟩))); (case aS => exact (below_size (by repeat (first | (with_reducible first | exact HB.out | apply below_alloc | apply pw_below_drewN | apply below_drew1 | refine below_set ?_ GE182.out) | exact HB.out)))); (case aL => have := LMc57.out; omega); intro v215 w66 ho hb hg hat; rw [← Ny214.out] at ho; have n0_ := Aside0.mk (Kd.R_after (ok := (fun k_ => some k_ ≠ (.slice Ao63 y205.length co63 : Value).ownBlock ∧ some k_ ≠ (v209 : Value).ownBlock ∧ some k_ ≠ (.slice Ao67 y211.length co67 : Value).ownBlock)) (by (with_reducible repeat (first | apply Kd.R_alloc | apply Kd.R_drewN | apply Kd.R_drew)); exact Kd.R_mono HO_7.out (fun _ hk => ⟨⟨hk.1.1.2, ⟨hk.1.2, hk.2⟩⟩, hk.1.1.1⟩)) hg hat); have n1_ := Aside0.mk (blk_grown (g := gb182) (o := .cells #[.int .i64 a1_0, .int .i64 a1_1] 33 (0, 0)) (by (with_reducible repeat (first | refine blk_drewN ?_ _ | refine blk_drew ?_ | refine blk_alloc ?_ _)); exact BK182.out) hg (Kd.R_ne HO_10.out BK182.out (by decide))); have n2_ := Aside0.mk (Kd.R_after (ok := (fun k_ => some k_ ≠ (.slice Ao12 x7_1.length co12 : Value).ownBlock ∧ some k_ ≠ (v209 : Value).ownBlock ∧ some k_ ≠ (.slice Ao67 y211.length co67 : Value).ownBlock)) (by (with_reducible repeat (first | apply Kd.R_alloc | apply Kd.R_drewN | apply Kd.R_drew)); exact Kd.R_mono HO207.out (fun _ hk => ⟨⟨hk.1.1.1, ⟨hk.1.2, hk.2⟩⟩, hk.1.1.2⟩)) hg hat); have n3_ := Aside0.mk (Kd.R_after (ok := (fun k_ => some k_ ≠ (.slice Ao12 x7_1.length co12 : Value).ownBlock ∧ some k_ ≠ (.slice Ao63 y205.length co63 : Value).ownBlock ∧ some k_ ≠ (.slice Ao67 y211.length co67 : Value).ownBlock)) (by (with_reducible repeat (first | apply Kd.R_alloc | apply Kd.R_drewN | apply Kd.R_drew)); exact Kd.R_mono HO210.out (fun _ hk => ⟨⟨hk.1.1, ⟨hk.1.2.2, hk.2⟩⟩, hk.1.2.1⟩)) hg hat); have n4_ := Aside0.mk (Kd.R_after (ok := (fun k_ => some k_ ≠ (.slice Ao12 x7_1.length co12 : Value).ownBlock ∧ some k_ ≠ (.slice Ao63 y205.length co63 : Value).ownBlock ∧ some k_ ≠ (v209 : Value).ownBlock)) (by (with_reducible repeat (first | apply Kd.R_alloc | apply Kd.R_drewN | apply Kd.R_drew)); exact Kd.R_mono HO213.out (fun _ hk => ⟨⟨hk.1.1.1.2, ⟨hk.1.2, hk.2⟩⟩, hk.1.1.2⟩)) hg hat); have n5_ := Aside0.mk (hb); have n6_ := Aside0.mk (ho); clear HO_7; clear BK182; clear HO207; clear HO210; clear HO213; clear HB; clear HO_10; have HO_7 := n0_; have BK182 := n1_; have HO207 := n2_; have HO210 := n3_; have HO213 := n4_; have HB := n5_; have HO216 := n6_; clear n0_ n1_ n2_ n3_ n4_ n5_ n6_; clear ho hb hg hat; obtain ⟨Ao68, co68, eo68⟩ := Kd.R_slice HO210.out; subst eo68; obtain ⟨Ao69, co69, eo69⟩ := Kd.R_slice HO216.out; subst eo69))
                                go_ret
                                exact ⟨by first | rfl | (simp [errW_none, errW_some] <;> rfl) | (simp [*, errW_none, errW_some] <;> rfl), by repeat (first | (with_reducible first | exact HB.out | apply below_alloc | apply pw_below_drewN | apply below_drew1 | refine below_set ?_ GE182.out) | exact HB.out)⟩
                              · rw [if_neg c58] at H
                                have c58b0 : decide ((wrap64 ((y208.length : Int) + (y214.length : Int))) < 8) = false := decide_eq_false c58
                                clear c58
                                have H' := Aside0.mk H
                                clear H
                                obtain ⟨Ao70, co70, eo70⟩ := Kd.R_slice HO_10.out
                                subst eo70
                                go_wp2_with (first | ((with_reducible refine gate_dst (N := 74) rfl ?_); refine Kd.R_lit k36 _ 36 ?hg (N := 74) ?hd (xs := ([(⟨0, 0, (⟨0, 0⟩ : S33), 0, 0, 0, 0⟩ : S36), (⟨0, 0, (⟨0, 0⟩ : S33), 0, 0, 0, 0⟩ : S36), (⟨0, 0, (⟨0, 0⟩ : S33), 0, 0, 0, 0⟩ : S36), (⟨0, 0, (⟨0, 0⟩ : S33), 0, 0, 0, 0⟩ : S36)] : List (S36))) (inner := [.int .u64 0, .int .i64 0, .int .i64 0, .int .i64 0, .int .i64 0, .int .i64 0, .int .i64 0, .int .i64 0, .int .u64 0, .int .i64 0, .int .i64 0, .int .i64 0, .int .i64 0, .int .i64 0, .int .i64 0, .int .i64 0, .int .u64 0, .int .i64 0, .int .i64 0, .int .i64 0, .int .i64 0, .int .i64 0, .int .i64 0, .int .i64 0, .int .u64 0, .int .i64 0, .int .i64 0, .int .i64 0, .int .i64 0, .int .i64 0, .int .i64 0, .int .i64 0]) (ok := fun _ => True) (okp := fun _ => True) ?hr ?hp (fun _ hk => hk) trivial (Below.refl _ _) (Nat.le_refl _) (by simp) ?_; (case hd => rfl); (case hg => rfl); (case hr => first | (go_simp; done) | (go_simp; rfl)); (case hp => exact (Reps.c8 (show Kd.M k36 _ _ _ (⟨0, 0, (⟨0, 0⟩ : S33), 0, 0, 0, 0⟩ : S36) [.int .u64 0, .int .i64 0, .int .i64 0, .int .i64 0, .int .i64 0, .int .i64 0, .int .i64 0, .int .i64 0] from (k36_mkM _ _ _ (⟨0, 0, (⟨0, 0⟩ : S33), 0, 0, 0, 0⟩ : S36) )) (Reps.c8 (show Kd.M k36 _ _ _ (⟨0, 0, (⟨0, 0⟩ : S33), 0, 0, 0, 0⟩ : S36) [.int .u64 0, .int .i64 0, .int .i64 0, .int .i64 0, .int .i64 0, .int .i64 0, .int .i64 0, .int .i64 0] from (k36_mkM _ _ _ (⟨0, 0, (⟨0, 0⟩ : S33), 0, 0, 0, 0⟩ : S36) )) (Reps.c8 (show Kd.M k36 _ _ _ (⟨0, 0, (⟨0, 0⟩ : S33), 0, 0, 0, 0⟩ : S36) [.int .u64 0, .int .i64 0, .int .i64 0, .int .i64 0, .int .i64 0, .int .i64 0, .int .i64 0, .int .i64 0] from (k36_mkM _ _ _ (⟨0, 0, (⟨0, 0⟩ : S33), 0, 0, 0, 0⟩ : S36) )) (Reps.c8 (show Kd.M k36 _ _ _ (⟨0, 0, (⟨0, 0⟩ : S33), 0, 0, 0, 0⟩ : S36) [.int .u64 0, .int .i64 0, .int .i64 0, .int .i64 0, .int .i64 0, .int .i64 0, .int .i64 0, .int .i64 0] from (k36_mkM _ _ _ (⟨0, 0, (⟨0, 0⟩ : S33), 0, 0, 0, 0⟩ : S36) )) (Reps.none _ _)))))); intro v206 w71 ho72 hb hg_ hnew_; clear hg_ hnew_; (first | rw [← Ny205.out] at ho72 | (simp only [Int.reduceToNat] at ho72; rw [← Ny205.out] at ho72)); have n0_ := Aside0.mk (Kd.R_elder' (by (with_reducible repeat (first | apply Kd.R_alloc | apply Kd.R_drewN | apply Kd.R_drew)); exact HO_7.out) (Kd.R_base ho72) hb); have n1_ := Aside0.mk (Kd.R_elder' (by (with_reducible repeat (first | apply Kd.R_alloc | apply Kd.R_drewN | apply Kd.R_drew)); exact HO_9.out) (Kd.R_base ho72) hb); have n2_ := Aside0.mk (Kd.R_elder' (by (with_reducible repeat (first | apply Kd.R_alloc | apply Kd.R_drewN | apply Kd.R_drew)); exact HO_10.out) (Kd.R_base ho72) hb); have n3_ := Aside0.mk (Kd.R_lower (Kd.R_new' (Kd.R_new' (Kd.R_new' ho72 (Kd.R_lt (by (with_reducible repeat (first | apply Kd.R_alloc | apply Kd.R_drewN | apply Kd.R_drew)); exact HO_7.out))) (Kd.R_lt (by (with_reducible repeat (first | apply Kd.R_alloc | apply Kd.R_drewN | apply Kd.R_drew)); exact HO_9.out))) (Kd.R_lt (by (with_reducible repeat (first | apply Kd.R_alloc | apply Kd.R_drewN | apply Kd.R_drew)); exact HO_10.out))) (below_size (by repeat (first | (with_reducible first | exact HB.out | apply below_alloc | apply pw_below_drewN | apply below_drew1 | refine below_set ?_ GE182.out) | exact HB.out)))); have n4_ := Aside0.mk (blk_below (g := gb182) (o := .cells #[.int .i64 a1_0, .int .i64 a1_1] 33 (0, 0)) (by (with_reducible repeat (first | refine blk_drewN ?_ _ | refine blk_drew ?_ | refine blk_alloc ?_ _)); exact BK182.out) hb); have n5_ := Aside0.mk (below_step (by repeat (first | (with_reducible first | exact HB.out | apply below_alloc | apply pw_below_drewN | apply below_drew1 | refine below_set ?_ GE182.out) | exact HB.out)) hb); clear HO_7; clear HO_9; clear HO_10; clear BK182; clear HB; have HO_7 := n0_; have HO_9 := n1_; have HO_10 := n2_; have HO207 := n3_; have BK182 := n4_; have HB := n5_; clear n0_ n1_ n2_ n3_ n4_ n5_; clear hb ho72; obtain ⟨Ao74, co74, eo74⟩ := Kd.R_slice HO207.out; subst eo74) | ((with_reducible refine gate_builtin (b := .append) (xs := #[.tmp 69, .tmp 74]) rfl ?_); at_builtin; refine Kd.R_append_rows k36 (w0 := w) w.heap.size rfl (.tmp 69) (.tmp 74) 22 36 (.agg #[(.int .u64 0), (.int .i64 0), (.int .i64 0), (.int .i64 0), (.int .i64 0), (.int .i64 0), (.int .i64 0), (.int .i64 0)]) 64 rfl Tryd.underlying22 info36 rfl (by decide) (by omega) (.slice Ao49 x9_3.length co49) x9_3 y205 _ _ _ (fun k_ => some k_ ≠ (.slice Ao12 x7_1.length co12 : Value).ownBlock ∧ some k_ ≠ (.slice Ao70 x10_4.length co70 : Value).ownBlock ∧ some k_ ≠ (.slice Ao74 y205.length co74 : Value).ownBlock) (fun _ => False) rfl rfl ?aO ?aR (fun _ _ h => h) (fun _ h => h.elim) ?aF ?aB ?aS ?aL ?_; (case aR => repeat (first | exact (Kd.R_reads' HO207.out).2.2 | (with_reducible refine Kd.C_alloc ?_ _) | (with_reducible refine Kd.C_drewN ?_ _) | (with_reducible refine Kd.C_drew ?_))); (case aB => exact (by repeat (first | (with_reducible first | exact HB.out | apply below_alloc | apply pw_below_drewN | apply below_drew1 | refine below_set ?_ GE182.out) | exact HB.out))); (case aF => exact (fun k_ hk => ⟨Kd.fresh' (Kd.R_lt (by (with_reducible repeat (first | apply Kd.R_alloc | apply Kd.R_drewN | apply Kd.R_drew)); exact HO_7.out)) k_ hk, Kd.fresh' (Kd.R_lt (by (with_reducible repeat (first | apply Kd.R_alloc | apply Kd.R_drewN | apply Kd.R_drew)); exact HO_10.out)) k_ hk, Kd.fresh' (Kd.R_lt (by (with_reducible repeat (first | apply Kd.R_alloc | apply Kd.R_drewN | apply Kd.R_drew)); exact HO207.out)) k_ hk⟩)); (case aO => exact (by (with_reducible repeat (first | apply Kd.R_alloc | apply Kd.R_drewN | apply Kd.R_drew)); exact Kd.R_mono HO_9.out (fun _ hk => ⟨hk.1.1, ⟨hk.1.2, hk.2⟩⟩))); (case aS => exact (below_size (by repeat (first | (with_reducible first | exact HB.out | apply below_alloc | apply pw_below_drewN | apply below_drew1 | refine below_set ?_ GE182.out) | exact HB.out)))); (case aL => have := LMc56.out; omega); intro v209 w73 ho hb hg hat; rw [← Ny208.out] at ho; have n0_ := Aside0.mk (Kd.R_after (ok := (fun k_ => some k_ ≠ (.slice Ao70 x10_4.length co70 : Value).ownBlock ∧ some k_ ≠ (.slice Ao74 y205.length co74 : Value).ownBlock)) (by (with_reducible repeat (first | apply Kd.R_alloc | apply Kd.R_drewN | apply Kd.R_drew)); exact Kd.R_mono HO_7.out (fun _ hk => ⟨⟨hk.1.2, hk.2⟩, hk.1.1⟩)) hg hat); have n1_ := Aside0.mk (Kd.R_after (ok := (fun k_ => some k_ ≠ (.slice Ao12 x7_1.length co12 : Value).ownBlock ∧ some k_ ≠ (.slice Ao74 y205.length co74 : Value).ownBlock)) (by (with_reducible repeat (first | apply Kd.R_alloc | apply Kd.R_drewN | apply Kd.R_drew)); exact Kd.R_mono HO_10.out (fun _ hk => ⟨⟨hk.1.1, hk.2⟩, hk.1.2⟩)) hg hat); have n2_ := Aside0.mk (blk_grown (g := gb182) (o := .cells #[.int .i64 a1_0, .int .i64 a1_1] 33 (0, 0)) (by (with_reducible repeat (first | refine blk_drewN ?_ _ | refine blk_drew ?_ | refine blk_alloc ?_ _)); exact BK182.out) hg (Kd.R_ne HO_9.out BK182.out (by decide))); have n3_ := Aside0.mk (Kd.R_after (ok := (fun k_ => some k_ ≠ (.slice Ao12 x7_1.length co12 : Value).ownBlock ∧ some k_ ≠ (.slice Ao70 x10_4.length co70 : Value).ownBlock)) (by (with_reducible repeat (first | apply Kd.R_alloc | apply Kd.R_drewN | apply Kd.R_drew)); exact Kd.R_mono HO207.out (fun _ hk => ⟨⟨hk.1.1.2, hk.2⟩, hk.1.2⟩)) hg hat); have n4_ := Aside0.mk (hb); have n5_ := Aside0.mk (ho); clear HO_7; clear HO_10; clear BK182; clear HO207; clear HB; clear HO_9; have HO_7 := n0_; have HO_10 := n1_; have BK182 := n2_; have HO207 := n3_; have HB := n4_; have HO210 := n5_; clear n0_ n1_ n2_ n3_ n4_ n5_; clear ho hb hg hat) | ((with_reducible refine gate_dst (N := 81) rfl ?_); refine Kd.R_lit k36 _ 36 ?hg (N := 81) ?hd (xs := ([(⟨0, 0, (⟨0, 0⟩ : S33), 0, 0, 0, 0⟩ : S36), (⟨0, 0, (⟨0, 0⟩ : S33), 0, 0, 0, 0⟩ : S36), (⟨0, 0, (⟨0, 0⟩ : S33), 0, 0, 0, 0⟩ : S36), (⟨0, 0, (⟨0, 0⟩ : S33), 0, 0, 0, 0⟩ : S36)] : List (S36))) (inner := [.int .u64 0, .int .i64 0, .int .i64 0, .int .i64 0, .int .i64 0, .int .i64 0, .int .i64 0, .int .i64 0, .int .u64 0, .int .i64 0, .int .i64 0, .int .i64 0, .int .i64 0, .int .i64 0, .int .i64 0, .int .i64 0, .int .u64 0, .int .i64 0, .int .i64 0, .int .i64 0, .int .i64 0, .int .i64 0, .int .i64 0, .int .i64 0, .int .u64 0, .int .i64 0, .int .i64 0, .int .i64 0, .int .i64 0, .int .i64 0, .int .i64 0, .int .i64 0]) (ok := fun _ => True) (okp := fun _ => True) ?hr ?hp (fun _ hk => hk) trivial (Below.refl _ _) (Nat.le_refl _) (by simp) ?_; (case hd => rfl); (case hg => rfl); (case hr => first | (go_simp; done) | (go_simp; rfl)); (case hp => exact (Reps.c8 (show Kd.M k36 _ _ _ (⟨0, 0, (⟨0, 0⟩ : S33), 0, 0, 0, 0⟩ : S36) [.int .u64 0, .int .i64 0, .int .i64 0, .int .i64 0, .int .i64 0, .int .i64 0, .int .i64 0, .int .i64 0] from (k36_mkM _ _ _ (⟨0, 0, (⟨0, 0⟩ : S33), 0, 0, 0, 0⟩ : S36) )) (Reps.c8 (show Kd.M k36 _ _ _ (⟨0, 0, (⟨0, 0⟩ : S33), 0, 0, 0, 0⟩ : S36) [.int .u64 0, .int .i64 0, .int .i64 0, .int .i64 0, .int .i64 0, .int .i64 0, .int .i64 0, .int .i64 0] from (k36_mkM _ _ _ (⟨0, 0, (⟨0, 0⟩ : S33), 0, 0, 0, 0⟩ : S36) )) (Reps.c8 (show Kd.M k36 _ _ _ (⟨0, 0, (⟨0, 0⟩ : S33), 0, 0, 0, 0⟩ : S36) [.int .u64 0, .int .i64 0, .int .i64 0, .int .i64 0, .int .i64 0, .int .i64 0, .int .i64 0, .int .i64 0] from (k36_mkM _ _ _ (⟨0, 0, (⟨0, 0⟩ : S33), 0, 0, 0, 0⟩ : S36) )) (Reps.c8 (show Kd.M k36 _ _ _ (⟨0, 0, (⟨0, 0⟩ : S33), 0, 0, 0, 0⟩ : S36) [.int .u64 0, .int .i64 0, .int .i64 0, .int .i64 0, .int .i64 0, .int .i64 0, .int .i64 0, .int .i64 0] from (k36_mkM _ _ _ (⟨0, 0, (⟨0, 0⟩ : S33), 0, 0, 0, 0⟩ : S36) )) (Reps.none _ _)))))); intro v212 w75 ho76 hb hg_ hnew_; clear hg_ hnew_; (first | rw [← Ny211.out] at ho76 | (simp only [Int.reduceToNat] at ho76; rw [← Ny211.out] at ho76)); have n0_ := Aside0.mk (Kd.R_elder' (by (with_reducible repeat (first | apply Kd.R_alloc | apply Kd.R_drewN | apply Kd.R_drew)); exact HO_7.out) (Kd.R_base ho76) hb); have n1_ := Aside0.mk (Kd.R_elder' (by (with_reducible repeat (first | apply Kd.R_alloc | apply Kd.R_drewN | apply Kd.R_drew)); exact HO_10.out) (Kd.R_base ho76) hb); have n2_ := Aside0.mk (Kd.R_elder' (by (with_reducible repeat (first | apply Kd.R_alloc | apply Kd.R_drewN | apply Kd.R_drew)); exact HO207.out) (Kd.R_base ho76) hb); have n3_ := Aside0.mk (Kd.R_elder' (by (with_reducible repeat (first | apply Kd.R_alloc | apply Kd.R_drewN | apply Kd.R_drew)); exact HO210.out) (Kd.R_base ho76) hb); have n4_ := Aside0.mk (Kd.R_lower (Kd.R_new' (Kd.R_new' (Kd.R_new' (Kd.R_new' ho76 (Kd.R_lt (by (with_reducible repeat (first | apply Kd.R_alloc | apply Kd.R_drewN | apply Kd.R_drew)); exact HO_7.out))) (Kd.R_lt (by (with_reducible repeat (first | apply Kd.R_alloc | apply Kd.R_drewN | apply Kd.R_drew)); exact HO_10.out))) (Kd.R_lt (by (with_reducible repeat (first | apply Kd.R_alloc | apply Kd.R_drewN | apply Kd.R_drew)); exact HO207.out))) (Kd.R_lt (by (with_reducible repeat (first | apply Kd.R_alloc | apply Kd.R_drewN | apply Kd.R_drew)); exact HO210.out))) (below_size (by repeat (first | (with_reducible first | exact HB.out | apply below_alloc | apply pw_below_drewN | apply below_drew1 | refine below_set ?_ GE182.out) | exact HB.out)))); have n5_ := Aside0.mk (blk_below (g := gb182) (o := .cells #[.int .i64 a1_0, .int .i64 a1_1] 33 (0, 0)) (by (with_reducible repeat (first | refine blk_drewN ?_ _ | refine blk_drew ?_ | refine blk_alloc ?_ _)); exact BK182.out) hb); have n6_ := Aside0.mk (below_step (by repeat (first | (with_reducible first | exact HB.out | apply below_alloc | apply pw_below_drewN | apply below_drew1 | refine below_set ?_ GE182.out) | exact HB.out)) hb); clear HO_7; clear HO_10; clear HO207; clear HO210; clear BK182; clear HB; have HO_7 := n0_; have HO_10 := n1_; have HO207 := n2_; have HO210 := n3_; have HO213 := n4_; have BK182 := n5_; have HB := n6_; clear n0_ n1_ n2_ n3_ n4_ n5_ n6_; clear hb ho76; obtain ⟨Ao78, co78, eo78⟩ := Kd.R_slice HO213.out; subst eo78) | ((with_reducible refine gate_builtin (b := .append) (xs := #[.tmp 76, .tmp 81]) rfl ?_); at_builtin; refine Kd.R_append_rows k36 (w0 := w) w.heap.size rfl (.tmp 76) (.tmp 81) 22 36 (.agg #[(.int .u64 0), (.int .i64 0), (.int .i64 0), (.int .i64 0), (.int .i64 0), (.int .i64 0), (.int .i64 0), (.int .i64 0)]) 64 rfl Tryd.underlying22 info36 rfl (by decide) (by omega) (.slice Ao70 x10_4.length co70) x10_4 y211 _ _ _ (fun k_ => some k_ ≠ (.slice Ao12 x7_1.length co12 : Value).ownBlock ∧ some k_ ≠ (.slice Ao74 y205.length co74 : Value).ownBlock ∧ some k_ ≠ (v209 : Value).ownBlock ∧ some k_ ≠ (.slice Ao78 y211.length co78 : Value).ownBlock) (fun _ => False) rfl rfl ?aO ?aR (fun _ _ h => h) (fun _ h => h.elim) ?aF ?aB ?aS ?aL ?_; (case aR => repeat (first | exact (Kd.R_reads' HO213.out).2.2 | (with_reducible refine Kd.C_alloc ?_ _) | (with_reducible refine Kd.C_drewN ?_ _) | (with_reducible refine Kd.C_drew ?_))); (case aB => exact (by repeat (first | (with_reducible first | exact HB.out | apply below_alloc | apply pw_below_drewN | apply below_drew1 | refine below_set ?_ GE182.out) | exact HB.out))); (case aF => exact (fun k_ hk => ⟨Kd.fresh' (Kd.R_lt (by (with_reducible repeat (first | apply Kd.R_alloc | apply Kd.R_drewN | apply Kd.R_drew)); exact HO_7.out)) k_ hk, Kd.fresh' (Kd.R_lt (by (with_reducible repeat (first | apply Kd.R_alloc | apply Kd.R_drewN | apply Kd.R_drew)); exact HO207.out)) k_ hk, Kd.fresh' (Kd.R_lt (by (with_reducible repeat (first | apply Kd.R_alloc | apply Kd.R_drewN | apply Kd.R_drew)); exact HO210.out)) k_ hk, Kd.fresh' (Kd.R_lt (by (with_reducible repeat (first | apply Kd.R_alloc | apply Kd.R_drewN | apply Kd.R_drew)); exact HO213.out)) k_ hk⟩)); (case aO => exact (by (with_reducible repeat (first | apply Kd.R_alloc | apply Kd.R_drewN | apply Kd.R_drew)); exact Kd.R_mono HO_10.out (fun _ hk => ⟨hk.1.1.1, ⟨hk.1.1.2, ⟨hk.1.2, hk.2⟩⟩⟩))); (case aS => exact (below_size (by repeat (first | (with_reducible first | exact HB.out | apply below_alloc | apply pw_below_drewN | apply below_drew1 | refine below_set ?_ GE182.out) | exact HB.out)))); (case aL => have := LMc57.out; omega); intro v215 w77 ho hb hg hat; rw [← Ny214.out] at ho; have n0_ := Aside0.mk (Kd.R_after (ok := (fun k_ => some k_ ≠ (.slice Ao74 y205.length co74 : Value).ownBlock ∧ some k_ ≠ (v209 : Value).ownBlock ∧ some k_ ≠ (.slice Ao78 y211.length co78 : Value).ownBlock)) (by (with_reducible repeat (first | apply Kd.R_alloc | apply Kd.R_drewN | apply Kd.R_drew)); exact Kd.R_mono HO_7.out (fun _ hk => ⟨⟨hk.1.1.2, ⟨hk.1.2, hk.2⟩⟩, hk.1.1.1⟩)) hg hat); have n1_ := Aside0.mk (blk_grown (g := gb182) (o := .cells #[.int .i64 a1_0, .int .i64 a1_1] 33 (0, 0)) (by (with_reducible repeat (first | refine blk_drewN ?_ _ | refine blk_drew ?_ | refine blk_alloc ?_ _)); exact BK182.out) hg (Kd.R_ne HO_10.out BK182.out (by decide))); have n2_ := Aside0.mk (Kd.R_after (ok := (fun k_ => some k_ ≠ (.slice Ao12 x7_1.length co12 : Value).ownBlock ∧ some k_ ≠ (v209 : Value).ownBlock ∧ some k_ ≠ (.slice Ao78 y211.length co78 : Value).ownBlock)) (by (with_reducible repeat (first | apply Kd.R_alloc | apply Kd.R_drewN | apply Kd.R_drew)); exact Kd.R_mono HO207.out (fun _ hk => ⟨⟨hk.1.1.1, ⟨hk.1.2, hk.2⟩⟩, hk.1.1.2⟩)) hg hat); have n3_ := Aside0.mk (Kd.R_after (ok := (fun k_ => some k_ ≠ (.slice Ao12 x7_1.length co12 : Value).ownBlock ∧ some k_ ≠ (.slice Ao74 y205.length co74 : Value).ownBlock ∧ some k_ ≠ (.slice Ao78 y211.length co78 : Value).ownBlock)) (by (with_reducible repeat (first | apply Kd.R_alloc | apply Kd.R_drewN | apply Kd.R_drew)); exact Kd.R_mono HO210.out (fun _ hk => ⟨⟨hk.1.1, ⟨hk.1.2.2, hk.2⟩⟩, hk.1.2.1⟩)) hg hat); have n4_ := Aside0.mk (Kd.R_after (ok := (fun k_ => some k_ ≠ (.slice Ao12 x7_1.length co12 : Value).ownBlock ∧ some k_ ≠ (.slice Ao74 y205.length co74 : Value).ownBlock ∧ some k_ ≠ (v209 : Value).ownBlock)) (by (with_reducible repeat (first | apply Kd.R_alloc | apply Kd.R_drewN | apply Kd.R_drew)); exact Kd.R_mono HO213.out (fun _ hk => ⟨⟨hk.1.1.1.2, ⟨hk.1.2, hk.2⟩⟩, hk.1.1.2⟩)) hg hat); have n5_ := Aside0.mk (hb); have n6_ := Aside0.mk (ho); clear HO_7; clear BK182; clear HO207; clear HO210; clear HO213; clear HB; clear HO_10; have HO_7 := n0_; have BK182 := n1_; have HO207 := n2_; have HO210 := n3_; have HO213 := n4_; have HB := n5_; have HO216 := n6_; clear n0_ n1_ n2_ n3_ n4_ n5_ n6_; clear ho hb hg hat; obtain ⟨Ao79, co79, eo79⟩ := Kd.R_slice HO210.out; subst eo79; obtain ⟨Ao80, co80, eo80⟩ := Kd.R_slice HO216.out; subst eo80))
                                go_roundg k4
                                case measure => have := HK1.out; have := HJ9.out; have := HK3.out; have := HK4.out; omega
                                case rel => exact ⟨(x7_1), (wrap64 (x8_1 + 1)), (by first | rfl | (simp; done) | (simp [*]; done)), H', ⟨by have := HK1.out; have := HJ9.out; have := HK3.out; have := HK4.out; omega⟩, ⟨by (with_reducible repeat (first | apply Kd.R_alloc | apply Kd.R_drewN | apply Kd.R_drew)); exact Kd.R_mono HO_7.out (fun _ hk => trivial)⟩, ⟨by (with_reducible repeat (first | refine blk_drewN ?_ _ | refine blk_drew ?_ | refine blk_alloc ?_ _)); exact BK182.out⟩, ⟨by repeat (first | (with_reducible first | exact HB.out | apply below_alloc | apply pw_below_drewN | apply below_drew1 | refine below_set ?_ GE182.out) | exact HB.out)⟩⟩
                            · rw [if_neg c57] at H
                              exact absurd H (by simp)
                          · rw [if_neg c56] at H
                            exact absurd H (by simp)
      · rw [if_neg c7] at H
        have c7b0 : decide (x8_1 < 2) = false := decide_eq_false c7
        clear c7
        replace H := Option.bind_eq_some_iff.mp H
        obtain ⟨t186, A810, H⟩ := H
        replace H : (some t186) = some r := H
        have A81 := Aside0.mk A810
        clear A810
        obtain rfl := Option.some.inj H
        obtain ⟨Ao82, co82, eo82⟩ := Kd.R_slice HO_7.out
        subst eo82
        go_wp2_with (first | ((with_reducible refine gate_callee (f := 20) rfl ?_); refine goesL_ (some 91) rfl rfl Tryd.func20 (by kernel_rfl) rfl #[.slice Ao82 x7_1.length co82, .slice A0 l0.length c0] rfl (by (try simp only [List.map_toArray, List.map_cons, List.map_nil]); first | done | rfl | (simp only [List.length_drop, List.length_take]; rfl)) ?_; (with_reducible refine (rotaref25_Same.calls k1 _ _ x7_1 _ _ l0 t186 _ ?side1 ?side2 ?side3 ?side4 A81.out).mono ?_); (case side1 => repeat (first | exact (Kd.R_reads' HO_7.out).2.2 | (with_reducible refine Kd.C_alloc ?_ _) | (with_reducible refine Kd.C_drewN ?_ _) | (with_reducible refine Kd.C_drew ?_))); (case side2 => exact (Kd.R_reads' HO_7.out).2.1); (case side3 => repeat (first | exact (Kd.C_below HR0.out HB.out) | (with_reducible refine Kd.C_alloc ?_ _) | (with_reducible refine Kd.C_drewN ?_ _) | (with_reducible refine Kd.C_drew ?_))); (case side4 => exact HC0.out); rintro e w' ⟨rfl, ⟨nd, rfl⟩⟩; refine ⟨_, rfl, ?_⟩))
        go_ret
        exact ⟨by first | rfl | (simp [errW_none, errW_some] <;> rfl) | (simp [*, errW_none, errW_some] <;> rfl), by repeat (first | (with_reducible first | exact HB.out | apply below_alloc | apply pw_below_drewN | apply below_drew1 | refine below_set ?_ GE182.out) | exact HB.out)⟩

end Go.Proofs.YtphbepddhhdhmaaDoor.GA
