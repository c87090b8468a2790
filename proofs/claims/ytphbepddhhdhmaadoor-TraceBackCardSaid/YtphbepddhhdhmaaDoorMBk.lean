import Derived.Test.YtphbepddhhdhmaaDoorMBk12
import Derived.Test.YtphbepddhhdhmaaDoorMBk6
import Derived.Test.YtphbepddhhdhmaaDoorMBk1
import Derived.Test.YtphbepddhhdhmaaDoorMBk3
import Derived.Test.YtphbepddhhdhmaaDoorMBk13
import Derived.Test.YtphbepddhhdhmaaDoorMBk7
import Derived.Test.YtphbepddhhdhmaaDoorMBk9
import Derived.Test.YtphbepddhhdhmaaDoorMBk10
import Derived.Deep.QuietTactic
import Derived.BigQuiet
import Derived.Lib.Hide
import Derived.WalkKit
import Derived.Outline
import Derived.Test.YtphbepddhhdhmaaDoorRows
import Derived.Lib.LaidTab
import Derived.Test.YtphbepddhhdhmaaDoorMBk2
import Derived.HandedShaped
import Derived.Stop.LaidErr
import Derived.Test.YtphbepddhhdhmaaDoorCards
import Derived.Test.YtphbepddhhdhmaaDoorTie
import Derived.ProofKit
import Derived.OpenShut
import Derived.ShutString
import Derived.ChangeOld
import Derived.Below
import Derived.SizedLaws
import Derived.Lib.SmallJoins
import Derived.Deep.DeepHandedRow
import Derived.Deep.DeepLaidRun
section
/-
  TraceBack and TraceAgain in plain Lean: what is printed is read as it was, what is read prints as it was.
-/
set_option linter.unusedVariables false
set_option linter.unusedSimpArgs false
namespace Go.Proofs.YtphbepddhhdhmaaDoor.Hof
open Go.RowKit Go.Shelf Go.Proofs.YtphbepddhhdhmaaDoorW.PrintWords Go.Proofs.YtphbepddhhdhmaaDoorW.PrintLast Go.Proofs.YtphbepddhhdhmaaDoorW.PrintMore GA Hctx Num Q
/-- An event that may be. -/
def MayB (x : S36) : Prop := trace_may.f x.f0 x.f1 x.f2.f0 x.f2.f1 x.f3 x.f4 x.f5 x.f6 = some true
theorem valid_one {s : ByteArray} {x y : S36} (hx : Valid s x) (hy : Valid s y) : x = y := by
  obtain ⟨p0, p1, p2, p3, p4, p5, p6, p7, hp⟩ := list8 (valid_eight hx)
  obtain ⟨r0, r1, r2, r3, r4, r5, r6, r7⟩ := valid_reads hx hp
  exact (valid_same hp r0 r1 r2 r3 r5 r6 r7 x hx).symm.trans (valid_same hp r0 r1 r2 r3 r5 r6 r7 y hy)
theorem evOf_is {s : ByteArray} {x : S36} (h : Valid s x) : evOf s = some x := by
  have h1 : ∃ x, Valid s x := ⟨x, h⟩
  unfold evOf
  rw [dif_pos h1, valid_one (Classical.choose_spec h1) h]
theorem low_app (done : List S36) (y x : S36) : low (done ++ [y]) x ↔ x.f0 < y.f0 := by
  unfold low
  have e : (((done ++ [y]).length : Nat) : Int) - 1 = ((done.length : Nat) : Int) := by rw [List.length_append]; simp
  have h2 : rd_T36 (done ++ [y]) ((done.length : Nat) : Int) = y := by
    rw [rd36 (done ++ [y]) done.length (by simp)]; simp
  rw [e, h2]
  exact ⟨fun h => h.2, fun h => ⟨by simp, h⟩⟩
theorem low_nil (x : S36) : ¬ low [] x := fun h => by have := h.1; simp at this
/-- Each not earlier than the one before. -/
def Rise : List S36 → Prop
  | [] => True
  | [_] => True
  | x :: y :: t => ¬ y.f0 < x.f0 ∧ Rise (y :: t)
theorem rise_app (d : List S36) (x y : S36) (h : Rise (d ++ [x])) (hxy : ¬ y.f0 < x.f0) : Rise (d ++ [x] ++ [y]) := by
  induction d with
  | nil => exact ⟨hxy, trivial⟩
  | cons a d ih =>
    cases d with
    | nil => exact ⟨h.1, hxy, trivial⟩
    | cons b d => exact ⟨h.1, ih h.2⟩
theorem rise_at : ∀ (xs : List S36), Rise xs → ∀ i (h0 : 0 < i) (h : i < xs.length), ¬ xs[i].f0 < (xs[i - 1]'(by omega)).f0
  | [], _, i, _, h => by simp at h
  | [a], _, i, h0, h => by simp at h; omega
  | a :: b :: t, hr, i, h0, h => by
    obtain ⟨j, rfl⟩ : ∃ j, i = j + 1 := ⟨i - 1, by omega⟩
    cases j with
    | zero => exact hr.1
    | succ j =>
      have := rise_at (b :: t) hr.2 (j + 1) (by omega) (by simpa using h)
      simpa using this
theorem rise_of : ∀ (xs : List S36), (∀ i (h0 : 0 < i) (h : i < xs.length), ¬ xs[i].f0 < (xs[i - 1]'(by omega)).f0) → Rise xs
  | [], _ => trivial
  | [_], _ => trivial
  | a :: b :: t, h => ⟨h 1 (by omega) (by simp), rise_of (b :: t) (fun i h0 hi => by
      have := h (i + 1) (by omega) (by simpa using hi)
      obtain ⟨j, rfl⟩ : ∃ j, i = j + 1 := ⟨i - 1, by omega⟩
      simpa using this)⟩
/-- What is printed is read as it was. -/
theorem scan_text : ∀ (xs done : List S36), (∀ x ∈ xs, EvOk x ∧ MayB x) → Rise (done ++ xs) → scan [] done (textE xs) = (done ++ xs, 0, 0)
  | [], done, _, _ => by
    show scan [] done [] = _
    rw [scan, if_pos rfl, List.append_nil]
  | x :: xs, done, h, hr => by
    obtain ⟨hx, hm⟩ := h x List.mem_cons_self
    have e : textE (x :: xs) = lineE x ++ 10 :: textE xs := by unfold textE; rw [List.flatMap_cons]; simp
    have hv : evOf (sB (lineE x)) = some x := evOf_is ⟨hx, hm, rfl⟩
    have hl : ¬ low done x := by
      rcases List.eq_nil_or_concat done with rfl | ⟨d, y, rfl⟩
      · exact low_nil x
      · rw [List.concat_eq_append] at hr ⊢
        rw [low_app]
        have := rise_at _ hr (d.length + 1) (by omega) (by simp)
        simpa using this
    rw [e, scan_hit done (lineE x) _ [] (line_nl x hx), List.nil_append, scan_some done _ _ x hv hl, scan_text xs (done ++ [x]) (fun y hy => h y (List.mem_cons_of_mem _ hy)) (by simpa using hr)]
    simp
/-- What is read prints as it was. -/
theorem scan_back : ∀ (l cur : List UInt8) (done xs : List S36) (n : Int), (∀ x ∈ done, EvOk x ∧ MayB x) → Rise done → scan cur done l = (xs, 0, n) → textE xs = textE done ++ cur ++ l ∧ (∀ x ∈ xs, EvOk x ∧ MayB x) ∧ Rise xs ∧ n = 0
  | [], cur, done, xs, n, hd, hr, h => by
    rw [scan] at h
    by_cases hc : cur = []
    · rw [if_pos hc] at h
      injection h with h1 h2
      injection h2 with h2 h3
      subst hc; subst h1
      exact ⟨by simp, hd, hr, h3.symm⟩
    · rw [if_neg hc] at h
      injection h with h1 h2
      injection h2 with h2 h3
      exact absurd h2 (by decide)
  | b :: r, cur, done, xs, n, hd, hr, h => by
    by_cases hb : b = 10
    · subst hb
      cases he : evOf (sB cur) with
      | none =>
        rw [scan_none _ _ _ he] at h
        injection h with h1 h2
        injection h2 with h2 h3
        exact absurd h2 (by decide)
      | some x =>
        by_cases hl : low done x
        · rw [scan_low _ _ _ x he hl] at h
          injection h with h1 h2
          injection h2 with h2 h3
          exact absurd h2 (by decide)
        · rw [scan_some _ _ _ x he hl] at h
          obtain ⟨v1, v2, v3⟩ := evOf_valid he
          have hr' : Rise (done ++ [x]) := by
            rcases List.eq_nil_or_concat done with rfl | ⟨d, y, rfl⟩
            · exact trivial
            · rw [List.concat_eq_append] at hr hl ⊢
              rw [low_app] at hl
              exact rise_app d y x hr hl
          obtain ⟨h1, h2, h3, h4⟩ := scan_back r [] (done ++ [x]) xs n (fun y hy => by
            rcases List.mem_append.1 hy with hy | hy
            · exact hd y hy
            · rw [List.mem_singleton] at hy; subst hy; exact ⟨v1, v2⟩) hr' h
          refine ⟨?_, h2, h3, h4⟩
          have e : textE (done ++ [x]) = textE done ++ lineE x ++ [10] := by unfold textE; rw [List.flatMap_append]; simp
          have ec : cur = lineE x := by
            have := congrArg (fun s : ByteArray => s.data.toList) v3
            simpa [sB] using this
          rw [h1, e, ec]; simp
    · rw [scan, if_neg hb] at h
      obtain ⟨h1, h2, h3, h4⟩ := scan_back r (cur ++ [b]) done xs n hd hr h
      exact ⟨by rw [h1]; simp, h2, h3, h4⟩
theorem scan_bad : ∀ (l cur : List UInt8) (done xs : List S36) (c n : Int), scan cur done l = (xs, c, n) → c ≠ 0 → xs = [] ∧ 0 < n
  | [], cur, done, xs, c, n, h, hc => by
    rw [scan] at h
    split at h
    · injection h with h1 h2
      injection h2 with h2 h3
      exact absurd h2.symm hc
    · injection h with h1 h2
      injection h2 with h2 h3
      exact ⟨h1.symm, by omega⟩
  | b :: r, cur, done, xs, c, n, h, hc => by
    by_cases hb : b = 10
    · subst hb
      cases he : evOf (sB cur) with
      | none =>
        rw [scan_none _ _ _ he] at h
        injection h with h1 h2
        injection h2 with h2 h3
        exact ⟨h1.symm, by omega⟩
      | some x =>
        by_cases hl : low done x
        · rw [scan_low _ _ _ x he hl] at h
          injection h with h1 h2
          injection h2 with h2 h3
          exact ⟨h1.symm, by omega⟩
        · rw [scan_some _ _ _ x he hl] at h
          exact scan_bad r [] (done ++ [x]) xs c n h hc
    · rw [scan, if_neg hb] at h
      exact scan_bad r (cur ++ [b]) done xs c n h hc
theorem check_good (xs : List S36) (hl : xs.length < 2 ^ 62) (hm : ∀ x ∈ xs, MayB x) (hr : Rise xs) : ∀ (d k i : Nat), i + d = xs.length → d < k → trace_Check.l0 k xs xs (xs.length : Int) (i : Int) = some (0, 0)
  | 0, k, i, h1, h2 => by
    obtain ⟨k, rfl⟩ : ∃ j, k = j + 1 := ⟨k - 1, by omega⟩
    rw [trace_Check.l0, if_neg (by omega)]
  | d + 1, k, i, h1, h2 => by
    obtain ⟨k, rfl⟩ : ∃ j, k = j + 1 := ⟨k - 1, by omega⟩
    have hi : i < xs.length := by omega
    have hA : (i : Int) < (xs.length : Int) := by omega
    have hB : 0 ≤ (i : Int) := by omega
    have w1 : wrap64 ((i : Int) + 1) = ((i + 1 : Nat) : Int) := by
      rw [Int.natCast_add]
      exact IntWalk.wrap64_in _ (by omega)
    have hmi : trace_may.f xs[i].f0 xs[i].f1 xs[i].f2.f0 xs[i].f2.f1 xs[i].f3 xs[i].f4 xs[i].f5 xs[i].f6 = some true := hm _ (List.getElem_mem _)
    simp only [trace_Check.l0, if_pos hA, if_pos hB, rd36 xs i hi, w1, hmi, Option.bind_some, if_true]
    have hrec := check_good xs hl hm hr d k (i + 1) (by omega) (by omega)
    by_cases h4 : (i : Int) > 0
    · have w2 : wrap64 ((i : Int) - 1) = ((i - 1 : Nat) : Int) := by
        rw [show ((i - 1 : Nat) : Int) = (i : Int) - 1 by omega]
        exact IntWalk.wrap64_in _ (by omega)
      rw [if_pos h4, w2, if_pos (by omega), if_pos (by omega), rd36 xs (i - 1) (by omega), if_neg (rise_at xs hr i (by omega) hi)]
      exact hrec
    · rw [if_neg h4]; exact hrec
theorem check_all (xs : List S36) (hl : xs.length < 2 ^ 62) : ∀ (k i : Nat) (r1 r2 : Int), trace_Check.l0 k xs xs (xs.length : Int) (i : Int) = some (r1, r2) →
    (r2 = 0 → ∀ j, i ≤ j → (hj : j < xs.length) → MayB xs[j] ∧ ((h0 : 0 < j) → ¬ xs[j].f0 < (xs[j - 1]'(by omega)).f0)) ∧ (r2 ≠ 0 → 0 ≤ r1 ∧ r1 < xs.length)
  | 0, i, r1, r2, h => absurd h (by simp [trace_Check.l0])
  | k + 1, i, r1, r2, h => by
    by_cases hA : (i : Int) < (xs.length : Int)
    case neg =>
      rw [trace_Check.l0, if_neg hA] at h
      injection h with h
      injection h with h1 h2
      exact ⟨fun _ j h1 h2 => absurd h2 (by omega), fun h => absurd h2.symm h⟩
    have hi : i < xs.length := by omega
    have hB : 0 ≤ (i : Int) := by omega
    have w1 : wrap64 ((i : Int) + 1) = ((i + 1 : Nat) : Int) := by
      rw [Int.natCast_add]
      exact IntWalk.wrap64_in _ (by omega)
    simp only [trace_Check.l0, if_pos hA, if_pos hB, rd36 xs i hi, w1] at h
    obtain ⟨t, ht, h⟩ := Option.bind_eq_some_iff.1 h
    by_cases h3 : t = true
    case neg =>
      rw [if_neg h3] at h
      injection h with h
      injection h with h1 h2
      exact ⟨fun h => absurd (h2.trans h) (by decide), fun _ => by omega⟩
    rw [if_pos h3] at h
    subst h3
    by_cases h4 : (i : Int) > 0
    · have w2 : wrap64 ((i : Int) - 1) = ((i - 1 : Nat) : Int) := by
        rw [show ((i - 1 : Nat) : Int) = (i : Int) - 1 by omega]
        exact IntWalk.wrap64_in _ (by omega)
      rw [if_pos h4, w2, if_pos (by omega), if_pos (by omega), rd36 xs (i - 1) (by omega)] at h
      by_cases h5 : xs[i].f0 < (xs[i - 1]'(by omega)).f0
      · rw [if_pos h5] at h
        injection h with h
        injection h with h1 h2
        exact ⟨fun h => absurd (h2.trans h) (by decide), fun _ => by omega⟩
      · rw [if_neg h5] at h
        obtain ⟨g1, g2⟩ := check_all xs hl k (i + 1) r1 r2 h
        refine ⟨fun hr j hij hj => ?_, g2⟩
        by_cases e : i = j
        · subst e; exact ⟨ht, fun _ => h5⟩
        · exact g1 hr j (by omega) hj
    · rw [if_neg h4] at h
      obtain ⟨g1, g2⟩ := check_all xs hl k (i + 1) r1 r2 h
      refine ⟨fun hr j hij hj => ?_, g2⟩
      by_cases e : i = j
      · subst e; exact ⟨ht, fun h0 => absurd h4 (by omega)⟩
      · exact g1 hr j (by omega) hj
end Go.Proofs.YtphbepddhhdhmaaDoor.Hof
end

section
-- laid by a program of this session (wip/gp.sh)
namespace Go.Proofs.YtphbepddhhdhmaaDoor.GA
open Go.RowKit Go.Proofs.YtphbepddhhdhmaaDoorW.PrintWords Go.Proofs.YtphbepddhhdhmaaDoorW.PrintLast Go.Proofs.YtphbepddhhdhmaaDoorW.PrintMore
attribute [local go_sem] max2_int min2_int max_two min_two max_three min_three max_four min_four   -- for this text's walks alone
set_option linter.unusedVariables false
set_option linter.unusedSimpArgs false

attribute [local go_sem high] eqA36
/-! ### rotaref25_Same: function 20 -/
def rotaref25_Same.l0 : Nat → List (S36) → List (S36) → Int → Option (Bool)
  | 0, _, _, _ => none
  | k + 1, x0, x1, x5 => if x5 < (x0.length : Int) then (if 0 ≤ x5 then (if x5 < (x1.length : Int) then (if (!(((rd_T36 x0 x5).f0) == ((rd_T36 x1 x5).f0)) || (!(((rd_T36 x0 x5).f1) == ((rd_T36 x1 x5).f1)) || ((!(((rd_T36 x0 x5).f2.f0) == ((rd_T36 x1 x5).f2.f0)) || (!(((rd_T36 x0 x5).f2.f1) == ((rd_T36 x1 x5).f2.f1)))) || (!(((rd_T36 x0 x5).f3) == ((rd_T36 x1 x5).f3)) || (!(((rd_T36 x0 x5).f4) == ((rd_T36 x1 x5).f4)) || (!(((rd_T36 x0 x5).f5) == ((rd_T36 x1 x5).f5)) || (!(((rd_T36 x0 x5).f6) == ((rd_T36 x1 x5).f6))))))))) = true then (some false) else (rotaref25_Same.l0 k x0 x1 (wrap64 (x5 + 1)))) else (none)) else (none)) else (some true)
def rotaref25_Same.f (k : Nat) (l0 : List (S36)) (l1 : List (S36)) : Option (Bool) := if (l0.length : Int) = (l1.length : Int) then (rotaref25_Same.l0 k l0 l1 0) else (some false)
theorem rotaref25_Same.mono_l : ∀ k, (∀ y0 y1 y2, LeO (rotaref25_Same.l0 k y0 y1 y2) (rotaref25_Same.l0 (k + 1) y0 y1 y2))
  | 0 => fun _ _ _ r h => by simp [rotaref25_Same.l0] at h
  | k + 1 => by
    have ih0 := rotaref25_Same.mono_l k
    · intro y0 y1 y2
      unfold rotaref25_Same.l0
      repeat' first
      | (with_reducible exact ih0 _ _ _)
      | (with_reducible exact LeO.refl _)
      | (with_reducible exact LeO.none _)
      | (with_reducible refine LeO.ite ?_ ?_)
      | (with_reducible refine LeO.bind ?_ (fun _ => ?_))
      | exact ih0 _ _ _
      | exact LeO.none _
      | refine LeO.ite ?_ ?_
      | refine LeO.bind ?_ (fun _ => ?_)
theorem rotaref25_Same.mono : ∀ a0 a1 k, LeO (rotaref25_Same.f k a0 a1) (rotaref25_Same.f (k + 1) a0 a1) := by
  intro a0 a1 k
  have ih0 := rotaref25_Same.mono_l k
  unfold rotaref25_Same.f
  repeat' first
      | (with_reducible exact ih0 _ _ _)
      | (with_reducible exact LeO.refl _)
      | (with_reducible exact LeO.none _)
      | (with_reducible refine LeO.ite ?_ ?_)
      | (with_reducible refine LeO.bind ?_ (fun _ => ?_))
      | exact ih0 _ _ _
      | exact LeO.none _
      | refine LeO.ite ?_ ?_
      | refine LeO.bind ?_ (fun _ => ?_)
set_option maxHeartbeats 8000000 in
set_option maxRecDepth 100000 in
theorem rotaref25_Same.calls (k : Nat) (A0 : Option Addr) (c0 : Nat) (l0 : List (S36)) (A1 : Option Addr) (c1 : Nat) (l1 : List (S36)) (r : Bool) (w : World) (hr0 : Kd.C k36 w A0 l0.length l0) (hc0 : l0.length ≤ c0) (hr1 : Kd.C k36 w A1 l1.length l1) (hc1 : l1.length ≤ c1) (h : rotaref25_Same.f k l0 l1 = some r) :
    Calls Tryd.prog 20 #[.slice A0 l0.length c0, .slice A1 l1.length c1] w fun e w' => e = .returned (.bool r) ∧ Drawn0 w w' := by
  have hu36 := Tryd.underlying36
  have HR0 := Aside0.mk hr0
  have HC0 := Aside0.mk hc0
  clear hr0 hc0
  have HR1 := Aside0.mk hr1
  have HC1 := Aside0.mk hc1
  clear hr1 hc1
  have H : (if (l0.length : Int) = (l1.length : Int) then (rotaref25_Same.l0 k l0 l1 0) else (some false)) = some r := h
  clear h
  by_cases c3 : (l0.length : Int) = (l1.length : Int)
  · rw [if_pos c3] at H
    have c3b0 : ((l0.length : Int) == (l1.length : Int)) = true := beq_iff_eq.mpr c3
    have c3b1 : ((l0.length : Int) != (l1.length : Int)) = false := bne_eq_false_iff_eq.mpr c3
    have c3b2 : (l0.length == l1.length) = true := by first | simpa using c3 | (simp at c3 ⊢; omega)
    clear c3
    have H' := Aside0.mk H
    clear H
    go_enter Tryd.func20, Tryd.ntmps20
    go_wp2
    repeat (go_quiet (fail); try go_wp2)
    go_loopg [5] k (fun kq v5 w' => ∃ (x5_1 : Int), v5 = .int .i64 x5_1 ∧ Aside0 (rotaref25_Same.l0 kq l0 l1 x5_1 = some r) ∧ Aside0 (kq ≤ k) ∧ Drawn0 w w')
    case atStart => exact ⟨(0), (by first | rfl | (simp; done) | (simp [*]; done)), H', ⟨Nat.le_refl _⟩, by repeat (first | exact Drawn0.refl _ | apply Drawn0.step)⟩
    case round =>
      clear H'
      try clear c1
      try clear c2
      try clear p2
      try clear c3
      try clear c3b0
      try clear c3b1
      try clear c3b2
      obtain ⟨x5_1, rfl, HA, HK1, ⟨m1, rfl⟩⟩ := hrel
      cases gk with
      | zero => exact absurd HA.out (by simp [rotaref25_Same.l0])
      | succ k1 =>
        have H := HA.out
        clear HA
        simp only [rotaref25_Same.l0] at H
        by_cases c4 : x5_1 < (l0.length : Int)
        · rw [if_pos c4] at H
          have c4b0 : decide (x5_1 < (l0.length : Int)) = true := decide_eq_true c4
          clear c4
          by_cases c5 : 0 ≤ x5_1
          · rw [if_pos c5] at H
            have c5b0 : decide (0 ≤ x5_1) = true := decide_eq_true c5
            clear c5
            by_cases c6 : x5_1 < (l1.length : Int)
            · rw [if_pos c6] at H
              have c6b0 : decide (x5_1 < (l1.length : Int)) = true := decide_eq_true c6
              clear c6
              by_cases c7 : (!(((rd_T36 l0 x5_1).f0) == ((rd_T36 l1 x5_1).f0)) || (!(((rd_T36 l0 x5_1).f1) == ((rd_T36 l1 x5_1).f1)) || ((!(((rd_T36 l0 x5_1).f2.f0) == ((rd_T36 l1 x5_1).f2.f0)) || (!(((rd_T36 l0 x5_1).f2.f1) == ((rd_T36 l1 x5_1).f2.f1)))) || (!(((rd_T36 l0 x5_1).f3) == ((rd_T36 l1 x5_1).f3)) || (!(((rd_T36 l0 x5_1).f4) == ((rd_T36 l1 x5_1).f4)) || (!(((rd_T36 l0 x5_1).f5) == ((rd_T36 l1 x5_1).f5)) || (!(((rd_T36 l0 x5_1).f6) == ((rd_T36 l1 x5_1).f6))))))))) = true
              · rw [if_pos c7] at H
                have c7b0 : (!(((rd_T36 l0 x5_1).f0) == ((rd_T36 l1 x5_1).f0)) || (!(((rd_T36 l0 x5_1).f1) == ((rd_T36 l1 x5_1).f1)) || ((!(((rd_T36 l0 x5_1).f2.f0) == ((rd_T36 l1 x5_1).f2.f0)) || (!(((rd_T36 l0 x5_1).f2.f1) == ((rd_T36 l1 x5_1).f2.f1)))) || (!(((rd_T36 l0 x5_1).f3) == ((rd_T36 l1 x5_1).f3)) || (!(((rd_T36 l0 x5_1).f4) == ((rd_T36 l1 x5_1).f4)) || (!(((rd_T36 l0 x5_1).f5) == ((rd_T36 l1 x5_1).f5)) || (!(((rd_T36 l0 x5_1).f6) == ((rd_T36 l1 x5_1).f6))))))))) = true := c7
                clear c7
                obtain rfl := Option.some.inj H
                have p163 : 0 ≤ (x5_1 : Int) := of_decide_eq_true (by first | (with_reducible assumption) | assumption)
                have q163 : x5_1 < (l0.length : Int) := of_decide_eq_true (by first | (with_reducible assumption) | assumption)
                obtain ⟨ad163, e163, hx163_0, hx163_1, hx163_2, hx163_3, hx163_4, hx163_5, hx163_6, hx163_7⟩ := at_T36 HR0.out x5_1 p163 q163
                cases e163
                replace p163 := eq_true p163
                replace q163 := eq_true q163
                have p164 : 0 ≤ (x5_1 : Int) := of_decide_eq_true (by first | (with_reducible assumption) | assumption)
                have q164 : x5_1 < (l1.length : Int) := of_decide_eq_true (by first | (with_reducible assumption) | assumption)
                obtain ⟨ad164, e164, hx164_0, hx164_1, hx164_2, hx164_3, hx164_4, hx164_5, hx164_6, hx164_7⟩ := at_T36 HR1.out x5_1 p164 q164
                cases e164
                replace p164 := eq_true p164
                replace q164 := eq_true q164
                go_wp2
                repeat (go_quiet (fail); try go_wp2)
                go_ret
                exact ⟨by first | rfl | (simp; done) | (simp [*]; done), by repeat (first | exact Drawn0.refl _ | apply Drawn0.step)⟩
              · rw [if_neg c7] at H
                have c7b0 : (!(((rd_T36 l0 x5_1).f0) == ((rd_T36 l1 x5_1).f0)) || (!(((rd_T36 l0 x5_1).f1) == ((rd_T36 l1 x5_1).f1)) || ((!(((rd_T36 l0 x5_1).f2.f0) == ((rd_T36 l1 x5_1).f2.f0)) || (!(((rd_T36 l0 x5_1).f2.f1) == ((rd_T36 l1 x5_1).f2.f1)))) || (!(((rd_T36 l0 x5_1).f3) == ((rd_T36 l1 x5_1).f3)) || (!(((rd_T36 l0 x5_1).f4) == ((rd_T36 l1 x5_1).f4)) || (!(((rd_T36 l0 x5_1).f5) == ((rd_T36 l1 x5_1).f5)) || (!(((rd_T36 l0 x5_1).f6) == ((rd_T36 l1 x5_1).f6))))))))) = false := by simpa using c7
                clear c7
                have H' := Aside0.mk H
                clear H
                have p163 : 0 ≤ (x5_1 : Int) := of_decide_eq_true (by first | (with_reducible assumption) | assumption)
                have q163 : x5_1 < (l0.length : Int) := of_decide_eq_true (by first | (with_reducible assumption) | assumption)
                obtain ⟨ad163, e163, hx163_0, hx163_1, hx163_2, hx163_3, hx163_4, hx163_5, hx163_6, hx163_7⟩ := at_T36 HR0.out x5_1 p163 q163
                cases e163
                replace p163 := eq_true p163
                replace q163 := eq_true q163
                have p164 : 0 ≤ (x5_1 : Int) := of_decide_eq_true (by first | (with_reducible assumption) | assumption)
                have q164 : x5_1 < (l1.length : Int) := of_decide_eq_true (by first | (with_reducible assumption) | assumption)
                obtain ⟨ad164, e164, hx164_0, hx164_1, hx164_2, hx164_3, hx164_4, hx164_5, hx164_6, hx164_7⟩ := at_T36 HR1.out x5_1 p164 q164
                cases e164
                replace p164 := eq_true p164
                replace q164 := eq_true q164
                go_wp2
                repeat (go_quiet (fail); try go_wp2)
                go_roundg k1
                case measure => have := HK1.out; omega
                case rel => exact ⟨(wrap64 (x5_1 + 1)), (by first | rfl | (simp; done) | (simp [*]; done)), H', ⟨by have := HK1.out; omega⟩, by repeat (first | exact Drawn0.refl _ | apply Drawn0.step)⟩
            · rw [if_neg c6] at H
              exact absurd H (by simp)
          · rw [if_neg c5] at H
            exact absurd H (by simp)
        · rw [if_neg c4] at H
          have c4b0 : decide (x5_1 < (l0.length : Int)) = false := decide_eq_false c4
          clear c4
          obtain rfl := Option.some.inj H
          go_wp2
          repeat (go_quiet (fail); try go_wp2)
          go_ret
          exact ⟨by first | rfl | (simp; done) | (simp [*]; done), by repeat (first | exact Drawn0.refl _ | apply Drawn0.step)⟩
  · rw [if_neg c3] at H
    have c3b0 : ((l0.length : Int) == (l1.length : Int)) = false := beq_eq_false_iff_ne.mpr c3
    have c3b1 : ((l0.length : Int) != (l1.length : Int)) = true := bne_iff_ne.mpr c3
    have c3b2 : (l0.length == l1.length) = false := by first | simpa using c3 | (simp at c3 ⊢; omega)
    obtain rfl := Option.some.inj H
    go_enter Tryd.func20, Tryd.ntmps20
    go_wp2
    repeat (go_quiet (fail); try go_wp2)
    go_ret
    exact ⟨by first | rfl | (simp; done) | (simp [*]; done), by repeat (first | exact Drawn0.refl _ | apply Drawn0.step)⟩

end Go.Proofs.YtphbepddhhdhmaaDoor.GA
end

section
-- laid by a program of this session (wip/gp.sh)
namespace Go.Proofs.YtphbepddhhdhmaaDoor.GA
open Go.RowKit Go.Proofs.YtphbepddhhdhmaaDoorW.PrintWords Go.Proofs.YtphbepddhhdhmaaDoorW.PrintLast Go.Proofs.YtphbepddhhdhmaaDoorW.PrintMore
attribute [local go_sem] max2_int min2_int max_two min_two max_three min_three max_four min_four   -- for this text's walks alone
set_option linter.unusedVariables false
set_option linter.unusedSimpArgs false

/-! ### rotalaw25_long: function 25 -/
def rotalaw25_long.f (l0 : List (S36)) : Option (Bool) := some (decide ((l0.length : Int) > 1048576))
set_option maxHeartbeats 8000000 in
set_option maxRecDepth 100000 in
theorem rotalaw25_long.calls (A0 : Option Addr) (c0 : Nat) (l0 : List (S36)) (r : Bool) (w : World) (hr0 : Kd.C k36 w A0 l0.length l0) (hc0 : l0.length ≤ c0) (h : rotalaw25_long.f l0 = some r) :
    Calls Tryd.prog 25 #[.slice A0 l0.length c0] w fun e w' => e = .returned (.bool r) ∧ Drawn0 w w' := by
  have HR0 := Aside0.mk hr0
  have HC0 := Aside0.mk hc0
  clear hr0 hc0
  have H : (some (decide ((l0.length : Int) > 1048576))) = some r := h
  clear h
  obtain rfl := Option.some.inj H
  go_enter Tryd.func25, Tryd.ntmps25
  go_wp2
  go_ret
  exact ⟨by first | rfl | (simp; done) | (simp [*]; done), by repeat (first | exact Drawn0.refl _ | apply Drawn0.step)⟩

end Go.Proofs.YtphbepddhhdhmaaDoor.GA
end

section
/-
  TraceBack, walked: what is printed is read as it was.
-/
set_option linter.unusedVariables false
set_option linter.unusedSimpArgs false
namespace Go.Proofs.YtphbepddhhdhmaaDoor.Hof
open Go.RowKit Go.Shelf Go.Proofs.YtphbepddhhdhmaaDoorW.PrintWords Go.Proofs.YtphbepddhhdhmaaDoorW.PrintLast Go.Proofs.YtphbepddhhdhmaaDoorW.PrintMore GA Hctx Hof

theorem below_drawn0 {w w' : World} (h : Drawn0 w w') : Below w.heap.size w w' := h.below
theorem same_is9 (xs : List S36) (hl : xs.length < 2199023255552) : ∀ (d k i : Nat), i + d = xs.length → d < k → rotaref25_Same.l0 k xs xs (i : Int) = some true := by
  intro d
  induction d with
  | zero =>
    intro k i h1 h2
    obtain ⟨k, rfl⟩ : ∃ j, k = j + 1 := ⟨k - 1, by omega⟩
    rw [rotaref25_Same.l0, if_neg (by omega)]
  | succ d ih =>
    intro k i h1 h2
    obtain ⟨k, rfl⟩ : ∃ j, k = j + 1 := ⟨k - 1, by omega⟩
    have h := ih k (i + 1) (by omega) (by omega)
    have hA : (i : Int) < (xs.length : Int) := by omega
    have hB : 0 ≤ (i : Int) := by omega
    have w1 : wrap64 ((i : Int) + 1) = ((i + 1 : Nat) : Int) := by
      rw [Int.natCast_add]
      exact IntWalk.wrap64_in _ (by omega)
    simp only [rotaref25_Same.l0, if_pos hA, if_pos hB, w1, beq_self_eq_true, Bool.not_true, Bool.or_false, Bool.or_self, h]
    rfl
theorem sameF_of (xs : List S36) (hl : xs.length < 2199023255552) : rotaref25_Same.f (xs.length + 1) xs xs = some true := by
  have h := same_is9 xs hl xs.length (xs.length + 1) 0 (by omega) (by omega)
  unfold rotaref25_Same.f
  rw [if_pos rfl]
  exact h
theorem back_ok (l : List S36) (hl : l.length ≤ 1048576) (hx : ∀ x ∈ l, Q.EvIn x) : ∃ k r1 r2, rotalaw25_twin.f k l = some l ∧ trace_Check.f k l = some (r1, r2) ∧ (r2 = 0 → ∀ x ∈ l, EvOk x) ∧ (r2 ≠ 0 → 0 ≤ r1 ∧ r1 < l.length) ∧
    (r2 = 0 → (⟨(textE l).toArray⟩ : ByteArray).size ≤ 268435457 ∧ parseR ⟨(textE l).toArray⟩ = (l, 0, 0)) := by
  obtain ⟨k, r1, r2, h1, h2, h3, _⟩ := Q.prints l hl hx
  obtain ⟨g1, g2⟩ := check_all l (by omega) k 0 r1 r2 h2
  refine ⟨k, r1, r2, h1, h2, h3, g2, fun h => ?_⟩
  have hle := textE_len l (h3 h)
  have hsz : (⟨(textE l).toArray⟩ : ByteArray).size = (textE l).length := by simp [ByteArray.size]
  refine ⟨by omega, ?_⟩
  unfold parseR
  rw [if_neg (by omega)]
  have hsc := scan_text l [] (fun x hx' => ⟨h3 h x hx', by
    obtain ⟨j, hj, rfl⟩ := List.getElem_of_mem hx'
    exact (g1 h j (by omega) hj).1⟩) (rise_of l (fun i h0 hi => (g1 h i (by omega) hi).2 h0))
  simpa using hsc
set_option maxHeartbeats 4000000 in
set_option maxRecDepth 100000 in
theorem law10_calls (A : Option Addr) (c : Nat) (l : List S36) (w : World) (hl : Kd.C k36 w A l.length l) (kl : l.length ≤ c) (hx : ∀ x ∈ l, Q.EvIn x) (S0 : Std w) :
    Calls Tryd.prog 10 #[.slice A l.length c] w fun e w' => e = .returned (.bool true) ∧ Below w.heap.size w w' := by
  have hu36 := Tryd.underlying36
  have HL := Aside0.mk hl
  have S := Lib.hid S0
  have HX := Lib.hid hx
  clear hl S0 hx
  by_cases bL : l.length > 1048576
  · have hLg : rotalaw25_long.f l = some true := by unfold rotalaw25_long.f; rw [decide_eq_true (by omega)]
    obtain ⟨k, r1, r2, tw, ck, hg, hneg, hpos⟩ := back_ok ([] : List S36) (by first | omega | simp) (fun x h => by simp at h)
    have TW := Lib.hid tw
    have CK := Lib.hid ck
    have HG := Lib.hid hg
    have HN := Lib.hid hneg
    have HPO := Lib.hid hpos
    have HLL := Lib.hid (show ([] : List S36).length ≤ 1048576 by first | omega | simp)
    obtain ⟨sT, hsT⟩ : ∃ s : ByteArray, s = (if r2 = 0 then ⟨(textE ([] : List S36)).toArray⟩ else ⟨#[]⟩) := ⟨_, rfl⟩
    have HST := Lib.hid hsT
    clear tw ck hg hneg hpos hsT
    go_enter Tryd.func10, Tryd.ntmps10
    go_wp2_with fail
    refine (rotalaw25_long.calls A c l _ _ HL.out kl hLg).mono ?_
    rintro e w1 ⟨rfl, hd⟩
    have HB := Aside0.mk (below_drawn0 hd)
    clear hd
    go_wp2_with fail
    refine (rotalaw25_twin.calls k none 0 ([] : List S36) ([] : List S36) _ (Kd.C_nil k36 _) (by simp) TW.out).mono ?_
    rintro e w2 ⟨v2, rfl, hR, hb⟩
    obtain ⟨A2, c2, rfl⟩ := Kd.R_slice hR
    have HB2 := Aside0.mk (below_step HB.out hb)
    have HR := Aside0.mk (Kd.R_reads' hR)
    clear hR hb HB
    go_wp2_with fail
    refine (print_calls k A2 c2 ([] : List S36) r1 r2 _ HR.out.2.2 HR.out.2.1 (by have := HLL.out; omega) (Nat.lt_of_le_of_lt (Nat.zero_le _) (S.out.below HB2.out).size) (S.out.below HB2.out).tab (S.out.below HB2.out).names CK.out HG.out).mono ?_
    rw [← HST.out]
    rintro e w3 ⟨rfl, hb⟩
    have HB3 := Aside0.mk (below_step HB2.out hb)
    clear hb HB2 HR
    by_cases bE : r2 = 0
    · have e0 : (r2 != 0) = false := bne_eq_false_iff_eq.mpr bE
      have hst := HST.out
      rw [if_pos bE] at hst
      have HSZ := Lib.hid (show sT.size ≤ 268435457 by rw [hst]; exact (HPO.out bE).1)
      have HPR := Lib.hid (show parseR sT = (([] : List S36), 0, 0) by rw [hst]; exact (HPO.out bE).2)
      clear hst HST
      subst bE
      go_wp2_with fail
      refine (parse_calls sT HSZ.out _ (S.out.below HB3.out)).mono ?_
      rw [HPR.out]
      rintro e w4 ⟨v4, rfl, hR, hb⟩
      obtain ⟨A4, c4, rfl⟩ := Kd.R_slice hR
      have HB4 := Aside0.mk (below_step HB3.out hb)
      have HR4 := Aside0.mk hR
      clear hR hb HB3
      dsimp only at HR4 ⊢
      go_wp2_with fail
      refine (rotalaw25_lives.calls true _ ((S.out.below HB4.out).names) Q.lives).mono ?_
      rintro e w5 ⟨rfl, hd⟩
      have RD1 := Aside0.mk (Kd.R_reads' (Kd.R_below HR4.out (below_drawn0 hd)))
      have HB5 := Aside0.mk (below_step HB4.out (below_drawn0 hd))
      clear hd HB4 HR4
      go_wp2_with fail
      refine (rotaref25_Same.calls (([] : List S36).length + 1) A4 c4 ([] : List S36) none 0 ([] : List S36) true _ RD1.out.2.2 RD1.out.2.1 (Kd.C_nil k36 _) (by simp) (sameF_of ([] : List S36) (by have := HLL.out; omega))).mono ?_
      rintro e w6 ⟨rfl, hd⟩
      have HB6 := Aside0.mk (below_step HB5.out (below_drawn0 hd))
      clear hd HB5
      go_wp2_with fail
      go_ret
      exact ⟨by first | rfl | simp, HB6.out⟩
    · have hn := HN.out bE
      simp only [List.length_nil] at hn
      omega
  · have hLg : rotalaw25_long.f l = some false := by unfold rotalaw25_long.f; rw [decide_eq_false (by omega)]
    obtain ⟨k, r1, r2, tw, ck, hg, hneg, hpos⟩ := back_ok l (by first | omega | simp) HX.out
    have TW := Lib.hid tw
    have CK := Lib.hid ck
    have HG := Lib.hid hg
    have HN := Lib.hid hneg
    have HPO := Lib.hid hpos
    have HLL := Lib.hid (show l.length ≤ 1048576 by first | omega | simp)
    obtain ⟨sT, hsT⟩ : ∃ s : ByteArray, s = (if r2 = 0 then ⟨(textE l).toArray⟩ else ⟨#[]⟩) := ⟨_, rfl⟩
    have HST := Lib.hid hsT
    clear tw ck hg hneg hpos hsT
    go_enter Tryd.func10, Tryd.ntmps10
    go_wp2_with fail
    refine (rotalaw25_long.calls A c l _ _ HL.out kl hLg).mono ?_
    rintro e w1 ⟨rfl, hd⟩
    have HB := Aside0.mk (below_drawn0 hd)
    clear hd
    go_wp2_with fail
    refine (rotalaw25_twin.calls k A c l l _ (Kd.C_below HL.out HB.out) kl TW.out).mono ?_
    rintro e w2 ⟨v2, rfl, hR, hb⟩
    obtain ⟨A2, c2, rfl⟩ := Kd.R_slice hR
    have HB2 := Aside0.mk (below_step HB.out hb)
    have HR := Aside0.mk (Kd.R_reads' hR)
    clear hR hb HB
    go_wp2_with fail
    refine (print_calls k A2 c2 l r1 r2 _ HR.out.2.2 HR.out.2.1 (by have := HLL.out; omega) (Nat.lt_of_le_of_lt (Nat.zero_le _) (S.out.below HB2.out).size) (S.out.below HB2.out).tab (S.out.below HB2.out).names CK.out HG.out).mono ?_
    rw [← HST.out]
    rintro e w3 ⟨rfl, hb⟩
    have HB3 := Aside0.mk (below_step HB2.out hb)
    clear hb HB2 HR
    by_cases bE : r2 = 0
    · have e0 : (r2 != 0) = false := bne_eq_false_iff_eq.mpr bE
      have hst := HST.out
      rw [if_pos bE] at hst
      have HSZ := Lib.hid (show sT.size ≤ 268435457 by rw [hst]; exact (HPO.out bE).1)
      have HPR := Lib.hid (show parseR sT = (l, 0, 0) by rw [hst]; exact (HPO.out bE).2)
      clear hst HST
      subst bE
      go_wp2_with fail
      refine (parse_calls sT HSZ.out _ (S.out.below HB3.out)).mono ?_
      rw [HPR.out]
      rintro e w4 ⟨v4, rfl, hR, hb⟩
      obtain ⟨A4, c4, rfl⟩ := Kd.R_slice hR
      have HB4 := Aside0.mk (below_step HB3.out hb)
      have HR4 := Aside0.mk hR
      clear hR hb HB3
      dsimp only at HR4 ⊢
      go_wp2_with fail
      refine (rotalaw25_lives.calls true _ ((S.out.below HB4.out).names) Q.lives).mono ?_
      rintro e w5 ⟨rfl, hd⟩
      have RD1 := Aside0.mk (Kd.R_reads' (Kd.R_below HR4.out (below_drawn0 hd)))
      have HB5 := Aside0.mk (below_step HB4.out (below_drawn0 hd))
      clear hd HB4 HR4
      go_wp2_with fail
      refine (rotaref25_Same.calls (l.length + 1) A4 c4 l A c l true _ RD1.out.2.2 RD1.out.2.1 (Kd.C_below HL.out HB5.out) kl (sameF_of l (by have := HLL.out; omega))).mono ?_
      rintro e w6 ⟨rfl, hd⟩
      have HB6 := Aside0.mk (below_step HB5.out (below_drawn0 hd))
      clear hd HB5
      go_wp2_with fail
      go_ret
      exact ⟨by first | rfl | simp, HB6.out⟩
    · have e0 : (r2 != 0) = true := bne_iff_ne.mpr bE
      have hst := HST.out
      rw [if_neg bE] at hst
      subst hst
      have hn := HN.out bE
      have n1 : decide (r1 ≥ 0) = true := decide_eq_true hn.1
      have n2 : decide (r1 < (l.length : Int)) = true := decide_eq_true hn.2
      have HNN := Lib.hid hn
      clear hn HST
      go_wp2_with fail
      refine (rotalaw25_twin.calls k A c l l _ (Kd.C_below HL.out HB3.out) kl TW.out).mono ?_
      rintro e w4 ⟨v4, rfl, hR, hb⟩
      obtain ⟨A4, c4, rfl⟩ := Kd.R_slice hR
      have HB4 := Aside0.mk (below_step HB3.out hb)
      have HR := Aside0.mk (Kd.R_reads' hR)
      clear hR hb HB3
      go_wp2_with fail
      refine (trace_Check.calls k A4 c4 l r1 r2 _ HR.out.2.2 HR.out.2.1 CK.out).mono ?_
      rintro e w5 ⟨rfl, hb⟩
      have HB5 := Aside0.mk (below_step HB4.out hb)
      clear hb HB4 HR
      go_wp2_with fail
      refine (rotalaw25_lives.calls true _ ((S.out.below HB5.out).names) Q.lives).mono ?_
      rintro e w6 ⟨rfl, hd⟩
      have HB6 := Aside0.mk (below_step HB5.out (below_drawn0 hd))
      clear hd HB5
      go_wp2_with fail
      go_ret
      exact ⟨by first | rfl | simp, HB6.out⟩
end Go.Proofs.YtphbepddhhdhmaaDoor.Hof
end

section
/-
  What the arguments' types open to: events and slices of them.
-/
namespace Go.Proofs.YtphbepddhhdhmaaDoor.Kinds
open Go.Proofs.YtphbepddhhdhmaaDoorW.PrintWords Go.Proofs.YtphbepddhhdhmaaDoor.Opn Go.Proofs.YtphbepddhhdhmaaDoor.GA
theorem o3 : Opens Tryd.prog 3 (Kd.int .i64) (GInt .i64) := opens_int Tryd.underlying3 (by kernel_rfl)
theorem o2 : Opens Tryd.prog 2 (Kd.int .i64) (GInt .i64) := opens_int Tryd.underlying2 (by kernel_rfl)
theorem o34 : Opens Tryd.prog 34 (Kd.int .u64) (GInt .u64) := opens_int Tryd.underlying34 (by kernel_rfl)
def G33 (x : S33) (n : Nat) : Prop := GPair (GInt .i64) (GInt .i64) (x.f0, x.f1) n
theorem o33 : Opens Tryd.prog 33 k33 G33 :=
  opens_struct (seq_cons o3 (seq_one o3)) Tryd.underlying33 (by kernel_rfl) (by kernel_rfl) (by kernel_rfl) _ (fun a => ⟨a.1, a.2⟩) (fun _ => rfl)
def G36 (x : S36) (n : Nat) : Prop := GPair (GInt .u64) (GPair (GInt .i64) (GPair G33 (GPair (GInt .i64) (GPair (GInt .i64) (GPair (GInt .i64) (GInt .i64)))))) (x.f0, x.f1, x.f2, x.f3, x.f4, x.f5, x.f6) n
theorem o36 : Opens Tryd.prog 36 k36 G36 :=
  opens_struct (seq_cons o34 (seq_cons o3 (seq_cons o33 (seq_cons o3 (seq_cons o2 (seq_cons o2 (seq_one o2))))))) Tryd.underlying36 (by kernel_rfl) (by kernel_rfl) (by kernel_rfl) _ (fun a => ⟨a.1, a.2.1, a.2.2.1, a.2.2.2.1, a.2.2.2.2.1, a.2.2.2.2.2.1, a.2.2.2.2.2.2⟩) (fun _ => rfl)
theorem o22 : Opens Tryd.prog 22 (Kd.slice 36 k36) (GSl 64 G36) := opens_slice o36 Tryd.underlying22 (by kernel_rfl) (B := 64) (by kernel_rfl)
end Go.Proofs.YtphbepddhhdhmaaDoor.Kinds
end

section
/-
  The listed table of powers of ten.
-/
set_option linter.unusedVariables false
namespace Go.Proofs.YtphbepddhhdhmaaDoor.Laid
open Go.RowKit Go.Proofs.YtphbepddhhdhmaaDoorW.PrintWords
theorem tab_of {w : World} {laid : List (String × DataW Unit)} (h : laidMet Tryd.prog laid w) (hm : ("internal/strconv.uint64pow10", Rows.laid_internal_strconv_uint64pow10) ∈ laid) : Hof.TabB w.heap.size w := by
  obtain ⟨ps, hps, _⟩ := h
  obtain ⟨g, t, cs, fuel, p, hg, ht, hvar, hd⟩ := laidVars_mem hps hm
  have e : (Rows.laid_internal_strconv_uint64pow10 : DataW Unit) = Lib.tabData .u64 Lib.pow10Tab := by kernel_rfl
  rw [e] at hd
  obtain rfl := Option.some.inj (hg.symm.trans (show Tryd.prog.globalNamed "internal/strconv.uint64pow10" = some 2 by kernel_rfl))
  obtain rfl := Option.some.inj (ht.symm.trans (show (Tryd.prog.globals[2]?).map (·.type) = some 106 by kernel_rfl))
  have hc := Lib.cells_of_tab (show Tryd.prog.underlying 106 = some (.array 20 34) by kernel_rfl) (show Tryd.prog.underlying 34 = some (.int .u64) by kernel_rfl) (by kernel_rfl) (by kernel_rfl) hd
  refine Lib.tabBelow_of_tabIs ?_
  unfold Lib.TabIs
  rw [hvar, ← hc]
end Go.Proofs.YtphbepddhhdhmaaDoor.Laid
end

section
/-
  The listed variables that the readers meet: what their cells hold.
-/
set_option linter.unusedVariables false
namespace Go.Proofs.YtphbepddhhdhmaaDoor.Laid
open Go.RowKit Go.Proofs.YtphbepddhhdhmaaDoorW.PrintWords
/-- What all three rows list. -/
def eight : List (String × DataW Unit) := [("math/bits.deBruijn32tab", Rows.laid_math_bits_deBruijn32tab), ("math/bits.deBruijn64tab", Rows.laid_math_bits_deBruijn64tab), ("internal/strconv.uint64pow10", Rows.laid_internal_strconv_uint64pow10), ("unicode/utf8.acceptRanges", Rows.laid_unicode_utf8_acceptRanges), ("strconv.ErrRange", Rows.laid_strconv_ErrRange), ("strconv.ErrSyntax", Rows.laid_strconv_ErrSyntax), ("rota/trace.names", Rows.laid_rota_trace_names), ("unicode/utf8.first", Rows.laid_unicode_utf8_first)]
theorem star : "*" ++ "errors.errorString" = "*errors.errorString" := by decide
theorem row122 (u : TypeId) (h : Tryd.prog.typeName? 3 u = some "*errors.errorString") : u = 122 :=
  typeName_ptr_named (nm := "errors.errorString") (by rw [star]; kernel_rfl) (by kernel_rfl) (by decide) u (by rw [star]; exact h)
theorem err_at {W : World} {n : String} {text : List UInt8} {r : List (String × DataW Unit)} {g : Nat} (h : laidMet Tryd.prog ((n, .iface "*errors.errorString" (.ptr (.agg [.lit (.string text)]))) :: r) W) (hg : Tryd.prog.globalNamed n = some g) (ht : (Tryd.prog.globals[g]?).map (·.type) = some 73) :
    ∃ te pe, W.cell? ⟨g, 0, none⟩ = some (.iface te pe) := by
  have hi : Tryd.prog.underlying 73 = some (.interface #[("Error", 132)]) := by kernel_rfl
  obtain ⟨a, s, hv, _, _, _⟩ := laid_sentinel h hg ht (ti := 73) (tp := 122) (te := 124) (ts := 9) hi row122 (by kernel_rfl) (show Tryd.prog.underlying 124 = some (.struct #[{ name := "s", type := 9, offset := 0, embedded := false, tag := "", pkgPath := "errors", byteOffset := 0 }]) by kernel_rfl) rfl rfl Tryd.underlying9 (by kernel_rfl) (by kernel_rfl)
  exact ⟨_, _, (World.var?_cell hg hv 0).trans rfl⟩
theorem std_of {W : World} (h : laidMet Tryd.prog eight W) (hS : W.ShapedOpen Tryd.prog) : Hof.Std W := by
  have hr := laidMet.tail (laidMet.tail (laidMet.tail (laidMet.tail h)))
  have hs := laidMet.tail hr
  obtain ⟨m, hm⟩ := cell_of_shapedOpen_int (P := Tryd.prog) (g := 1) (t := 3) (zero := #[.int .i64 0]) hS (of_decide_eq_true (by kernel_rfl)) (by kernel_rfl) rfl (by kernel_rfl) (by kernel_rfl) Tryd.underlying3
  obtain ⟨g, t, cs, fuel, p, hg, ht, hvar, hd⟩ : ∃ g t cs fuel p, Tryd.prog.globalNamed "unicode/utf8.acceptRanges" = some g ∧ (Tryd.prog.globals[g]?).map (·.type) = some t ∧ W.var? Tryd.prog "unicode/utf8.acceptRanges" = some cs ∧ DataW.trod (fun _ => ()) Tryd.prog W 0 (fun _ => true) false fuel t cs.toList = some (Rows.laid_unicode_utf8_acceptRanges, p) := by
    obtain ⟨ps, hps, _⟩ := h
    exact laidVars_mem hps (by simp [eight])
  have hsize : 8 < W.heap.size := by
    obtain rfl := Option.some.inj (hg.symm.trans (show Tryd.prog.globalNamed "unicode/utf8.acceptRanges" = some 8 by kernel_rfl))
    unfold World.var? at hvar
    rw [hg] at hvar
    rcases Nat.lt_or_ge 8 W.heap.size with h' | h'
    · exact h'
    · simp [Array.getElem?_eq_none h'] at hvar
  refine ⟨hsize, ⟨m, hm⟩, err_at hs (by kernel_rfl) (by kernel_rfl), err_at hr (by kernel_rfl) (by kernel_rfl), tab_of h (by simp [eight]), names_of h (by simp [eight])⟩
end Go.Proofs.YtphbepddhhdhmaaDoor.Laid
end

section
/-
  What Print tells of events is read as these events.
-/
set_option linter.unusedVariables false
set_option linter.unusedSimpArgs false
namespace Go.Proofs.YtphbepddhhdhmaaDoor.traceBack
open Go.ChangeShapes Go.WideShapes Go.ChangeAt Go.RowKit Go.Proofs.YtphbepddhhdhmaaDoorW.PrintWords Go.Proofs.YtphbepddhhdhmaaDoor.Opn
open Go.ChangeMaps (open_string shut_string)
theorem own : ownKnob Tryd.prog.godebug = none := by kernel_rfl
theorem laidOut : laidOutB Tryd.prog = true := by kernel_rfl
set_option maxRecDepth 100000 in
theorem contract (H : Type) (enc : TypeId × Value → H) (W : World) (base : Nat) (args : Array Value) (ds gs : List (DataW H)) (before : List MemPlace)
    (hval0 : ∀ (j : Nat) t v, Tryd.f10.params[j]? = some t → args[j]? = some v → Value.okWide Tryd.prog W .any base t v)
    (hW : DataW.Whole enc Tryd.prog Tryd.f10.params.toList Rows.traceBackSpec.vars false W args.toList ds gs before)
    (hsz0 : (DataW.weightsEach Tryd.prog (Tryd.f10.params.toList ++ (OpenSpec.ofChange Rows.traceBackSpec).bare.plain.varTypes Tryd.prog) (ds ++ gs)).all (· ≤ reachBytes) = true)
    (hSh : W.ShapedOpen Tryd.prog)
    (hL : laidMetH Tryd.prog Rows.traceBackRow.laid W) :
    Calls Tryd.prog 10 args W fun e W' => ∃ v, e = .returned v ∧ Rows.traceBackSpec.post enc Tryd.prog Tryd.f10 false true false false W args v W' := by
  have hsz : (DataW.weightsEach Tryd.prog (Tryd.f10.params.toList ++ Rows.traceBackSpec.plain.varTypes Tryd.prog) (ds ++ gs)).all (· ≤ reachBytes) = true := hsz0
  have hval : ∀ (j : Nat) t v, Tryd.f10.params[j]? = some t → args[j]? = some v → Value.okWide Tryd.prog W .any base t v := hval0
  have hStd : Hof.Std W := Laid.std_of (show laidMet Tryd.prog Laid.eight W from hL) hSh
  have hW' := hW
  obtain ⟨p, q, hA0, hV, rfl, hfz, hnd⟩ := hW
  have hA : DataW.TrodAll enc Tryd.prog W 0 (fun _ => true) true Tryd.f10.params.toList args.toList ds p := hA0
  rw [Tryd.params10] at hA hval hsz
  obtain ⟨v0, vs0, d0, ds0, p0, q0, hargs, rfl, rfl, h0, r0⟩ := trodAll_cons hA
  obtain ⟨rfl, rfl, rfl⟩ := trodAll_nil r0
  obtain rfl : args = #[v0] := by cases args; simp_all
  obtain ⟨rfl, rfl⟩ := trodVars_none hV
  have k0 := h0
  have lt0 : ∀ x ∈ p0, x.block < W.heap.size := by obtain ⟨m, hm⟩ := k0; exact DataW.trod_lt m _ _ _ hm
  have ws0 : ∀ n ∈ d0.weights Tryd.prog 22, n ≤ reachBytes := fun n hn => by simpa using List.all_eq_true.1 hsz n (DataW.weights_mem_each (j := 0) rfl rfl n hn)
  obtain ⟨x0, K0, G0⟩ : ∃ x, (Kd.slice 36 GA.k36).K W x v0.cells.toList ∧ GSl 64 Kinds.G36 x (Rows.uptoBulk d0) := by
    obtain ⟨fuel, hf⟩ := h0
    exact Kinds.o22.opens enc W 0 _ _ fuel _ _ hf ws0
  obtain ⟨a0, len0, cap0, rfl⟩ := okWide_slice Tryd.underlying22 (hval 0 22 v0 rfl rfl)
  obtain ⟨A0, c0, e0, hc0, hC0⟩ := K0
  simp only [Value.cells, List.cons.injEq, and_true, Value.slice.injEq] at e0
  obtain ⟨rfl, rfl, rfl⟩ := e0
  clear hA0 hval hsz
  have ev0 : ∀ x ∈ x0, Q.EvIn x := fun x hx => by
    obtain ⟨g0, g1, ⟨g2, g3⟩, g4, g5, g6, g7⟩ := G0.2.2.2 x hx
    have g0' : (Lit.int .u64 x.f0).wf = true := g0
    have g1' : (Lit.int .i64 x.f1).wf = true := g1
    have g2' : (Lit.int .i64 x.f2.f0).wf = true := g2
    have g3' : (Lit.int .i64 x.f2.f1).wf = true := g3
    have g4' : (Lit.int .i64 x.f3).wf = true := g4
    have g5' : (Lit.int .i64 x.f4).wf = true := g5
    have g6' : (Lit.int .i64 x.f5).wf = true := g6
    have g7' : (Lit.int .i64 x.f6).wf = true := g7
    clear g0 g1 g2 g3 g4 g5 g6 g7
    simp [Lit.wf, IntKind.min, IntKind.max, IntKind.signed, IntKind.bits] at g0' g1' g2' g3' g4' g5' g6' g7'
    unfold Q.EvIn Hof.I64
    omega
  refine (Hof.law10_calls _ _ x0 W hC0 hc0 ev0 hStd).mono fun e W' ⟨he, bel⟩ => ?_
  subst he
  exact ⟨_, rfl, _, _, _, [], _, [], hW', trodAll_mk1 (shut_bool Tryd.underlying4 _), (trodAll_cons_mk (Below.trod laidOut (by kernel_rfl) (of_decide_eq_true (by kernel_rfl)) k0 bel lt0) trodAll_mk0), rfl, bel.frame _, fun h => by cases h⟩
def lay (cs : Array Value) : Obj → Obj
  | .cells _ t frozen => .cells cs t frozen
  | o => o
noncomputable def laidWorld (os : Os) : World := { World.holding Tryd.prog os ⟨#[], #[], []⟩ with heap := (((((((((((World.holding Tryd.prog os ⟨#[], #[], []⟩).heap.modify 0 (lay (Laid.names.map Value.string).toArray)).modify 2 (lay #[.int .u64 1, .int .u64 10, .int .u64 100, .int .u64 1000, .int .u64 10000, .int .u64 100000, .int .u64 1000000, .int .u64 10000000, .int .u64 100000000, .int .u64 1000000000, .int .u64 10000000000, .int .u64 100000000000, .int .u64 1000000000000, .int .u64 10000000000000, .int .u64 100000000000000, .int .u64 1000000000000000, .int .u64 10000000000000000, .int .u64 100000000000000000, .int .u64 1000000000000000000, .int .u64 10000000000000000000])).modify 5 (lay #[.int .u8 0, .int .u8 1, .int .u8 28, .int .u8 2, .int .u8 29, .int .u8 14, .int .u8 24, .int .u8 3, .int .u8 30, .int .u8 22, .int .u8 20, .int .u8 15, .int .u8 25, .int .u8 17, .int .u8 4, .int .u8 8, .int .u8 31, .int .u8 27, .int .u8 13, .int .u8 23, .int .u8 21, .int .u8 19, .int .u8 16, .int .u8 7, .int .u8 26, .int .u8 12, .int .u8 18, .int .u8 6, .int .u8 11, .int .u8 5, .int .u8 10, .int .u8 9])).modify 6 (lay #[.int .u8 0, .int .u8 1, .int .u8 56, .int .u8 2, .int .u8 57, .int .u8 49, .int .u8 28, .int .u8 3, .int .u8 61, .int .u8 58, .int .u8 42, .int .u8 50, .int .u8 38, .int .u8 29, .int .u8 17, .int .u8 4, .int .u8 62, .int .u8 47, .int .u8 59, .int .u8 36, .int .u8 45, .int .u8 43, .int .u8 51, .int .u8 22, .int .u8 53, .int .u8 39, .int .u8 33, .int .u8 30, .int .u8 24, .int .u8 18, .int .u8 12, .int .u8 5, .int .u8 63, .int .u8 55, .int .u8 48, .int .u8 27, .int .u8 60, .int .u8 41, .int .u8 37, .int .u8 16, .int .u8 46, .int .u8 35, .int .u8 44, .int .u8 21, .int .u8 52, .int .u8 32, .int .u8 23, .int .u8 11, .int .u8 54, .int .u8 26, .int .u8 40, .int .u8 15, .int .u8 34, .int .u8 20, .int .u8 31, .int .u8 10, .int .u8 25, .int .u8 14, .int .u8 19, .int .u8 9, .int .u8 13, .int .u8 8, .int .u8 7, .int .u8 6])).modify 3 (lay #[.iface 122 (.pointer (some ⟨(World.holding Tryd.prog os ⟨#[], #[], []⟩).heap.size, 0, none⟩))])).modify 4 (lay #[.iface 122 (.pointer (some ⟨(World.holding Tryd.prog os ⟨#[], #[], []⟩).heap.size + 1, 0, none⟩))])).modify 7 (lay (Go.Pinned.utf8FirstZ.map fun (n : Nat) => Value.int .u8 (n : Int)).toArray)).modify 8 (lay #[.int .u8 128, .int .u8 191, .int .u8 160, .int .u8 191, .int .u8 128, .int .u8 159, .int .u8 144, .int .u8 191, .int .u8 128, .int .u8 143, .int .u8 0, .int .u8 0, .int .u8 0, .int .u8 0, .int .u8 0, .int .u8 0, .int .u8 0, .int .u8 0, .int .u8 0, .int .u8 0, .int .u8 0, .int .u8 0, .int .u8 0, .int .u8 0, .int .u8 0, .int .u8 0, .int .u8 0, .int .u8 0, .int .u8 0, .int .u8 0, .int .u8 0, .int .u8 0])).push (.cells #[.string ⟨#[105, 110, 118, 97, 108, 105, 100, 32, 115, 121, 110, 116, 97, 120]⟩] 124)).push (.cells #[.string ⟨#[118, 97, 108, 117, 101, 32, 111, 117, 116, 32, 111, 102, 32, 114, 97, 110, 103, 101]⟩] 124)) }
theorem laid_met (os : Os) : laidMet Tryd.prog Rows.traceBackRow.laid ((laidWorld os).forCall (fun _ _ => 0) ⟨#[], #[.slice none 0 0], []⟩).memory := laidMet_of_run3 8 (by kernel_rfl) (by kernel_rfl) (by kernel_rfl)
theorem reads (os : Os) {H : Type} (enc : TypeId × Value → H) : ∃ places, DataW.whole enc Tryd.prog ((laidWorld os).forCall (fun _ _ => 0) ⟨#[], #[.slice none 0 0], []⟩).memory Tryd.f10.params.toList Rows.traceBackSpec.vars false (#[.slice none 0 0] : Array Value).toList 8 = some ([.nil], [], places) := ⟨[], by kernel_rfl⟩
set_option maxRecDepth 100000 in
theorem lifted (os : Os) (started : os.Started) (H : Type) (enc : TypeId × Value → H) (F : Stop.Interp) :
    ReturnsInHanded {} Tryd.checked os 10 .any ((OpenSpec.ofChange Rows.traceBackSpec).preRow enc Tryd.prog Tryd.f10 Rows.traceBackRow.domain false Rows.traceBackRow.laid) (((OpenSpec.ofChange Rows.traceBackSpec).at F).post enc Tryd.prog Tryd.f10 false true false false) := by
  obtain ⟨places, hx⟩ := reads os enc
  refine returnsInHanded_of_row (C := Tryd.checked) (s := (OpenSpec.ofChange Rows.traceBackSpec)) own started (by kernel_rfl) Tryd.func10
    (witness_row_at (enc := enc) (C := Tryd.checked) false (laidWorld os) #[.slice none 0 0] rfl (by kernel_rfl) (by kernel_rfl) (by kernel_rfl)
      (OpenSpec.preRow_of_cond 8 hx (by kernel_rfl) (fun k hk => by cases hk) (by kernel_rfl) (laid_met os))) ?_
  intro W base args ds gs before hval hW _ _ hsz hL hSh _
  exact contract H enc W base args ds gs before hval hW hsz hSh hL
theorem said : Rows.TraceBackSaid :=
  OpenClaim.holds_of_cond 10 Tryd.f10 rfl rfl rfl rfl rfl rfl rfl ⟨rfl, rfl, rfl, rfl, rfl⟩ rfl rfl rfl rfl rfl (by kernel_rfl) Tryd.func10 (by kernel_rfl)
    (of_decide_eq_true (by kernel_rfl)) (by unfold Func.isWrapper; first | (rw [if_pos (by decide +kernel)]; kernel_rfl) | (rw [if_neg (by decide +kernel)]; exact ⟨rfl, rfl⟩))
    (fun os started H enc _ F => by rw [OpenClaim.pre_eq_preRow]; exact lifted os started H enc F)
theorem plain (f : FuncId) (fn : Func) (hf : Tryd.pinned.checked.prog.funcNamed Rows.traceBackRow.func = some f) (hfn : Tryd.pinned.checked.prog.funcs[f]? = some fn) :
    true = Tryd.pinned.checked.prog.looks [] ∧ ∀ (j : Nat) t, fn.params[j]? = some t → Tryd.pinned.checked.prog.wantsStandIn t = false := by
  obtain rfl : f = 10 := Option.some.inj ((show Tryd.prog.funcNamed Rows.traceBackRow.func = some 10 by kernel_rfl).symm.trans hf) |>.symm
  obtain rfl : fn = Tryd.f10 := (Option.some.inj (Tryd.func10.symm.trans hfn)).symm
  refine ⟨by kernel_rfl, fun j t ht => ?_⟩
  rw [Tryd.params10] at ht
  have hm := Array.mem_of_getElem? ht
  simp at hm
  rcases hm with rfl
  · exact (show Tryd.prog.wantsStandIn 22 = false by kernel_rfl)
theorem card : Rows.TraceBackCardSaid :=
  Claim7.holds_tied_plain_at .later [] _ _ _ _ said (fun _ h => by cases h) (by kernel_rfl) (fun _ h => by cases h) traceBack_row_tie rfl ⟨rfl, rfl⟩ (by kernel_rfl) rfl plain (by kernel_rfl)
end Go.Proofs.YtphbepddhhdhmaaDoor.traceBack
namespace Go.Proofs.YtphbepddhhdhmaaDoor
theorem traceBack_holds : Rows.TraceBackCardSaid := traceBack.card
end Go.Proofs.YtphbepddhhdhmaaDoor
end
