import Derived.Test.YtphbepddhhdhmaaDoorMAg12
import Derived.Test.YtphbepddhhdhmaaDoorMAg6
import Derived.Test.YtphbepddhhdhmaaDoorMAg13
import Derived.Test.YtphbepddhhdhmaaDoorMAg9
import Derived.Test.YtphbepddhhdhmaaDoorMAg10
import Derived.Deep.QuietTactic
import Derived.BigQuiet
import Derived.Lib.Hide
import Derived.WalkKit
import Derived.Outline
import Derived.Test.YtphbepddhhdhmaaDoorMAg1
import Derived.Test.YtphbepddhhdhmaaDoorRows
import Derived.Lib.LaidTab
import Derived.Test.YtphbepddhhdhmaaDoorMAg2
import Derived.HandedShaped
import Derived.Stop.LaidErr
import Derived.Test.YtphbepddhhdhmaaDoorCards
import Derived.Test.YtphbepddhhdhmaaDoorTie
import Derived.ProofKit
import Derived.OpenShut
import Derived.ShutString
import Derived.ChangeOld
import Derived.Below
import Derived.SizedLaws
import Derived.Lib.SmallJoins
import Derived.Deep.DeepHandedRow
import Derived.Deep.DeepLaidRun
section
/-
  TraceBack and TraceAgain in plain Lean: what is printed is read as it was, what is read prints as it was.
-/
set_option linter.unusedVariables false
set_option linter.unusedSimpArgs false
namespace Go.Proofs.YtphbepddhhdhmaaDoor.Hof
open Go.RowKit Go.Shelf Go.Proofs.YtphbepddhhdhmaaDoorW.PrintWords Go.Proofs.YtphbepddhhdhmaaDoorW.PrintLast Go.Proofs.YtphbepddhhdhmaaDoorW.PrintMore GA Hctx Num Q
/-- An event that may be. -/
def MayB (x : S36) : Prop := trace_may.f x.f0 x.f1 x.f2.f0 x.f2.f1 x.f3 x.f4 x.f5 x.f6 = some true
theorem valid_one {s : ByteArray} {x y : S36} (hx : Valid s x) (hy : Valid s y) : x = y := by
  obtain ⟨p0, p1, p2, p3, p4, p5, p6, p7, hp⟩ := list8 (valid_eight hx)
  obtain ⟨r0, r1, r2, r3, r4, r5, r6, r7⟩ := valid_reads hx hp
  exact (valid_same hp r0 r1 r2 r3 r5 r6 r7 x hx).symm.trans (valid_same hp r0 r1 r2 r3 r5 r6 r7 y hy)
theorem evOf_is {s : ByteArray} {x : S36} (h : Valid s x) : evOf s = some x := by
  have h1 : ∃ x, Valid s x := ⟨x, h⟩
  unfold evOf
  rw [dif_pos h1, valid_one (Classical.choose_spec h1) h]
theorem low_app (done : List S36) (y x : S36) : low (done ++ [y]) x ↔ x.f0 < y.f0 := by
  unfold low
  have e : (((done ++ [y]).length : Nat) : Int) - 1 = ((done.length : Nat) : Int) := by rw [List.length_append]; simp
  have h2 : rd_T36 (done ++ [y]) ((done.length : Nat) : Int) = y := by
    rw [rd36 (done ++ [y]) done.length (by simp)]; simp
  rw [e, h2]
  exact ⟨fun h => h.2, fun h => ⟨by simp, h⟩⟩
theorem low_nil (x : S36) : ¬ low [] x := fun h => by have := h.1; simp at this
/-- Each not earlier than the one before. -/
def Rise : List S36 → Prop
  | [] => True
  | [_] => True
  | x :: y :: t => ¬ y.f0 < x.f0 ∧ Rise (y :: t)
theorem rise_app (d : List S36) (x y : S36) (h : Rise (d ++ [x])) (hxy : ¬ y.f0 < x.f0) : Rise (d ++ [x] ++ [y]) := by
  induction d with
  | nil => exact ⟨hxy, trivial⟩
  | cons a d ih =>
    cases d with
    | nil => exact ⟨h.1, hxy, trivial⟩
    | cons b d => exact ⟨h.1, ih h.2⟩
theorem rise_at : ∀ (xs : List S36), Rise xs → ∀ i (h0 : 0 < i) (h : i < xs.length), ¬ xs[i].f0 < (xs[i - 1]'(by omega)).f0
  | [], _, i, _, h => by simp at h
  | [a], _, i, h0, h => by simp at h; omega
  | a :: b :: t, hr, i, h0, h => by
    obtain ⟨j, rfl⟩ : ∃ j, i = j + 1 := ⟨i - 1, by omega⟩
    cases j with
    | zero => exact hr.1
    | succ j =>
      have := rise_at (b :: t) hr.2 (j + 1) (by omega) (by simpa using h)
      simpa using this
theorem rise_of : ∀ (xs : List S36), (∀ i (h0 : 0 < i) (h : i < xs.length), ¬ xs[i].f0 < (xs[i - 1]'(by omega)).f0) → Rise xs
  | [], _ => trivial
  | [_], _ => trivial
  | a :: b :: t, h => ⟨h 1 (by omega) (by simp), rise_of (b :: t) (fun i h0 hi => by
      have := h (i + 1) (by omega) (by simpa using hi)
      obtain ⟨j, rfl⟩ : ∃ j, i = j + 1 := ⟨i - 1, by omega⟩
      simpa using this)⟩
/-- What is printed is read as it was. -/
theorem scan_text : ∀ (xs done : List S36), (∀ x ∈ xs, EvOk x ∧ MayB x) → Rise (done ++ xs) → scan [] done (textE xs) = (done ++ xs, 0, 0)
  | [], done, _, _ => by
    show scan [] done [] = _
    rw [scan, if_pos rfl, List.append_nil]
  | x :: xs, done, h, hr => by
    obtain ⟨hx, hm⟩ := h x List.mem_cons_self
    have e : textE (x :: xs) = lineE x ++ 10 :: textE xs := by unfold textE; rw [List.flatMap_cons]; simp
    have hv : evOf (sB (lineE x)) = some x := evOf_is ⟨hx, hm, rfl⟩
    have hl : ¬ low done x := by
      rcases List.eq_nil_or_concat done with rfl | ⟨d, y, rfl⟩
      · exact low_nil x
      · rw [List.concat_eq_append] at hr ⊢
        rw [low_app]
        have := rise_at _ hr (d.length + 1) (by omega) (by simp)
        simpa using this
    rw [e, scan_hit done (lineE x) _ [] (line_nl x hx), List.nil_append, scan_some done _ _ x hv hl, scan_text xs (done ++ [x]) (fun y hy => h y (List.mem_cons_of_mem _ hy)) (by simpa using hr)]
    simp
/-- What is read prints as it was. -/
theorem scan_back : ∀ (l cur : List UInt8) (done xs : List S36) (n : Int), (∀ x ∈ done, EvOk x ∧ MayB x) → Rise done → scan cur done l = (xs, 0, n) → textE xs = textE done ++ cur ++ l ∧ (∀ x ∈ xs, EvOk x ∧ MayB x) ∧ Rise xs ∧ n = 0
  | [], cur, done, xs, n, hd, hr, h => by
    rw [scan] at h
    by_cases hc : cur = []
    · rw [if_pos hc] at h
      injection h with h1 h2
      injection h2 with h2 h3
      subst hc; subst h1
      exact ⟨by simp, hd, hr, h3.symm⟩
    · rw [if_neg hc] at h
      injection h with h1 h2
      injection h2 with h2 h3
      exact absurd h2 (by decide)
  | b :: r, cur, done, xs, n, hd, hr, h => by
    by_cases hb : b = 10
    · subst hb
      cases he : evOf (sB cur) with
      | none =>
        rw [scan_none _ _ _ he] at h
        injection h with h1 h2
        injection h2 with h2 h3
        exact absurd h2 (by decide)
      | some x =>
        by_cases hl : low done x
        · rw [scan_low _ _ _ x he hl] at h
          injection h with h1 h2
          injection h2 with h2 h3
          exact absurd h2 (by decide)
        · rw [scan_some _ _ _ x he hl] at h
          obtain ⟨v1, v2, v3⟩ := evOf_valid he
          have hr' : Rise (done ++ [x]) := by
            rcases List.eq_nil_or_concat done with rfl | ⟨d, y, rfl⟩
            · exact trivial
            · rw [List.concat_eq_append] at hr hl ⊢
              rw [low_app] at hl
              exact rise_app d y x hr hl
          obtain ⟨h1, h2, h3, h4⟩ := scan_back r [] (done ++ [x]) xs n (fun y hy => by
            rcases List.mem_append.1 hy with hy | hy
            · exact hd y hy
            · rw [List.mem_singleton] at hy; subst hy; exact ⟨v1, v2⟩) hr' h
          refine ⟨?_, h2, h3, h4⟩
          have e : textE (done ++ [x]) = textE done ++ lineE x ++ [10] := by unfold textE; rw [List.flatMap_append]; simp
          have ec : cur = lineE x := by
            have := congrArg (fun s : ByteArray => s.data.toList) v3
            simpa [sB] using this
          rw [h1, e, ec]; simp
    · rw [scan, if_neg hb] at h
      obtain ⟨h1, h2, h3, h4⟩ := scan_back r (cur ++ [b]) done xs n hd hr h
      exact ⟨by rw [h1]; simp, h2, h3, h4⟩
theorem scan_bad : ∀ (l cur : List UInt8) (done xs : List S36) (c n : Int), scan cur done l = (xs, c, n) → c ≠ 0 → xs = [] ∧ 0 < n
  | [], cur, done, xs, c, n, h, hc => by
    rw [scan] at h
    split at h
    · injection h with h1 h2
      injection h2 with h2 h3
      exact absurd h2.symm hc
    · injection h with h1 h2
      injection h2 with h2 h3
      exact ⟨h1.symm, by omega⟩
  | b :: r, cur, done, xs, c, n, h, hc => by
    by_cases hb : b = 10
    · subst hb
      cases he : evOf (sB cur) with
      | none =>
        rw [scan_none _ _ _ he] at h
        injection h with h1 h2
        injection h2 with h2 h3
        exact ⟨h1.symm, by omega⟩
      | some x =>
        by_cases hl : low done x
        · rw [scan_low _ _ _ x he hl] at h
          injection h with h1 h2
          injection h2 with h2 h3
          exact ⟨h1.symm, by omega⟩
        · rw [scan_some _ _ _ x he hl] at h
          exact scan_bad r [] (done ++ [x]) xs c n h hc
    · rw [scan, if_neg hb] at h
      exact scan_bad r (cur ++ [b]) done xs c n h hc
theorem check_good (xs : List S36) (hl : xs.length < 2 ^ 62) (hm : ∀ x ∈ xs, MayB x) (hr : Rise xs) : ∀ (d k i : Nat), i + d = xs.length → d < k → trace_Check.l0 k xs xs (xs.length : Int) (i : Int) = some (0, 0)
  | 0, k, i, h1, h2 => by
    obtain ⟨k, rfl⟩ : ∃ j, k = j + 1 := ⟨k - 1, by omega⟩
    rw [trace_Check.l0, if_neg (by omega)]
  | d + 1, k, i, h1, h2 => by
    obtain ⟨k, rfl⟩ : ∃ j, k = j + 1 := ⟨k - 1, by omega⟩
    have hi : i < xs.length := by omega
    have hA : (i : Int) < (xs.length : Int) := by omega
    have hB : 0 ≤ (i : Int) := by omega
    have w1 : wrap64 ((i : Int) + 1) = ((i + 1 : Nat) : Int) := by
      rw [Int.natCast_add]
      exact IntWalk.wrap64_in _ (by omega)
    have hmi : trace_may.f xs[i].f0 xs[i].f1 xs[i].f2.f0 xs[i].f2.f1 xs[i].f3 xs[i].f4 xs[i].f5 xs[i].f6 = some true := hm _ (List.getElem_mem _)
    simp only [trace_Check.l0, if_pos hA, if_pos hB, rd36 xs i hi, w1, hmi, Option.bind_some, if_true]
    have hrec := check_good xs hl hm hr d k (i + 1) (by omega) (by omega)
    by_cases h4 : (i : Int) > 0
    · have w2 : wrap64 ((i : Int) - 1) = ((i - 1 : Nat) : Int) := by
        rw [show ((i - 1 : Nat) : Int) = (i : Int) - 1 by omega]
        exact IntWalk.wrap64_in _ (by omega)
      rw [if_pos h4, w2, if_pos (by omega), if_pos (by omega), rd36 xs (i - 1) (by omega), if_neg (rise_at xs hr i (by omega) hi)]
      exact hrec
    · rw [if_neg h4]; exact hrec
theorem check_all (xs : List S36) (hl : xs.length < 2 ^ 62) : ∀ (k i : Nat) (r1 r2 : Int), trace_Check.l0 k xs xs (xs.length : Int) (i : Int) = some (r1, r2) →
    (r2 = 0 → ∀ j, i ≤ j → (hj : j < xs.length) → MayB xs[j] ∧ ((h0 : 0 < j) → ¬ xs[j].f0 < (xs[j - 1]'(by omega)).f0)) ∧ (r2 ≠ 0 → 0 ≤ r1 ∧ r1 < xs.length)
  | 0, i, r1, r2, h => absurd h (by simp [trace_Check.l0])
  | k + 1, i, r1, r2, h => by
    by_cases hA : (i : Int) < (xs.length : Int)
    case neg =>
      rw [trace_Check.l0, if_neg hA] at h
      injection h with h
      injection h with h1 h2
      exact ⟨fun _ j h1 h2 => absurd h2 (by omega), fun h => absurd h2.symm h⟩
    have hi : i < xs.length := by omega
    have hB : 0 ≤ (i : Int) := by omega
    have w1 : wrap64 ((i : Int) + 1) = ((i + 1 : Nat) : Int) := by
      rw [Int.natCast_add]
      exact IntWalk.wrap64_in _ (by omega)
    simp only [trace_Check.l0, if_pos hA, if_pos hB, rd36 xs i hi, w1] at h
    obtain ⟨t, ht, h⟩ := Option.bind_eq_some_iff.1 h
    by_cases h3 : t = true
    case neg =>
      rw [if_neg h3] at h
      injection h with h
      injection h with h1 h2
      exact ⟨fun h => absurd (h2.trans h) (by decide), fun _ => by omega⟩
    rw [if_pos h3] at h
    subst h3
    by_cases h4 : (i : Int) > 0
    · have w2 : wrap64 ((i : Int) - 1) = ((i - 1 : Nat) : Int) := by
        rw [show ((i - 1 : Nat) : Int) = (i : Int) - 1 by omega]
        exact IntWalk.wrap64_in _ (by omega)
      rw [if_pos h4, w2, if_pos (by omega), if_pos (by omega), rd36 xs (i - 1) (by omega)] at h
      by_cases h5 : xs[i].f0 < (xs[i - 1]'(by omega)).f0
      · rw [if_pos h5] at h
        injection h with h
        injection h with h1 h2
        exact ⟨fun h => absurd (h2.trans h) (by decide), fun _ => by omega⟩
      · rw [if_neg h5] at h
        obtain ⟨g1, g2⟩ := check_all xs hl k (i + 1) r1 r2 h
        refine ⟨fun hr j hij hj => ?_, g2⟩
        by_cases e : i = j
        · subst e; exact ⟨ht, fun _ => h5⟩
        · exact g1 hr j (by omega) hj
    · rw [if_neg h4] at h
      obtain ⟨g1, g2⟩ := check_all xs hl k (i + 1) r1 r2 h
      refine ⟨fun hr j hij hj => ?_, g2⟩
      by_cases e : i = j
      · subst e; exact ⟨ht, fun h0 => absurd h4 (by omega)⟩
      · exact g1 hr j (by omega) hj
end Go.Proofs.YtphbepddhhdhmaaDoor.Hof
end

section
/-
  TraceAgain, walked: what is read prints as it was.
-/
set_option linter.unusedVariables false
set_option linter.unusedSimpArgs false
namespace Go.Proofs.YtphbepddhhdhmaaDoor.Hof
open Go.RowKit Go.Shelf Go.Proofs.YtphbepddhhdhmaaDoorW.PrintWords Go.Proofs.YtphbepddhhdhmaaDoorW.PrintLast Go.Proofs.YtphbepddhhdhmaaDoorW.PrintMore GA Hctx Hof

theorem below_drawn0 {w w' : World} (h : Drawn0 w w') : Below w.heap.size w w' := h.below
theorem textE_ge (xs : List S36) : xs.length ≤ (textE xs).length := by
  induction xs with
  | nil => simp
  | cons x xs ih => unfold textE at ih ⊢; rw [List.flatMap_cons, List.length_append]; simp only [List.length_append, List.length_cons, List.length_nil]; omega
theorem again_ok (s : ByteArray) (hs : s.size ≤ 268435456) :
    ((parseR s).2.1 = 0 → ∃ k, trace_Check.f k (parseR s).1 = some (0, 0) ∧ (∀ x ∈ (parseR s).1, EvOk x) ∧ (parseR s).1.length ≤ 268435456 ∧ (⟨(textE (parseR s).1).toArray⟩ : ByteArray) = s) ∧
    ((parseR s).2.1 ≠ 0 → (parseR s).1 = [] ∧ 0 < (parseR s).2.2) := by
  have e : parseR s = scan [] [] s.data.toList := by unfold parseR; rw [if_neg (by omega)]
  rw [e]
  generalize hsc : scan [] [] s.data.toList = res
  obtain ⟨xs, c, n⟩ := res
  refine ⟨fun hc => ?_, fun hc => scan_bad _ _ _ _ _ _ hsc hc⟩
  replace hc : c = 0 := hc
  subst hc
  obtain ⟨h1, h2, h3, h4⟩ := scan_back _ _ _ _ _ (fun x hx => by simp at hx) (show Rise [] from trivial) hsc
  have h5 : textE xs = s.data.toList := by rw [h1]; simp [textE]
  have hl := textE_ge xs
  have hz : s.data.toList.length = s.size := Array.length_toList
  rw [h5] at hl
  refine ⟨xs.length + 1, ?_, fun x hx => (h2 x hx).1, by show xs.length ≤ _; omega, ?_⟩
  · exact check_good xs (by omega) (fun x hx => (h2 x hx).2) h3 xs.length (xs.length + 1) 0 (by omega) (by omega)
  · show (⟨(textE xs).toArray⟩ : ByteArray) = s
    rw [h5]
set_option maxHeartbeats 4000000 in
set_option maxRecDepth 100000 in
theorem law11_calls (s : ByteArray) (w : World) (S0 : Std w) :
    Calls Tryd.prog 11 #[.string s] w fun e w' => e = .returned (.bool true) ∧ Below w.heap.size w w' := by
  have hu36 := Tryd.underlying36
  have S := Lib.hid S0
  clear S0
  by_cases bL : (s.size : Int) > 268435456
  · have d1 : decide ((s.size : Int) > 268435456) = true := decide_eq_true bL
    have HT := Lib.hid (show ((⟨#[]⟩ : ByteArray)).size ≤ 268435456 by first | omega | (show (0 : Nat) ≤ _; omega))
    have HR0 := Lib.hid (again_ok ((⟨#[]⟩ : ByteArray)) HT.out)
    have HP := Lib.hid (fun (W : World) (h : Std W) => parse_calls ((⟨#[]⟩ : ByteArray)) (Nat.le_trans HT.out (by decide)) W h)
    revert HR0 HP
    generalize parseR ((⟨#[]⟩ : ByteArray)) = res
    intro HR0 HP
    obtain ⟨xs, cc, nn⟩ := res
    go_enter Tryd.func11, Tryd.ntmps11
    go_wp2_with fail
    refine (HP.out _ S.out).mono ?_
    rintro e w1 ⟨v1, rfl, hR, hb⟩
    obtain ⟨A1, c1, rfl⟩ := Kd.R_slice hR
    have HB := Aside0.mk hb
    have HR1 := Aside0.mk (Kd.R_reads' hR)
    clear hR hb
    dsimp only at HR1 HB ⊢
    by_cases bE : cc = 0
    · have e0 : (cc != 0) = false := bne_eq_false_iff_eq.mpr bE
      obtain ⟨k, ck, hg, hlen, htx⟩ := HR0.out.1 bE
      have CK := Lib.hid ck
      have HG := Lib.hid hg
      have HTX := Lib.hid htx
      clear ck hg htx HR0 HP
      go_wp2_with fail
      refine (print_calls k A1 c1 xs 0 0 _ HR1.out.2.2 HR1.out.2.1 (by omega) (Nat.lt_of_le_of_lt (Nat.zero_le _) (S.out.below HB.out).size) (S.out.below HB.out).tab (S.out.below HB.out).names CK.out (fun _ => HG.out)).mono ?_
      rw [if_pos rfl, HTX.out]
      rintro e w2 ⟨rfl, hb⟩
      have HB2 := Aside0.mk (below_step HB.out hb)
      clear hb HB HR1
      go_wp2_with fail
      refine (rotalaw25_lives.calls true _ ((S.out.below HB2.out).names) Q.lives).mono ?_
      rintro e w3 ⟨rfl, hd⟩
      have HB3 := Aside0.mk (below_step HB2.out (below_drawn0 hd))
      clear hd HB2
      go_wp2_with fail
      go_ret
      exact ⟨by first | rfl | simp, HB3.out⟩
    · have e0 : (cc != 0) = true := bne_iff_ne.mpr bE
      obtain ⟨rfl, hn⟩ := HR0.out.2 bE
      have d1 : decide (nn > 0) = true := decide_eq_true hn
      clear HR0 HP
      go_wp2_with fail
      refine (rotalaw25_lives.calls true _ ((S.out.below HB.out).names) Q.lives).mono ?_
      rintro e w3 ⟨rfl, hd⟩
      have HB3 := Aside0.mk (below_step HB.out (below_drawn0 hd))
      clear hd HB
      go_wp2_with fail
      go_ret
      exact ⟨by first | rfl | simp, HB3.out⟩
  · have d1 : decide ((s.size : Int) > 268435456) = false := decide_eq_false bL
    have HT := Lib.hid (show (s).size ≤ 268435456 by first | omega | (show (0 : Nat) ≤ _; omega))
    have HR0 := Lib.hid (again_ok (s) HT.out)
    have HP := Lib.hid (fun (W : World) (h : Std W) => parse_calls (s) (Nat.le_trans HT.out (by decide)) W h)
    revert HR0 HP
    generalize parseR (s) = res
    intro HR0 HP
    obtain ⟨xs, cc, nn⟩ := res
    go_enter Tryd.func11, Tryd.ntmps11
    go_wp2_with fail
    refine (HP.out _ S.out).mono ?_
    rintro e w1 ⟨v1, rfl, hR, hb⟩
    obtain ⟨A1, c1, rfl⟩ := Kd.R_slice hR
    have HB := Aside0.mk hb
    have HR1 := Aside0.mk (Kd.R_reads' hR)
    clear hR hb
    dsimp only at HR1 HB ⊢
    by_cases bE : cc = 0
    · have e0 : (cc != 0) = false := bne_eq_false_iff_eq.mpr bE
      obtain ⟨k, ck, hg, hlen, htx⟩ := HR0.out.1 bE
      have CK := Lib.hid ck
      have HG := Lib.hid hg
      have HTX := Lib.hid htx
      clear ck hg htx HR0 HP
      go_wp2_with fail
      refine (print_calls k A1 c1 xs 0 0 _ HR1.out.2.2 HR1.out.2.1 (by omega) (Nat.lt_of_le_of_lt (Nat.zero_le _) (S.out.below HB.out).size) (S.out.below HB.out).tab (S.out.below HB.out).names CK.out (fun _ => HG.out)).mono ?_
      rw [if_pos rfl, HTX.out]
      rintro e w2 ⟨rfl, hb⟩
      have HB2 := Aside0.mk (below_step HB.out hb)
      clear hb HB HR1
      go_wp2_with fail
      refine (rotalaw25_lives.calls true _ ((S.out.below HB2.out).names) Q.lives).mono ?_
      rintro e w3 ⟨rfl, hd⟩
      have HB3 := Aside0.mk (below_step HB2.out (below_drawn0 hd))
      clear hd HB2
      go_wp2_with fail
      go_ret
      exact ⟨by first | rfl | simp, HB3.out⟩
    · have e0 : (cc != 0) = true := bne_iff_ne.mpr bE
      obtain ⟨rfl, hn⟩ := HR0.out.2 bE
      have d1 : decide (nn > 0) = true := decide_eq_true hn
      clear HR0 HP
      go_wp2_with fail
      refine (rotalaw25_lives.calls true _ ((S.out.below HB.out).names) Q.lives).mono ?_
      rintro e w3 ⟨rfl, hd⟩
      have HB3 := Aside0.mk (below_step HB.out (below_drawn0 hd))
      clear hd HB
      go_wp2_with fail
      go_ret
      exact ⟨by first | rfl | simp, HB3.out⟩
end Go.Proofs.YtphbepddhhdhmaaDoor.Hof
end

section
/-
  What the arguments' types open to: events and slices of them.
-/
namespace Go.Proofs.YtphbepddhhdhmaaDoor.Kinds
open Go.Proofs.YtphbepddhhdhmaaDoorW.PrintWords Go.Proofs.YtphbepddhhdhmaaDoor.Opn Go.Proofs.YtphbepddhhdhmaaDoor.GA
theorem o3 : Opens Tryd.prog 3 (Kd.int .i64) (GInt .i64) := opens_int Tryd.underlying3 (by kernel_rfl)
theorem o2 : Opens Tryd.prog 2 (Kd.int .i64) (GInt .i64) := opens_int Tryd.underlying2 (by kernel_rfl)
theorem o34 : Opens Tryd.prog 34 (Kd.int .u64) (GInt .u64) := opens_int Tryd.underlying34 (by kernel_rfl)
def G33 (x : S33) (n : Nat) : Prop := GPair (GInt .i64) (GInt .i64) (x.f0, x.f1) n
theorem o33 : Opens Tryd.prog 33 k33 G33 :=
  opens_struct (seq_cons o3 (seq_one o3)) Tryd.underlying33 (by kernel_rfl) (by kernel_rfl) (by kernel_rfl) _ (fun a => ⟨a.1, a.2⟩) (fun _ => rfl)
def G36 (x : S36) (n : Nat) : Prop := GPair (GInt .u64) (GPair (GInt .i64) (GPair G33 (GPair (GInt .i64) (GPair (GInt .i64) (GPair (GInt .i64) (GInt .i64)))))) (x.f0, x.f1, x.f2, x.f3, x.f4, x.f5, x.f6) n
theorem o36 : Opens Tryd.prog 36 k36 G36 :=
  opens_struct (seq_cons o34 (seq_cons o3 (seq_cons o33 (seq_cons o3 (seq_cons o2 (seq_cons o2 (seq_one o2))))))) Tryd.underlying36 (by kernel_rfl) (by kernel_rfl) (by kernel_rfl) _ (fun a => ⟨a.1, a.2.1, a.2.2.1, a.2.2.2.1, a.2.2.2.2.1, a.2.2.2.2.2.1, a.2.2.2.2.2.2⟩) (fun _ => rfl)
theorem o22 : Opens Tryd.prog 22 (Kd.slice 36 k36) (GSl 64 G36) := opens_slice o36 Tryd.underlying22 (by kernel_rfl) (B := 64) (by kernel_rfl)
end Go.Proofs.YtphbepddhhdhmaaDoor.Kinds
end

section
/-
  The listed table of powers of ten.
-/
set_option linter.unusedVariables false
namespace Go.Proofs.YtphbepddhhdhmaaDoor.Laid
open Go.RowKit Go.Proofs.YtphbepddhhdhmaaDoorW.PrintWords
theorem tab_of {w : World} {laid : List (String × DataW Unit)} (h : laidMet Tryd.prog laid w) (hm : ("internal/strconv.uint64pow10", Rows.laid_internal_strconv_uint64pow10) ∈ laid) : Hof.TabB w.heap.size w := by
  obtain ⟨ps, hps, _⟩ := h
  obtain ⟨g, t, cs, fuel, p, hg, ht, hvar, hd⟩ := laidVars_mem hps hm
  have e : (Rows.laid_internal_strconv_uint64pow10 : DataW Unit) = Lib.tabData .u64 Lib.pow10Tab := by kernel_rfl
  rw [e] at hd
  obtain rfl := Option.some.inj (hg.symm.trans (show Tryd.prog.globalNamed "internal/strconv.uint64pow10" = some 2 by kernel_rfl))
  obtain rfl := Option.some.inj (ht.symm.trans (show (Tryd.prog.globals[2]?).map (·.type) = some 106 by kernel_rfl))
  have hc := Lib.cells_of_tab (show Tryd.prog.underlying 106 = some (.array 20 34) by kernel_rfl) (show Tryd.prog.underlying 34 = some (.int .u64) by kernel_rfl) (by kernel_rfl) (by kernel_rfl) hd
  refine Lib.tabBelow_of_tabIs ?_
  unfold Lib.TabIs
  rw [hvar, ← hc]
end Go.Proofs.YtphbepddhhdhmaaDoor.Laid
end

section
/-
  The listed variables that the readers meet: what their cells hold.
-/
set_option linter.unusedVariables false
namespace Go.Proofs.YtphbepddhhdhmaaDoor.Laid
open Go.RowKit Go.Proofs.YtphbepddhhdhmaaDoorW.PrintWords
/-- What all three rows list. -/
def eight : List (String × DataW Unit) := [("math/bits.deBruijn32tab", Rows.laid_math_bits_deBruijn32tab), ("math/bits.deBruijn64tab", Rows.laid_math_bits_deBruijn64tab), ("internal/strconv.uint64pow10", Rows.laid_internal_strconv_uint64pow10), ("unicode/utf8.acceptRanges", Rows.laid_unicode_utf8_acceptRanges), ("strconv.ErrRange", Rows.laid_strconv_ErrRange), ("strconv.ErrSyntax", Rows.laid_strconv_ErrSyntax), ("rota/trace.names", Rows.laid_rota_trace_names), ("unicode/utf8.first", Rows.laid_unicode_utf8_first)]
theorem star : "*" ++ "errors.errorString" = "*errors.errorString" := by decide
theorem row122 (u : TypeId) (h : Tryd.prog.typeName? 3 u = some "*errors.errorString") : u = 122 :=
  typeName_ptr_named (nm := "errors.errorString") (by rw [star]; kernel_rfl) (by kernel_rfl) (by decide) u (by rw [star]; exact h)
theorem err_at {W : World} {n : String} {text : List UInt8} {r : List (String × DataW Unit)} {g : Nat} (h : laidMet Tryd.prog ((n, .iface "*errors.errorString" (.ptr (.agg [.lit (.string text)]))) :: r) W) (hg : Tryd.prog.globalNamed n = some g) (ht : (Tryd.prog.globals[g]?).map (·.type) = some 73) :
    ∃ te pe, W.cell? ⟨g, 0, none⟩ = some (.iface te pe) := by
  have hi : Tryd.prog.underlying 73 = some (.interface #[("Error", 132)]) := by kernel_rfl
  obtain ⟨a, s, hv, _, _, _⟩ := laid_sentinel h hg ht (ti := 73) (tp := 122) (te := 124) (ts := 9) hi row122 (by kernel_rfl) (show Tryd.prog.underlying 124 = some (.struct #[{ name := "s", type := 9, offset := 0, embedded := false, tag := "", pkgPath := "errors", byteOffset := 0 }]) by kernel_rfl) rfl rfl Tryd.underlying9 (by kernel_rfl) (by kernel_rfl)
  exact ⟨_, _, (World.var?_cell hg hv 0).trans rfl⟩
theorem std_of {W : World} (h : laidMet Tryd.prog eight W) (hS : W.ShapedOpen Tryd.prog) : Hof.Std W := by
  have hr := laidMet.tail (laidMet.tail (laidMet.tail (laidMet.tail h)))
  have hs := laidMet.tail hr
  obtain ⟨m, hm⟩ := cell_of_shapedOpen_int (P := Tryd.prog) (g := 1) (t := 3) (zero := #[.int .i64 0]) hS (of_decide_eq_true (by kernel_rfl)) (by kernel_rfl) rfl (by kernel_rfl) (by kernel_rfl) Tryd.underlying3
  obtain ⟨g, t, cs, fuel, p, hg, ht, hvar, hd⟩ : ∃ g t cs fuel p, Tryd.prog.globalNamed "unicode/utf8.acceptRanges" = some g ∧ (Tryd.prog.globals[g]?).map (·.type) = some t ∧ W.var? Tryd.prog "unicode/utf8.acceptRanges" = some cs ∧ DataW.trod (fun _ => ()) Tryd.prog W 0 (fun _ => true) false fuel t cs.toList = some (Rows.laid_unicode_utf8_acceptRanges, p) := by
    obtain ⟨ps, hps, _⟩ := h
    exact laidVars_mem hps (by simp [eight])
  have hsize : 8 < W.heap.size := by
    obtain rfl := Option.some.inj (hg.symm.trans (show Tryd.prog.globalNamed "unicode/utf8.acceptRanges" = some 8 by kernel_rfl))
    unfold World.var? at hvar
    rw [hg] at hvar
    rcases Nat.lt_or_ge 8 W.heap.size with h' | h'
    · exact h'
    · simp [Array.getElem?_eq_none h'] at hvar
  refine ⟨hsize, ⟨m, hm⟩, err_at hs (by kernel_rfl) (by kernel_rfl), err_at hr (by kernel_rfl) (by kernel_rfl), tab_of h (by simp [eight]), names_of h (by simp [eight])⟩
end Go.Proofs.YtphbepddhhdhmaaDoor.Laid
end

section
/-
  What Parse tells of a text prints as that text.
-/
set_option linter.unusedVariables false
set_option linter.unusedSimpArgs false
namespace Go.Proofs.YtphbepddhhdhmaaDoor.traceAgain
open Go.ChangeShapes Go.WideShapes Go.ChangeAt Go.RowKit Go.Proofs.YtphbepddhhdhmaaDoorW.PrintWords Go.Proofs.YtphbepddhhdhmaaDoor.Opn
open Go.ChangeMaps (open_string shut_string)
theorem own : ownKnob Tryd.prog.godebug = none := by kernel_rfl
theorem laidOut : laidOutB Tryd.prog = true := by kernel_rfl
set_option maxRecDepth 100000 in
theorem contract (H : Type) (enc : TypeId × Value → H) (W : World) (base : Nat) (args : Array Value) (ds gs : List (DataW H)) (before : List MemPlace)
    (hval0 : ∀ (j : Nat) t v, Tryd.f11.params[j]? = some t → args[j]? = some v → Value.okWide Tryd.prog W .any base t v)
    (hW : DataW.Whole enc Tryd.prog Tryd.f11.params.toList Rows.traceAgainSpec.vars false W args.toList ds gs before)
    (hsz0 : (DataW.weightsEach Tryd.prog (Tryd.f11.params.toList ++ (OpenSpec.ofChange Rows.traceAgainSpec).bare.plain.varTypes Tryd.prog) (ds ++ gs)).all (· ≤ reachBytes) = true)
    (hSh : W.ShapedOpen Tryd.prog)
    (hL : laidMetH Tryd.prog Rows.traceAgainRow.laid W) :
    Calls Tryd.prog 11 args W fun e W' => ∃ v, e = .returned v ∧ Rows.traceAgainSpec.post enc Tryd.prog Tryd.f11 false true false false W args v W' := by
  have hsz : (DataW.weightsEach Tryd.prog (Tryd.f11.params.toList ++ Rows.traceAgainSpec.plain.varTypes Tryd.prog) (ds ++ gs)).all (· ≤ reachBytes) = true := hsz0
  have hval : ∀ (j : Nat) t v, Tryd.f11.params[j]? = some t → args[j]? = some v → Value.okWide Tryd.prog W .any base t v := hval0
  have hStd : Hof.Std W := Laid.std_of (show laidMet Tryd.prog Laid.eight W from hL) hSh
  have hW' := hW
  obtain ⟨p, q, hA0, hV, rfl, hfz, hnd⟩ := hW
  have hA : DataW.TrodAll enc Tryd.prog W 0 (fun _ => true) true Tryd.f11.params.toList args.toList ds p := hA0
  rw [Tryd.params11] at hA hval hsz
  obtain ⟨v0, vs0, d0, ds0, p0, q0, hargs, rfl, rfl, h0, r0⟩ := trodAll_cons hA
  obtain ⟨rfl, rfl, rfl⟩ := trodAll_nil r0
  obtain rfl : args = #[v0] := by cases args; simp_all
  obtain ⟨rfl, rfl⟩ := trodVars_none hV
  have k0 := h0
  have lt0 : ∀ x ∈ p0, x.block < W.heap.size := by obtain ⟨m, hm⟩ := k0; exact DataW.trod_lt m _ _ _ hm
  have ws0 : ∀ n ∈ d0.weights Tryd.prog 9, n ≤ reachBytes := fun n hn => by simpa using List.all_eq_true.1 hsz n (DataW.weights_mem_each (j := 0) rfl rfl n hn)
  obtain ⟨a0, rfl, rfl, rfl, y0⟩ := open_string Tryd.underlying9 (hval 0 9 v0 rfl rfl) h0
  have w0 : a0.size ≤ 140737488351232 := by
    have z := ws0 a0.data.toList.length (by simp [DataW.weights])
    simpa [reachBytes] using z
  clear hA0 hval hsz
  refine (Hof.law11_calls a0 W hStd).mono fun e W' ⟨he, bel⟩ => ?_
  subst he
  exact ⟨_, rfl, _, _, _, [], _, [], hW', trodAll_mk1 (shut_bool Tryd.underlying4 _), (trodAll_cons_mk (Below.trod laidOut (by kernel_rfl) (of_decide_eq_true (by kernel_rfl)) k0 bel lt0) trodAll_mk0), rfl, bel.frame _, fun h => by cases h⟩
def lay (cs : Array Value) : Obj → Obj
  | .cells _ t frozen => .cells cs t frozen
  | o => o
noncomputable def laidWorld (os : Os) : World := { World.holding Tryd.prog os ⟨#[], #[], []⟩ with heap := (((((((((((World.holding Tryd.prog os ⟨#[], #[], []⟩).heap.modify 0 (lay (Laid.names.map Value.string).toArray)).modify 2 (lay #[.int .u64 1, .int .u64 10, .int .u64 100, .int .u64 1000, .int .u64 10000, .int .u64 100000, .int .u64 1000000, .int .u64 10000000, .int .u64 100000000, .int .u64 1000000000, .int .u64 10000000000, .int .u64 100000000000, .int .u64 1000000000000, .int .u64 10000000000000, .int .u64 100000000000000, .int .u64 1000000000000000, .int .u64 10000000000000000, .int .u64 100000000000000000, .int .u64 1000000000000000000, .int .u64 10000000000000000000])).modify 5 (lay #[.int .u8 0, .int .u8 1, .int .u8 28, .int .u8 2, .int .u8 29, .int .u8 14, .int .u8 24, .int .u8 3, .int .u8 30, .int .u8 22, .int .u8 20, .int .u8 15, .int .u8 25, .int .u8 17, .int .u8 4, .int .u8 8, .int .u8 31, .int .u8 27, .int .u8 13, .int .u8 23, .int .u8 21, .int .u8 19, .int .u8 16, .int .u8 7, .int .u8 26, .int .u8 12, .int .u8 18, .int .u8 6, .int .u8 11, .int .u8 5, .int .u8 10, .int .u8 9])).modify 6 (lay #[.int .u8 0, .int .u8 1, .int .u8 56, .int .u8 2, .int .u8 57, .int .u8 49, .int .u8 28, .int .u8 3, .int .u8 61, .int .u8 58, .int .u8 42, .int .u8 50, .int .u8 38, .int .u8 29, .int .u8 17, .int .u8 4, .int .u8 62, .int .u8 47, .int .u8 59, .int .u8 36, .int .u8 45, .int .u8 43, .int .u8 51, .int .u8 22, .int .u8 53, .int .u8 39, .int .u8 33, .int .u8 30, .int .u8 24, .int .u8 18, .int .u8 12, .int .u8 5, .int .u8 63, .int .u8 55, .int .u8 48, .int .u8 27, .int .u8 60, .int .u8 41, .int .u8 37, .int .u8 16, .int .u8 46, .int .u8 35, .int .u8 44, .int .u8 21, .int .u8 52, .int .u8 32, .int .u8 23, .int .u8 11, .int .u8 54, .int .u8 26, .int .u8 40, .int .u8 15, .int .u8 34, .int .u8 20, .int .u8 31, .int .u8 10, .int .u8 25, .int .u8 14, .int .u8 19, .int .u8 9, .int .u8 13, .int .u8 8, .int .u8 7, .int .u8 6])).modify 3 (lay #[.iface 122 (.pointer (some ⟨(World.holding Tryd.prog os ⟨#[], #[], []⟩).heap.size, 0, none⟩))])).modify 4 (lay #[.iface 122 (.pointer (some ⟨(World.holding Tryd.prog os ⟨#[], #[], []⟩).heap.size + 1, 0, none⟩))])).modify 7 (lay (Go.Pinned.utf8FirstZ.map fun (n : Nat) => Value.int .u8 (n : Int)).toArray)).modify 8 (lay #[.int .u8 128, .int .u8 191, .int .u8 160, .int .u8 191, .int .u8 128, .int .u8 159, .int .u8 144, .int .u8 191, .int .u8 128, .int .u8 143, .int .u8 0, .int .u8 0, .int .u8 0, .int .u8 0, .int .u8 0, .int .u8 0, .int .u8 0, .int .u8 0, .int .u8 0, .int .u8 0, .int .u8 0, .int .u8 0, .int .u8 0, .int .u8 0, .int .u8 0, .int .u8 0, .int .u8 0, .int .u8 0, .int .u8 0, .int .u8 0, .int .u8 0, .int .u8 0])).push (.cells #[.string ⟨#[105, 110, 118, 97, 108, 105, 100, 32, 115, 121, 110, 116, 97, 120]⟩] 124)).push (.cells #[.string ⟨#[118, 97, 108, 117, 101, 32, 111, 117, 116, 32, 111, 102, 32, 114, 97, 110, 103, 101]⟩] 124)) }
theorem laid_met (os : Os) : laidMet Tryd.prog Rows.traceAgainRow.laid ((laidWorld os).forCall (fun _ _ => 0) ⟨#[], #[.string ByteArray.empty], []⟩).memory := laidMet_of_run3 8 (by kernel_rfl) (by kernel_rfl) (by kernel_rfl)
theorem reads (os : Os) {H : Type} (enc : TypeId × Value → H) : ∃ places, DataW.whole enc Tryd.prog ((laidWorld os).forCall (fun _ _ => 0) ⟨#[], #[.string ByteArray.empty], []⟩).memory Tryd.f11.params.toList Rows.traceAgainSpec.vars false (#[.string ByteArray.empty] : Array Value).toList 8 = some ([.lit (.string [])], [], places) := ⟨[], by kernel_rfl⟩
set_option maxRecDepth 100000 in
theorem lifted (os : Os) (started : os.Started) (H : Type) (enc : TypeId × Value → H) (F : Stop.Interp) :
    ReturnsInHanded {} Tryd.checked os 11 .any ((OpenSpec.ofChange Rows.traceAgainSpec).preRow enc Tryd.prog Tryd.f11 Rows.traceAgainRow.domain false Rows.traceAgainRow.laid) (((OpenSpec.ofChange Rows.traceAgainSpec).at F).post enc Tryd.prog Tryd.f11 false true false false) := by
  obtain ⟨places, hx⟩ := reads os enc
  refine returnsInHanded_of_row (C := Tryd.checked) (s := (OpenSpec.ofChange Rows.traceAgainSpec)) own started (by kernel_rfl) Tryd.func11
    (witness_row_at (enc := enc) (C := Tryd.checked) false (laidWorld os) #[.string ByteArray.empty] rfl (by kernel_rfl) (by kernel_rfl) (by kernel_rfl)
      (OpenSpec.preRow_of_cond 8 hx (by kernel_rfl) (fun k hk => by cases hk) (by kernel_rfl) (laid_met os))) ?_
  intro W base args ds gs before hval hW _ _ hsz hL hSh _
  exact contract H enc W base args ds gs before hval hW hsz hSh hL
theorem said : Rows.TraceAgainSaid :=
  OpenClaim.holds_of_cond 11 Tryd.f11 rfl rfl rfl rfl rfl rfl rfl ⟨rfl, rfl, rfl, rfl, rfl⟩ rfl rfl rfl rfl rfl (by kernel_rfl) Tryd.func11 (by kernel_rfl)
    (of_decide_eq_true (by kernel_rfl)) (by unfold Func.isWrapper; first | (rw [if_pos (by decide +kernel)]; kernel_rfl) | (rw [if_neg (by decide +kernel)]; exact ⟨rfl, rfl⟩))
    (fun os started H enc _ F => by rw [OpenClaim.pre_eq_preRow]; exact lifted os started H enc F)
theorem plain (f : FuncId) (fn : Func) (hf : Tryd.pinned.checked.prog.funcNamed Rows.traceAgainRow.func = some f) (hfn : Tryd.pinned.checked.prog.funcs[f]? = some fn) :
    true = Tryd.pinned.checked.prog.looks [] ∧ ∀ (j : Nat) t, fn.params[j]? = some t → Tryd.pinned.checked.prog.wantsStandIn t = false := by
  obtain rfl : f = 11 := Option.some.inj ((show Tryd.prog.funcNamed Rows.traceAgainRow.func = some 11 by kernel_rfl).symm.trans hf) |>.symm
  obtain rfl : fn = Tryd.f11 := (Option.some.inj (Tryd.func11.symm.trans hfn)).symm
  refine ⟨by kernel_rfl, fun j t ht => ?_⟩
  rw [Tryd.params11] at ht
  have hm := Array.mem_of_getElem? ht
  simp at hm
  rcases hm with rfl
  · exact (show Tryd.prog.wantsStandIn 9 = false by kernel_rfl)
theorem card : Rows.TraceAgainCardSaid :=
  Claim7.holds_tied_plain_at .later [] _ _ _ _ said (fun _ h => by cases h) (by kernel_rfl) (fun _ h => by cases h) traceAgain_row_tie rfl ⟨rfl, rfl⟩ (by kernel_rfl) rfl plain (by kernel_rfl)
end Go.Proofs.YtphbepddhhdhmaaDoor.traceAgain
namespace Go.Proofs.YtphbepddhhdhmaaDoor
theorem traceAgain_holds : Rows.TraceAgainCardSaid := traceAgain.card
end Go.Proofs.YtphbepddhhdhmaaDoor
end
