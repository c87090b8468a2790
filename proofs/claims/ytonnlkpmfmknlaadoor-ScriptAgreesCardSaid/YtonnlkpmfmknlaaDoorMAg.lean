import Derived.Test.YtonnlkpmfmknlaaDoorMC
import Derived.Test.YtonnlkpmfmknlaaDoorMAg2
import Derived.Test.YtonnlkpmfmknlaaDoorCards
import Derived.Test.YtonnlkpmfmknlaaDoorTie
import Derived.Test.YtonnlkpmfmknlaaDoorMB
import Derived.WalkKit
import Derived.ProofKit
import Derived.OpenShut
import Derived.ShutString
import Derived.ChangeOld
import Derived.Below
import Derived.SizedLaws
import Derived.Lib.SmallJoins
import Derived.Deep.DeepHandedRow
import Derived.Lib.LaidTab
import Derived.Deep.DeepLaidRun
section
/-
  ScriptAgrees in plain Lean.
-/
set_option linter.unusedVariables false
set_option linter.unusedSimpArgs false
namespace Go.Proofs.YtonnlkpmfmknlaaDoor.Q
open Go.RowKit Go.Proofs.YtonnlkpmfmknlaaDoorW.PrintWords Go.Proofs.YtonnlkpmfmknlaaDoorW.PrintLast Go.Proofs.YtonnlkpmfmknlaaDoorW.PrintMore Go.Proofs.YtonnlkpmfmknlaaDoor.GA
theorem other_is (v w : List S32) (p : Int) : (!Hof.otherAt v w p) = decide ((Hof.oneAt v p).f0 = (Hof.oneAt w p).f0 ∧ (Hof.oneAt v p).f1 = (Hof.oneAt w p).f1) := by
  unfold Hof.otherAt
  by_cases h0 : (Hof.oneAt v p).f0 = (Hof.oneAt w p).f0
  · by_cases h1 : (Hof.oneAt v p).f1 = (Hof.oneAt w p).f1
    · simp [h0, h1]
    · simp [h0, h1]
  · simp [h0]
theorem one_in (x : List S32) (i : Nat) (h : i < x.length) : Hof.oneAt x (i : Int) = rd_T32 x (i : Int) := by
  unfold Hof.oneAt; rw [if_neg (by omega)]
theorem one_out (x : List S32) (i : Nat) (h : x.length ≤ i) : Hof.oneAt x (i : Int) = ⟨[], []⟩ := by
  unfold Hof.oneAt; rw [if_pos (by omega)]; rfl
theorem agrees_l (a b : List S32) (of : List Int) (v w : List S32) (N : Nat) (h1 : v.length ≤ N) (h2 : w.length ≤ N) (h3 : N ≤ v.length ∨ N ≤ w.length) (hN : N ≤ 9223372036854775807) (sv : Small v) (sw : Small w)
    (t0 : ∀ k, 90000000000000 ≤ k → rotalaw19_twin.f k a = some a) (t1 : ∀ k, 90000000000000 ≤ k → rotalaw19_twin.f k b = some b) (t2 : ∀ k, 90000000000000 ≤ k → rotalaw19_ints.f k of = some of) :
    ∀ (d i : Nat) (x : Bool), i + d = N → ∀ k, 90000000000000 + 2 * d + 2 ≤ k → rotalaw19_ScriptAgrees.l0 k a b of v w x (i : Int) = some ((!(of.any (Hof.otherAt a b))) == (x && (List.range' i d).all (fun (j : Nat) => !Hof.otherAt v w (j : Int))))
  | 0, i, x, hi, k, hk => by
    obtain ⟨k, rfl⟩ : ∃ j, k = j + 1 + 1 := ⟨k - 2, by omega⟩
    rw [rotalaw19_ScriptAgrees.l0, if_neg (by omega), rotalaw19_ScriptAgrees.j2, decide_eq_false (by omega), if_neg (by simp)]
    simp only [t0 k (by omega), t1 k (by omega), t2 k (by omega), Option.bind_some, script_Agree.f, List.range'_zero, List.all_nil, Bool.and_true]
  | d + 1, i, x, hi, k, hk => by
    obtain ⟨k, rfl⟩ : ∃ j, k = j + 1 + 1 := ⟨k - 2, by omega⟩
    have IH : ∀ y, rotalaw19_ScriptAgrees.l0 k a b of v w y (wrap64 ((i : Int) + 1)) = some ((!(of.any (Hof.otherAt a b))) == (y && (List.range' (i + 1) d).all (fun (j : Nat) => !Hof.otherAt v w (j : Int)))) := fun y => by
      rw [wrap_succ i N (by omega) hN]
      exact agrees_l a b of v w N h1 h2 h3 hN sv sw t0 t1 t2 d (i + 1) y (by omega) k (by omega)
    have zv := sv (i : Int)
    have zw := sw (i : Int)
    have AL : ∀ p q r s : List Int, p.length < 35184372088832 → q.length < 17592186044416 → rotaref19_Alike.f k p q r s = some (decide (p = r ∧ q = s)) := fun p q r s hp hq => alikeF p q r s (by omega) (by omega) k (by omega)
    have key : ((x && (List.range' i (d + 1)).all (fun (j : Nat) => !Hof.otherAt v w (j : Int))) : Bool) = ((x && decide ((Hof.oneAt v (i : Int)).f0 = (Hof.oneAt w (i : Int)).f0 ∧ (Hof.oneAt v (i : Int)).f1 = (Hof.oneAt w (i : Int)).f1)) && (List.range' (i + 1) d).all (fun (j : Nat) => !Hof.otherAt v w (j : Int))) := by
      rw [List.range'_succ, List.all_cons, other_is, Bool.and_assoc]
    rw [key]
    have hg : (if (i : Int) < (v.length : Int) then (rotalaw19_ScriptAgrees.j2 (k + 1) a b of v w x (i : Int) true) else (rotalaw19_ScriptAgrees.j2 (k + 1) a b of v w x (i : Int) (decide ((i : Int) < (w.length : Int))))) = rotalaw19_ScriptAgrees.j2 (k + 1) a b of v w x (i : Int) true := by
      by_cases hv : (i : Int) < (v.length : Int)
      · rw [if_pos hv]
      · rw [if_neg hv, decide_eq_true (by omega)]
    rw [rotalaw19_ScriptAgrees.l0, hg, rotalaw19_ScriptAgrees.j2, if_pos rfl]
    by_cases hv : i < v.length
    · rw [if_pos (by omega), if_pos (by omega), one_in v i hv]
      by_cases hw : i < w.length
      · rw [if_pos (by omega), one_in w i hw]
        cases x
        · rw [if_neg (by simp), IH]; simp
        · rw [if_pos rfl, AL _ _ _ _ zv.1 zv.2, Option.bind_some, IH]; simp
      · rw [if_neg (by omega), one_out w i (by omega)]
        cases x
        · rw [if_neg (by simp), IH]; simp
        · rw [if_pos rfl, AL _ _ _ _ zv.1 zv.2, Option.bind_some, IH]; simp
    · have hw : i < w.length := by omega
      rw [if_neg (by omega), if_pos (by omega), if_pos (by omega), one_out v i (by omega), one_in w i hw]
      cases x
      · rw [if_neg (by simp), IH]; simp
      · rw [if_pos rfl, AL _ _ _ _ (by simp) (by simp), Option.bind_some, IH]; simp
theorem rd_view (xs : List S32) (of : List Int) (i : Nat) (h : i < xs.length) : rd_T32 (viewTo xs of xs.length) (i : Int) = if (i : Int) ∈ of then rd_T32 xs (i : Int) else ⟨[], []⟩ := by
  rw [rdT_at _ i (by rw [viewTo_len]; exact h)]
  unfold viewTo
  rw [List.getElem_map, List.getElem_range]
theorem one_view (xs : List S32) (of : List Int) (p : Int) (hp : p ∈ of) : Hof.oneAt (viewTo xs of xs.length) p = Hof.oneAt xs p := by
  by_cases h : p < 0 ∨ p ≥ (xs.length : Int)
  · unfold Hof.oneAt
    rw [if_pos (by rw [viewTo_len]; exact h), if_pos h]
  · obtain ⟨i, rfl⟩ : ∃ i : Nat, p = i := ⟨p.toNat, by omega⟩
    rw [one_in _ i (by rw [viewTo_len]; omega), one_in _ i (by omega), rd_view xs of i (by omega), if_pos hp]
theorem one_view_not (xs : List S32) (of : List Int) (p : Nat) (hp : (p : Int) ∉ of) : Hof.oneAt (viewTo xs of xs.length) (p : Int) = ⟨[], []⟩ := by
  by_cases h : p < xs.length
  · rw [one_in _ p (by rw [viewTo_len]; omega), rd_view xs of p h, if_neg hp]
  · rw [one_out _ p (by rw [viewTo_len]; omega)]
theorem view_self (xs : List S32) (of : List Int) : viewTo (viewTo xs of xs.length) of xs.length = viewTo xs of xs.length := by
  have e : ∀ n, n ≤ xs.length → viewTo (viewTo xs of xs.length) of n = viewTo xs of n := by
    intro n
    induction n with
    | zero => intro _; rfl
    | succ n ih =>
      intro h
      rw [viewTo_succ, viewTo_succ, ih (by omega), rd_view xs of n (by omega)]
      by_cases hp : (n : Int) ∈ of
      · simp only [if_pos hp]
      · simp only [if_neg hp]
  exact e _ (Nat.le_refl _)
theorem other_self (xs : List S32) (of : List Int) : of.any (Hof.otherAt xs (viewTo xs of xs.length)) = false := by
  rw [List.any_eq_false]
  intro p hp
  have h := other_is xs (viewTo xs of xs.length) p
  rw [one_view xs of p hp, decide_eq_true ⟨rfl, rfl⟩] at h
  simpa using h
theorem both_views (a b : List S32) (of : List Int) (N : Nat) (h1 : a.length ≤ N) (h2 : b.length ≤ N) : (!(of.any (Hof.otherAt a b))) = (List.range' 0 N).all (fun (j : Nat) => !Hof.otherAt (viewTo a of a.length) (viewTo b of b.length) (j : Int)) := by
  rw [Bool.eq_iff_iff]
  constructor
  · intro h
    rw [Bool.not_eq_true', List.any_eq_false] at h
    rw [List.all_eq_true]
    intro j hj
    by_cases hp : (j : Int) ∈ of
    · have := h _ hp
      rw [other_is, one_view a of _ hp, one_view b of _ hp, ← other_is]
      simpa using this
    · rw [other_is, one_view_not a of j hp, one_view_not b of j hp]
      simp
  · intro h
    rw [List.all_eq_true] at h
    rw [Bool.not_eq_true', List.any_eq_false]
    intro p hp
    by_cases hn : p < 0 ∨ p ≥ (N : Int)
    · have e0 : Hof.oneAt a p = z32 := by unfold Hof.oneAt; rw [if_pos (by omega)]
      have e1 : Hof.oneAt b p = z32 := by unfold Hof.oneAt; rw [if_pos (by omega)]
      have h := other_is a b p
      rw [e0, e1, decide_eq_true ⟨rfl, rfl⟩] at h
      simpa using h
    · obtain ⟨i, rfl⟩ : ∃ i : Nat, p = i := ⟨p.toNat, by omega⟩
      have := h i (by rw [List.mem_range']; exact ⟨i, by omega, by omega⟩)
      rw [other_is, one_view a of _ hp, one_view b of _ hp, ← other_is] at this
      simpa using this
theorem agrees (l0 l1 : List S32) (l2 : List Int) (h0 : l0.length < 2932031007402) (h1 : l1.length < 2932031007402) (h2 : l2.length < 17592186044416) (s0 : Small l0) (s1 : Small l1) : ∃ k, rotalaw19_ScriptAgrees.f k l0 l1 l2 = some true := by
  refine ⟨100000000000000, ?_⟩
  have vs : ∀ (xs : List S32), Small xs → Small (viewTo xs l2 xs.length) := fun xs hs => fun i => view_of l2 _ (P := fun x => x.f0.length < 35184372088832 ∧ x.f1.length < 17592186044416) ⟨by decide, by decide⟩ hs i
  have bb : ∀ (xs : List S32), Small xs → ∀ i, (rd_T32 xs i).f0.length + (rd_T32 xs i).f1.length + 3 ≤ 52776558133260 := fun xs hs i => by have := hs i; omega
  have tw : ∀ (xs : List S32), xs.length < 2932031007402 → Small xs → ∀ k, 90000000000000 ≤ k → rotalaw19_twin.f k xs = some xs := fun xs hx hs k hk => twin_l xs hx hs 52776558133260 (fun i => by have := bb xs hs i; omega) xs.length 0 (by omega) k (by omega)
  have t2 : ∀ k, 90000000000000 ≤ k → rotalaw19_ints.f k l2 = some l2 := fun k hk => ints_l l2 h2 l2.length 0 (by omega) k (by omega)
  have vw : ∀ (xs : List S32), xs.length < 2932031007402 → Small xs → ∀ k, 90000000000000 ≤ k → script_View.f k xs l2 = some (viewTo xs l2 xs.length) := fun xs hx hs k hk => pview xs l2 hx hs (by omega) xs.length 0 (by omega) k (by omega)
  have sm : ∀ k, 90000000000000 ≤ k → rotaref19_Same.f k (viewTo l0 l2 l0.length) (viewTo l0 l2 l0.length) = some true := fun k hk => by
    unfold rotaref19_Same.f
    rw [if_pos rfl]
    exact same_l _ (by rw [viewTo_len]; omega) (vs l0 s0) 52776558133260 (bb _ (vs l0 s0)) _ 0 (Nat.zero_add _) k (by rw [viewTo_len]; omega)
  have hv := vs l0 s0
  have hw := vs l1 s1
  have e0 : (viewTo l0 l2 l0.length).length = l0.length := viewTo_len _ _ _
  have e1 : (viewTo l1 l2 l1.length).length = l1.length := viewTo_len _ _ _
  have vv : ∀ k, 90000000000000 ≤ k → script_View.f k (viewTo l0 l2 l0.length) l2 = some (viewTo l0 l2 l0.length) := fun k hk => by
    have := vw (viewTo l0 l2 l0.length) (by omega) hv k hk
    rw [e0, view_self] at this
    exact this
  generalize hK : 100000000000000 = K
  have hK1 : 100000000000000 ≤ K := by omega
  clear hK
  obtain ⟨k, rfl⟩ : ∃ j, K = j + 1 := ⟨K - 1, by omega⟩
  have fin := agrees_l l0 l1 l2 (viewTo l0 l2 l0.length) (viewTo l1 l2 l1.length) (max l0.length l1.length) (by omega) (by omega) (by omega) (by omega) hv hw (tw l0 h0 s0) (tw l1 h1 s1) t2 (max l0.length l1.length) 0 true (by omega) k (by omega)
  rw [← both_views l0 l1 l2 _ (by omega) (by omega), Bool.true_and, beq_self_eq_true] at fin
  unfold rotalaw19_ScriptAgrees.f
  simp only [rotalaw19_lives.f, Option.bind_some, if_true, tw l0 h0 s0 (k + 1) (by omega), tw l1 h1 s1 (k + 1) (by omega), t2 (k + 1) (by omega), vw l0 h0 s0 (k + 1) (by omega), vw l1 h1 s1 (k + 1) (by omega), script_Agree.f, other_self, Bool.not_false,
    tw (viewTo l0 l2 l0.length) (by omega) hv (k + 1) (by omega), vv (k + 1) (by omega), sm (k + 1) (by omega)]
  rw [rotalaw19_ScriptAgrees.j0]
  simp only [Bool.not_true, Bool.false_eq_true, if_false]
  exact fin
end Go.Proofs.YtonnlkpmfmknlaaDoor.Q
end

section
/-
  Everybody agrees with its own view, and two agree just if their views are the same.
-/
set_option linter.unusedVariables false
set_option linter.unusedSimpArgs false
namespace Go.Proofs.YtonnlkpmfmknlaaDoor.scriptAgrees
open Go.ChangeShapes Go.WideShapes Go.ChangeAt Go.RowKit Go.Proofs.YtonnlkpmfmknlaaDoorW.PrintWords Go.Proofs.YtonnlkpmfmknlaaDoor.Opn
open Go.ChangeMaps (open_string shut_string)
theorem own : ownKnob Tryd.prog.godebug = none := by kernel_rfl
theorem laidOut : laidOutB Tryd.prog = true := by kernel_rfl
set_option maxRecDepth 100000 in
theorem contract (H : Type) (enc : TypeId × Value → H) (W : World) (base : Nat) (args : Array Value) (ds gs : List (DataW H)) (before : List MemPlace)
    (hval0 : ∀ (j : Nat) t v, Tryd.f9.params[j]? = some t → args[j]? = some v → Value.okWide Tryd.prog W .any base t v)
    (hW : DataW.Whole enc Tryd.prog Tryd.f9.params.toList Rows.scriptAgreesSpec.vars false W args.toList ds gs before)
    (hsz0 : (DataW.weightsEach Tryd.prog (Tryd.f9.params.toList ++ (OpenSpec.ofChange Rows.scriptAgreesSpec).bare.plain.varTypes Tryd.prog) (ds ++ gs)).all (· ≤ reachBytes) = true)
    (hSh : W.ShapedOpen Tryd.prog)
    (hL : laidMetH Tryd.prog Rows.scriptAgreesRow.laid W) :
    Calls Tryd.prog 9 args W fun e W' => ∃ v, e = .returned v ∧ Rows.scriptAgreesSpec.post enc Tryd.prog Tryd.f9 false true false false W args v W' := by
  have hsz : (DataW.weightsEach Tryd.prog (Tryd.f9.params.toList ++ Rows.scriptAgreesSpec.plain.varTypes Tryd.prog) (ds ++ gs)).all (· ≤ reachBytes) = true := hsz0
  have hval : ∀ (j : Nat) t v, Tryd.f9.params[j]? = some t → args[j]? = some v → Value.okWide Tryd.prog W .any base t v := hval0
  have hStd : Hof.Std W := Laid.std_of (show laidMet Tryd.prog Laid.seven W from hL) hSh
  have hW' := hW
  obtain ⟨p, q, hA0, hV, rfl, hfz, hnd⟩ := hW
  have hA : DataW.TrodAll enc Tryd.prog W 0 (fun _ => true) true Tryd.f9.params.toList args.toList ds p := hA0
  rw [Tryd.params9] at hA hval hsz
  obtain ⟨v0, vs0, d0, ds0, p0, q0, hargs, rfl, rfl, h0, r0⟩ := trodAll_cons hA
  obtain ⟨v1, vs1, d1, ds1, p1, q1, rfl, rfl, rfl, h1, r1⟩ := trodAll_cons r0
  obtain ⟨v2, vs2, d2, ds2, p2, q2, rfl, rfl, rfl, h2, r2⟩ := trodAll_cons r1
  obtain ⟨rfl, rfl, rfl⟩ := trodAll_nil r2
  obtain rfl : args = #[v0, v1, v2] := by cases args; simp_all
  obtain ⟨rfl, rfl⟩ := trodVars_none hV
  have k0 := h0
  have lt0 : ∀ x ∈ p0, x.block < W.heap.size := by obtain ⟨m, hm⟩ := k0; exact DataW.trod_lt m _ _ _ hm
  have ws0 : ∀ n ∈ d0.weights Tryd.prog 22, n ≤ reachBytes := fun n hn => by simpa using List.all_eq_true.1 hsz n (DataW.weights_mem_each (j := 0) rfl rfl n hn)
  obtain ⟨x0, K0, G0⟩ : ∃ x, (Kd.slice 32 GA.k32).K W x v0.cells.toList ∧ GSl 48 Kinds.G32 x (Rows.uptoBulk d0) := by
    obtain ⟨fuel, hf⟩ := h0
    exact Kinds.o22.opens enc W 0 _ _ fuel _ _ hf ws0
  obtain ⟨a0, len0, cap0, rfl⟩ := okWide_slice Tryd.underlying22 (hval 0 22 v0 rfl rfl)
  obtain ⟨A0, c0, e0, hc0, hC0⟩ := K0
  simp only [Value.cells, List.cons.injEq, and_true, Value.slice.injEq] at e0
  obtain ⟨rfl, rfl, rfl⟩ := e0
  have k1 := h1
  have lt1 : ∀ x ∈ p1, x.block < W.heap.size := by obtain ⟨m, hm⟩ := k1; exact DataW.trod_lt m _ _ _ hm
  have ws1 : ∀ n ∈ d1.weights Tryd.prog 22, n ≤ reachBytes := fun n hn => by simpa using List.all_eq_true.1 hsz n (DataW.weights_mem_each (j := 1) rfl rfl n hn)
  obtain ⟨x1, K1, G1⟩ : ∃ x, (Kd.slice 32 GA.k32).K W x v1.cells.toList ∧ GSl 48 Kinds.G32 x (Rows.uptoBulk d1) := by
    obtain ⟨fuel, hf⟩ := h1
    exact Kinds.o22.opens enc W 0 _ _ fuel _ _ hf ws1
  obtain ⟨a1, len1, cap1, rfl⟩ := okWide_slice Tryd.underlying22 (hval 1 22 v1 rfl rfl)
  obtain ⟨A1, c1, e1, hc1, hC1⟩ := K1
  simp only [Value.cells, List.cons.injEq, and_true, Value.slice.injEq] at e1
  obtain ⟨rfl, rfl, rfl⟩ := e1
  have k2 := h2
  have lt2 : ∀ x ∈ p2, x.block < W.heap.size := by obtain ⟨m, hm⟩ := k2; exact DataW.trod_lt m _ _ _ hm
  have ws2 : ∀ n ∈ d2.weights Tryd.prog 39, n ≤ reachBytes := fun n hn => by simpa using List.all_eq_true.1 hsz n (DataW.weights_mem_each (j := 2) rfl rfl n hn)
  obtain ⟨x2, K2, G2⟩ : ∃ x, (Kd.slice 3 (Kd.int .i64)).K W x v2.cells.toList ∧ GSl 8 (GInt .i64) x (Rows.uptoBulk d2) := by
    obtain ⟨fuel, hf⟩ := h2
    exact Kinds.o39.opens enc W 0 _ _ fuel _ _ hf ws2
  obtain ⟨a2, len2, cap2, rfl⟩ := okWide_slice Tryd.underlying39 (hval 2 39 v2 rfl rfl)
  obtain ⟨A2, c2, e2, hc2, hC2⟩ := K2
  simp only [Value.cells, List.cons.injEq, and_true, Value.slice.injEq] at e2
  obtain ⟨rfl, rfl, rfl⟩ := e2
  clear hA0 hval hsz
  have sm0 : Q.Small x0 := fun j => by
    unfold GA.rd_T32
    rw [List.getD_eq_getElem?_getD]
    cases hq : x0[j.toNat]? with
    | none => exact ⟨by decide, by decide⟩
    | some y =>
      have hy := G0.2.2.2 y (List.mem_of_getElem? hq)
      have y0 : y.f0.length * 4 ≤ 140737488351232 := hy.1.1
      have y1 : y.f1.length * 8 ≤ 140737488351232 := hy.2.1
      show y.f0.length < _ ∧ y.f1.length < _
      omega
  have sm1 : Q.Small x1 := fun j => by
    unfold GA.rd_T32
    rw [List.getD_eq_getElem?_getD]
    cases hq : x1[j.toNat]? with
    | none => exact ⟨by decide, by decide⟩
    | some y =>
      have hy := G1.2.2.2 y (List.mem_of_getElem? hq)
      have y0 : y.f0.length * 4 ≤ 140737488351232 := hy.1.1
      have y1 : y.f1.length * 8 ≤ 140737488351232 := hy.2.1
      show y.f0.length < _ ∧ y.f1.length < _
      omega
  obtain ⟨kk, hkk⟩ := Q.agrees x0 x1 x2 (by have h := G0.1; omega) (by have h := G1.1; omega) (by have h := G2.1; omega) sm0 sm1
  refine (GA.rotalaw19_ScriptAgrees.calls kk _ _ x0 _ _ x1 _ _ x2 true W hStd hC0 hc0 hC1 hc1 hC2 hc2 hkk).mono fun e W' ⟨he, bel⟩ => ?_
  subst he
  exact ⟨_, rfl, _, _, _, [], _, [], hW', trodAll_mk1 (shut_bool Tryd.underlying4 _), (trodAll_cons_mk (Below.trod laidOut (by kernel_rfl) (of_decide_eq_true (by kernel_rfl)) k0 bel lt0) (trodAll_cons_mk (Below.trod laidOut (by kernel_rfl) (of_decide_eq_true (by kernel_rfl)) k1 bel lt1) (trodAll_cons_mk (Below.trod laidOut (by kernel_rfl) (of_decide_eq_true (by kernel_rfl)) k2 bel lt2) trodAll_mk0))), rfl, bel.frame _, fun h => by cases h⟩
def lay (cs : Array Value) : Obj → Obj
  | .cells _ t frozen => .cells cs t frozen
  | o => o
noncomputable def laidWorld (os : Os) : World := { World.holding Tryd.prog os ⟨#[], #[], []⟩ with heap := ((((((((((World.holding Tryd.prog os ⟨#[], #[], []⟩).heap.modify 0 (lay #[.int .u64 1, .int .u64 10, .int .u64 100, .int .u64 1000, .int .u64 10000, .int .u64 100000, .int .u64 1000000, .int .u64 10000000, .int .u64 100000000, .int .u64 1000000000, .int .u64 10000000000, .int .u64 100000000000, .int .u64 1000000000000, .int .u64 10000000000000, .int .u64 100000000000000, .int .u64 1000000000000000, .int .u64 10000000000000000, .int .u64 100000000000000000, .int .u64 1000000000000000000, .int .u64 10000000000000000000])).modify 2 (lay #[.iface 150 (.pointer (some ⟨(World.holding Tryd.prog os ⟨#[], #[], []⟩).heap.size, 0, none⟩))])).modify 3 (lay #[.iface 150 (.pointer (some ⟨(World.holding Tryd.prog os ⟨#[], #[], []⟩).heap.size + 1, 0, none⟩))])).modify 4 (lay (Go.Pinned.utf8FirstZ.map fun (n : Nat) => Value.int .u8 (n : Int)).toArray)).modify 5 (lay #[.int .u8 128, .int .u8 191, .int .u8 160, .int .u8 191, .int .u8 128, .int .u8 159, .int .u8 144, .int .u8 191, .int .u8 128, .int .u8 143, .int .u8 0, .int .u8 0, .int .u8 0, .int .u8 0, .int .u8 0, .int .u8 0, .int .u8 0, .int .u8 0, .int .u8 0, .int .u8 0, .int .u8 0, .int .u8 0, .int .u8 0, .int .u8 0, .int .u8 0, .int .u8 0, .int .u8 0, .int .u8 0, .int .u8 0, .int .u8 0, .int .u8 0, .int .u8 0])).modify 6 (lay #[.int .u8 0, .int .u8 1, .int .u8 28, .int .u8 2, .int .u8 29, .int .u8 14, .int .u8 24, .int .u8 3, .int .u8 30, .int .u8 22, .int .u8 20, .int .u8 15, .int .u8 25, .int .u8 17, .int .u8 4, .int .u8 8, .int .u8 31, .int .u8 27, .int .u8 13, .int .u8 23, .int .u8 21, .int .u8 19, .int .u8 16, .int .u8 7, .int .u8 26, .int .u8 12, .int .u8 18, .int .u8 6, .int .u8 11, .int .u8 5, .int .u8 10, .int .u8 9])).modify 7 (lay #[.int .u8 0, .int .u8 1, .int .u8 56, .int .u8 2, .int .u8 57, .int .u8 49, .int .u8 28, .int .u8 3, .int .u8 61, .int .u8 58, .int .u8 42, .int .u8 50, .int .u8 38, .int .u8 29, .int .u8 17, .int .u8 4, .int .u8 62, .int .u8 47, .int .u8 59, .int .u8 36, .int .u8 45, .int .u8 43, .int .u8 51, .int .u8 22, .int .u8 53, .int .u8 39, .int .u8 33, .int .u8 30, .int .u8 24, .int .u8 18, .int .u8 12, .int .u8 5, .int .u8 63, .int .u8 55, .int .u8 48, .int .u8 27, .int .u8 60, .int .u8 41, .int .u8 37, .int .u8 16, .int .u8 46, .int .u8 35, .int .u8 44, .int .u8 21, .int .u8 52, .int .u8 32, .int .u8 23, .int .u8 11, .int .u8 54, .int .u8 26, .int .u8 40, .int .u8 15, .int .u8 34, .int .u8 20, .int .u8 31, .int .u8 10, .int .u8 25, .int .u8 14, .int .u8 19, .int .u8 9, .int .u8 13, .int .u8 8, .int .u8 7, .int .u8 6])).push (.cells #[.string ⟨#[105, 110, 118, 97, 108, 105, 100, 32, 115, 121, 110, 116, 97, 120]⟩] 152)).push (.cells #[.string ⟨#[118, 97, 108, 117, 101, 32, 111, 117, 116, 32, 111, 102, 32, 114, 97, 110, 103, 101]⟩] 152)) }
theorem laid_met (os : Os) : laidMet Tryd.prog Rows.scriptAgreesRow.laid ((laidWorld os).forCall (fun _ _ => 0) ⟨#[], #[.slice none 0 0, .slice none 0 0, .slice none 0 0], []⟩).memory := laidMet_of_run3 8 (by kernel_rfl) (by kernel_rfl) (by kernel_rfl)
theorem reads (os : Os) {H : Type} (enc : TypeId × Value → H) : ∃ places, DataW.whole enc Tryd.prog ((laidWorld os).forCall (fun _ _ => 0) ⟨#[], #[.slice none 0 0, .slice none 0 0, .slice none 0 0], []⟩).memory Tryd.f9.params.toList Rows.scriptAgreesSpec.vars false (#[.slice none 0 0, .slice none 0 0, .slice none 0 0] : Array Value).toList 8 = some ([.nil, .nil, .nil], [], places) := ⟨[], by kernel_rfl⟩
set_option maxRecDepth 100000 in
theorem lifted (os : Os) (started : os.Started) (H : Type) (enc : TypeId × Value → H) (F : Stop.Interp) :
    ReturnsInHanded {} Tryd.checked os 9 .any ((OpenSpec.ofChange Rows.scriptAgreesSpec).preRow enc Tryd.prog Tryd.f9 Rows.scriptAgreesRow.domain false Rows.scriptAgreesRow.laid) (((OpenSpec.ofChange Rows.scriptAgreesSpec).at F).post enc Tryd.prog Tryd.f9 false true false false) := by
  obtain ⟨places, hx⟩ := reads os enc
  refine returnsInHanded_of_row (C := Tryd.checked) (s := (OpenSpec.ofChange Rows.scriptAgreesSpec)) own started (by kernel_rfl) Tryd.func9
    (witness_row_at (enc := enc) (C := Tryd.checked) false (laidWorld os) #[.slice none 0 0, .slice none 0 0, .slice none 0 0] rfl (by kernel_rfl) (by kernel_rfl) (by kernel_rfl)
      (OpenSpec.preRow_of_cond 8 hx (by kernel_rfl) (fun k hk => by cases hk) (by kernel_rfl) (laid_met os))) ?_
  intro W base args ds gs before hval hW _ _ hsz hL hSh _
  exact contract H enc W base args ds gs before hval hW hsz hSh hL
theorem said : Rows.ScriptAgreesSaid :=
  OpenClaim.holds_of_cond 9 Tryd.f9 rfl rfl rfl rfl rfl rfl rfl ⟨rfl, rfl, rfl, rfl, rfl⟩ rfl rfl rfl rfl rfl (by kernel_rfl) Tryd.func9 (by kernel_rfl)
    (of_decide_eq_true (by kernel_rfl)) (by unfold Func.isWrapper; first | (rw [if_pos (by decide +kernel)]; kernel_rfl) | (rw [if_neg (by decide +kernel)]; exact ⟨rfl, rfl⟩))
    (fun os started H enc _ F => by rw [OpenClaim.pre_eq_preRow]; exact lifted os started H enc F)
theorem plain (f : FuncId) (fn : Func) (hf : Tryd.pinned.checked.prog.funcNamed Rows.scriptAgreesRow.func = some f) (hfn : Tryd.pinned.checked.prog.funcs[f]? = some fn) :
    true = Tryd.pinned.checked.prog.looks [] ∧ ∀ (j : Nat) t, fn.params[j]? = some t → Tryd.pinned.checked.prog.wantsStandIn t = false := by
  obtain rfl : f = 9 := Option.some.inj ((show Tryd.prog.funcNamed Rows.scriptAgreesRow.func = some 9 by kernel_rfl).symm.trans hf) |>.symm
  obtain rfl : fn = Tryd.f9 := (Option.some.inj (Tryd.func9.symm.trans hfn)).symm
  refine ⟨by kernel_rfl, fun j t ht => ?_⟩
  rw [Tryd.params9] at ht
  have hm := Array.mem_of_getElem? ht
  simp at hm
  rcases hm with rfl | rfl
  · exact (show Tryd.prog.wantsStandIn 22 = false by kernel_rfl)
  · exact (show Tryd.prog.wantsStandIn 39 = false by kernel_rfl)
theorem card : Rows.ScriptAgreesCardSaid :=
  Claim7.holds_tied_plain_at .later [] _ _ _ _ said (fun _ h => by cases h) (by kernel_rfl) (fun _ h => by cases h) scriptAgrees_row_tie rfl ⟨rfl, rfl⟩ (by kernel_rfl) rfl plain (by kernel_rfl)
end Go.Proofs.YtonnlkpmfmknlaaDoor.scriptAgrees
namespace Go.Proofs.YtonnlkpmfmknlaaDoor
theorem scriptAgrees_holds : Rows.ScriptAgreesCardSaid := scriptAgrees.card
end Go.Proofs.YtonnlkpmfmknlaaDoor
end
