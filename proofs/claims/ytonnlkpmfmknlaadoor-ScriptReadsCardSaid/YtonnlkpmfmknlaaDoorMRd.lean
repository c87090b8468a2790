import Derived.Test.YtonnlkpmfmknlaaDoorMRd4
import Derived.Test.YtonnlkpmfmknlaaDoorMB6
import Derived.Test.YtonnlkpmfmknlaaDoorMC
import Derived.Test.YtonnlkpmfmknlaaDoorCards
import Derived.Test.YtonnlkpmfmknlaaDoorTie
import Derived.Test.YtonnlkpmfmknlaaDoorMB
import Derived.WalkKit
import Derived.ProofKit
import Derived.OpenShut
import Derived.ShutString
import Derived.ChangeOld
import Derived.Below
import Derived.SizedLaws
import Derived.Lib.SmallJoins
import Derived.Deep.DeepHandedRow
import Derived.Lib.LaidTab
import Derived.Deep.DeepLaidRun
section
/-
  ScriptReads, walked: both readers of a text come to the same.
-/
set_option linter.unusedVariables false
set_option linter.unusedSimpArgs false
namespace Go.Proofs.YtonnlkpmfmknlaaDoor.Q
open Go.RowKit Go.Proofs.YtonnlkpmfmknlaaDoor.GA
theorem wf64 {n : Int} (h : (Lit.int IntKind.i64 n).wf = true) : -9223372036854775808 ≤ n ∧ n ≤ 9223372036854775807 := by
  unfold Lit.wf at h
  rw [Bool.and_eq_true] at h
  have a := of_decide_eq_true h.1
  have b := of_decide_eq_true h.2
  rw [show IntKind.i64.min = -9223372036854775808 by decide] at a
  rw [show IntKind.i64.max = 9223372036854775807 by decide] at b
  omega
theorem items_len (b : Bool) (k : Nat) : ∀ (r : List (List UInt8)) (st : List (List Int)), (items b k st r).2.length = st.length
  | [], st => rfl
  | s :: r, st => by
    rw [items]
    cases itemV b s with
    | none => rfl
    | some v => simp only; rw [items_len b k r, List.length_set]
theorem step_len (n : Nat) (st : List (List Int)) (hd : List Bool) (ws : List (List UInt8)) : (step n st hd ws).2.1.length = st.length := by
  unfold step
  split
  · split
    · split
      · rfl
      · split
        · rfl
        · exact items_len _ _ _ _
    · rfl
  · rfl
theorem lines_len (n : Nat) : ∀ (L : List (List UInt8)) (i : Nat) (st : List (List Int)) (hd : List Bool), (lines19 n i st hd L).1.length ≤ st.length
  | [], i, st, hd => by rw [lines19]; exact Nat.le_refl _
  | l :: r, i, st, hd => by
    by_cases h : Fld.fld (fun b => b.toNat == 32) [] l = [] ∨ l.head? = some 35
    · rw [lines_skip n i st hd l r h]; exact lines_len n r _ _ _
    · have hl := step_len n st hd (Fld.fld (fun b => b.toNat == 32) [] l)
      rcases hs : step n st hd (Fld.fld (fun b => b.toNat == 32) [] l) with ⟨c, st', hd'⟩
      rw [hs] at hl
      by_cases hc : c = 0
      · subst hc
        rw [lines_next n i st st' hd hd' l r h hs]
        exact Nat.le_trans (lines_len n r _ _ _) (Nat.le_of_eq hl)
      · rw [lines_bad n i c st st' hd hd' l r h hs hc]; exact Nat.zero_le _
theorem lines_bound (n Z : Nat) : ∀ (L : List (List UInt8)) (i : Nat) (st : List (List Int)) (hd : List Bool) (B : Nat), (∀ p ∈ st, p.length ≤ B) → (∀ l ∈ L, l.length ≤ Z) → ∀ p ∈ (lines19 n i st hd L).1, p.length ≤ B + L.length * Z
  | [], i, st, hd, B, h, _, p, hp => by rw [lines19] at hp; have := h p hp; simpa using this
  | l :: r, i, st, hd, B, h, hL, p, hp => by
    have hmul : (r.length + 1) * Z = r.length * Z + Z := Nat.succ_mul _ _
    rw [List.length_cons, hmul]
    by_cases h2 : Fld.fld (fun b => b.toNat == 32) [] l = [] ∨ l.head? = some 35
    · rw [lines_skip n i st hd l r h2] at hp
      have := lines_bound n Z r _ _ _ B h (fun x hx => hL x (List.mem_cons_of_mem _ hx)) p hp
      omega
    · have hb := step_bound n st hd (Fld.fld (fun b => b.toNat == 32) [] l) B h
      have hf := fld_len (fun b => b.toNat == 32) l []
      rw [if_pos rfl] at hf
      have hl := hL l List.mem_cons_self
      rcases hs : step n st hd (Fld.fld (fun b => b.toNat == 32) [] l) with ⟨c, st', hd'⟩
      rw [hs] at hb
      by_cases hc : c = 0
      · subst hc
        rw [lines_next n i st st' hd hd' l r h2 hs] at hp
        have := lines_bound n Z r _ _ _ (B + Z) (fun q hq => by have := hb q hq; omega) (fun x hx => hL x (List.mem_cons_of_mem _ hx)) p hp
        omega
      · rw [lines_bad n i c st st' hd hd' l r h2 hs hc] at hp
        cases hp
theorem pairs_in : ∀ (L : List (List Int)) (x : S32), x ∈ Hof.pairs L → x.f0 ∈ L ∧ x.f1 ∈ L
  | [], x, h => by cases h
  | [a], x, h => by cases h
  | a :: b :: t, x, h => by
    rw [Hof.pairs] at h
    rcases List.mem_cons.1 h with rfl | h
    · exact ⟨by simp, by simp⟩
    · have := pairs_in t x h
      exact ⟨List.mem_cons_of_mem _ (List.mem_cons_of_mem _ this.1), List.mem_cons_of_mem _ (List.mem_cons_of_mem _ this.2)⟩
theorem pairs_le : ∀ (L : List (List Int)), (Hof.pairs L).length ≤ L.length
  | [] => Nat.le_refl _
  | [a] => Nat.zero_le _
  | a :: b :: t => by have := pairs_le t; rw [Hof.pairs, List.length_cons, List.length_cons, List.length_cons]; omega
theorem parse_same (n : Int) (s : ByteArray) : rotaref19_Same.f 100000000000000 (Hof.pairs (Hof.parse19 n s).1) (Hof.pairs (Hof.parse19 n s).1) = some true := by
  have key : (Hof.parse19 n s).1.length ≤ 32 ∧ ∀ p ∈ (Hof.parse19 n s).1, p.length ≤ 68719738880 := by
    rw [← Hof.rparse_same]
    unfold Hof.rparse19
    split
    · exact ⟨Nat.zero_le _, fun p hp => by cases hp⟩
    · split
      · exact ⟨Nat.zero_le _, fun p hp => by cases hp⟩
      · have hz := sz_len s
        have h1 := lines_len n.toNat (lnR [] s.data.toList) 0 (List.replicate (2 * n.toNat) []) (List.replicate (2 * n.toNat) false)
        rw [List.length_replicate] at h1
        refine ⟨by omega, fun p hp => ?_⟩
        have h2 := lines_bound n.toNat 262144 (lnR [] s.data.toList) 0 (List.replicate (2 * n.toNat) []) (List.replicate (2 * n.toNat) false) 0 (fun p hp => by rw [List.eq_of_mem_replicate hp]; exact Nat.zero_le _) (fun l hl => by
          have := lnR_size s.data.toList [] l hl
          simp only [List.length_nil] at this; omega) p hp
        have h3 := lnR_len s.data.toList []
        have h4 : (lnR [] s.data.toList).length * 262144 ≤ 262145 * 262144 := Nat.mul_le_mul_right _ (by omega)
        omega
  have sm : Small (Hof.pairs (Hof.parse19 n s).1) := fun i => by
    unfold rd_T32
    rw [List.getD_eq_getElem?_getD]
    cases hq : (Hof.pairs (Hof.parse19 n s).1)[i.toNat]? with
    | none => exact ⟨by decide, by decide⟩
    | some y =>
      have := pairs_in _ y (List.mem_of_getElem? hq)
      have h0 := key.2 _ this.1
      have h1 := key.2 _ this.2
      exact ⟨by show y.f0.length < _; omega, by show y.f1.length < _; omega⟩
  have hl := pairs_le (Hof.parse19 n s).1
  unfold rotaref19_Same.f
  rw [if_pos rfl]
  exact same_l _ (by have := key.1; omega) sm 52776558133260 (fun i => by have := sm i; omega) _ 0 (Nat.zero_add _) _ (by have := key.1; omega)
end Go.Proofs.YtonnlkpmfmknlaaDoor.Q
namespace Go.Proofs.YtonnlkpmfmknlaaDoor.Hof
open Go.RowKit Go.Shelf Go.Proofs.YtonnlkpmfmknlaaDoorW.PrintWords Go.Proofs.YtonnlkpmfmknlaaDoorW.PrintLast Go.Proofs.YtonnlkpmfmknlaaDoorW.PrintMore Hctx GA
set_option maxHeartbeats 4000000 in
set_option maxRecDepth 100000 in
theorem parse_big (d : Int) (s : ByteArray) (hs : 262144 < s.size) (w : World) : Calls Tryd.prog 10 #[.int .i64 d, .string s] w (Parsed (parse19 d s) w) := by
  by_cases h1 : d < 1
  · have e1 : decide (d < 1) = true := decide_eq_true h1
    have HR := Lib.hid (show parse19 d s = ([], 1, 0) by unfold parse19; rw [if_pos (.inl h1)])
    clear h1 hs
    go_enter Tryd.func10, Tryd.ntmps10
    go_wp2
    go_ret3
    rw [HR.out]
    exact parsed_nil 1 0 (Below.refl _ _)
  by_cases h2 : 16 < d
  · have e1 : decide (d < 1) = false := decide_eq_false h1
    have e2 : decide (d > 16) = true := decide_eq_true h2
    have e3 : decide (16 < d) = true := decide_eq_true h2
    have HR := Lib.hid (show parse19 d s = ([], 1, 0) by unfold parse19; rw [if_pos (.inr h2)])
    clear h1 h2 hs
    go_enter Tryd.func10, Tryd.ntmps10
    go_wp2
    go_ret3
    rw [HR.out]
    exact parsed_nil 1 0 (Below.refl _ _)
  have e1 : decide (d < 1) = false := decide_eq_false h1
  have e2 : decide (d > 16) = false := decide_eq_false h2
  have e3 : decide (16 < d) = false := decide_eq_false h2
  have HR := Lib.hid (show parse19 d s = ([], 2, 0) by unfold parse19; rw [if_neg (by omega), if_pos hs])
  have e4 : decide ((s.size : Int) > 262144) = true := decide_eq_true (by omega)
  clear h1 h2 hs
  go_enter Tryd.func10, Tryd.ntmps10
  go_wp2
  go_ret3
  rw [HR.out]
  exact parsed_nil 2 0 (Below.refl _ _)
theorem parse_all (d : Int) (hd : I64 d) (s : ByteArray) (w : World) (S0 : Std w) : Calls Tryd.prog 10 #[.int .i64 d, .string s] w (Parsed (parse19 d s) w) := by
  by_cases h : 262144 < s.size
  · exact parse_big d s h w
  · exact parse_calls d hd s (by omega) w S0
set_option maxHeartbeats 4000000 in
set_option maxRecDepth 100000 in
theorem law3_calls (d : Int) (hd : I64 d) (s : ByteArray) (w : World) (S0 : Std w) : Calls Tryd.prog 3 #[.int .i64 d, .string s] w fun e W' => e = .returned (.bool true) ∧ Below w.heap.size w W' := by
  have S := Lib.hid S0
  have PA := Lib.hid (parse_all d hd s w S0)
  have RP := Lib.hid (fun w => rparse_calls d s w)
  have SM := Lib.hid (Q.parse_same d s)
  rw [rparse_same] at RP
  clear S0 hd
  generalize parse19 d s = R at PA RP SM
  go_enter Tryd.func3, Tryd.ntmps3
  go_wp2_with fail
  refine PA.out.mono ?_
  rintro e w1 ⟨v1, rfl, hR1, hb1⟩
  obtain ⟨A1, c1, rfl, hc1, hC1⟩ := Kd.R_reads hR1
  have H1 := Lib.hid (And.intro hc1 hC1)
  have B1 := Lib.hid hb1
  clear hR1 hb1 hc1 hC1 PA
  go_wp2_with fail
  refine (RP.out w1).mono ?_
  rintro e w2 ⟨v2, rfl, hR2, hb2⟩
  obtain ⟨A2, c2, rfl, hc2, hC2⟩ := Kd.R_reads hR2
  have H2 := Lib.hid (And.intro hc2 hC2)
  have HX := Lib.hid (Kd.C_below H1.out.2 hb2)
  have B2 := Lib.hid (below_step B1.out hb2)
  clear hR2 hb2 hc2 hC2 RP
  go_wp2_with fail
  refine (lives_calls w2 (S.out.below B2.out)).mono ?_
  rintro e w3 ⟨rfl, hb3⟩
  have HX3 := Lib.hid (Kd.C_below HX.out hb3)
  have HY3 := Lib.hid (Kd.C_below H2.out.2 hb3)
  have B3 := Lib.hid (below_step B2.out hb3)
  clear hb3
  go_wp2_with fail
  refine (rotaref19_Same.calls 100000000000000 A1 c1 _ A2 c2 _ true w3 HX3.out H1.out.1 HY3.out H2.out.1 SM.out).mono ?_
  rintro e w4 ⟨rfl, hb4⟩
  have B4 := Lib.hid (below_step B3.out hb4)
  clear hb4
  go_wp2_with fail
  go_ret
  exact ⟨rfl, B4.out⟩
end Go.Proofs.YtonnlkpmfmknlaaDoor.Hof
end

section
/-
  Parse tells what the frozen one tells, of any text.
-/
set_option linter.unusedVariables false
set_option linter.unusedSimpArgs false
namespace Go.Proofs.YtonnlkpmfmknlaaDoor.scriptReads
open Go.ChangeShapes Go.WideShapes Go.ChangeAt Go.RowKit Go.Proofs.YtonnlkpmfmknlaaDoorW.PrintWords Go.Proofs.YtonnlkpmfmknlaaDoor.Opn
open Go.ChangeMaps (open_string shut_string)
theorem own : ownKnob Tryd.prog.godebug = none := by kernel_rfl
theorem laidOut : laidOutB Tryd.prog = true := by kernel_rfl
set_option maxRecDepth 100000 in
theorem contract (H : Type) (enc : TypeId × Value → H) (W : World) (base : Nat) (args : Array Value) (ds gs : List (DataW H)) (before : List MemPlace)
    (hval0 : ∀ (j : Nat) t v, Tryd.f3.params[j]? = some t → args[j]? = some v → Value.okWide Tryd.prog W .any base t v)
    (hW : DataW.Whole enc Tryd.prog Tryd.f3.params.toList Rows.scriptReadsSpec.vars false W args.toList ds gs before)
    (hsz0 : (DataW.weightsEach Tryd.prog (Tryd.f3.params.toList ++ (OpenSpec.ofChange Rows.scriptReadsSpec).bare.plain.varTypes Tryd.prog) (ds ++ gs)).all (· ≤ reachBytes) = true)
    (hSh : W.ShapedOpen Tryd.prog)
    (hL : laidMetH Tryd.prog Rows.scriptReadsRow.laid W) :
    Calls Tryd.prog 3 args W fun e W' => ∃ v, e = .returned v ∧ Rows.scriptReadsSpec.post enc Tryd.prog Tryd.f3 false true false false W args v W' := by
  have hsz : (DataW.weightsEach Tryd.prog (Tryd.f3.params.toList ++ Rows.scriptReadsSpec.plain.varTypes Tryd.prog) (ds ++ gs)).all (· ≤ reachBytes) = true := hsz0
  have hval : ∀ (j : Nat) t v, Tryd.f3.params[j]? = some t → args[j]? = some v → Value.okWide Tryd.prog W .any base t v := hval0
  have hStd : Hof.Std W := Laid.std_of (show laidMet Tryd.prog Laid.seven W from hL) hSh
  have hW' := hW
  obtain ⟨p, q, hA0, hV, rfl, hfz, hnd⟩ := hW
  have hA : DataW.TrodAll enc Tryd.prog W 0 (fun _ => true) true Tryd.f3.params.toList args.toList ds p := hA0
  rw [Tryd.params3] at hA hval hsz
  obtain ⟨v0, vs0, d0, ds0, p0, q0, hargs, rfl, rfl, h0, r0⟩ := trodAll_cons hA
  obtain ⟨v1, vs1, d1, ds1, p1, q1, rfl, rfl, rfl, h1, r1⟩ := trodAll_cons r0
  obtain ⟨rfl, rfl, rfl⟩ := trodAll_nil r1
  obtain rfl : args = #[v0, v1] := by cases args; simp_all
  obtain ⟨rfl, rfl⟩ := trodVars_none hV
  have k0 := h0
  have lt0 : ∀ x ∈ p0, x.block < W.heap.size := by obtain ⟨m, hm⟩ := k0; exact DataW.trod_lt m _ _ _ hm
  have ws0 : ∀ n ∈ d0.weights Tryd.prog 3, n ≤ reachBytes := fun n hn => by simpa using List.all_eq_true.1 hsz n (DataW.weights_mem_each (j := 0) rfl rfl n hn)
  obtain ⟨a0, rfl, rfl, rfl, w0⟩ := open_int Tryd.underlying3 (hval 0 3 v0 rfl rfl) h0
  have k1 := h1
  have lt1 : ∀ x ∈ p1, x.block < W.heap.size := by obtain ⟨m, hm⟩ := k1; exact DataW.trod_lt m _ _ _ hm
  have ws1 : ∀ n ∈ d1.weights Tryd.prog 9, n ≤ reachBytes := fun n hn => by simpa using List.all_eq_true.1 hsz n (DataW.weights_mem_each (j := 1) rfl rfl n hn)
  obtain ⟨a1, rfl, rfl, rfl, y1⟩ := open_string Tryd.underlying9 (hval 1 9 v1 rfl rfl) h1
  have w1 : a1.size ≤ 140737488351232 := by
    have z := ws1 a1.data.toList.length (by simp [DataW.weights])
    simpa [reachBytes] using z
  clear hA0 hval hsz
  refine (Hof.law3_calls a0 (Q.wf64 w0) a1 W hStd).mono fun e W' ⟨he, bel⟩ => ?_
  subst he
  exact ⟨_, rfl, _, _, _, [], _, [], hW', trodAll_mk1 (shut_bool Tryd.underlying4 _), (trodAll_cons_mk (Below.trod laidOut (by kernel_rfl) (of_decide_eq_true (by kernel_rfl)) k0 bel lt0) (trodAll_cons_mk (Below.trod laidOut (by kernel_rfl) (of_decide_eq_true (by kernel_rfl)) k1 bel lt1) trodAll_mk0)), rfl, bel.frame _, fun h => by cases h⟩
def lay (cs : Array Value) : Obj → Obj
  | .cells _ t frozen => .cells cs t frozen
  | o => o
noncomputable def laidWorld (os : Os) : World := { World.holding Tryd.prog os ⟨#[], #[], []⟩ with heap := ((((((((((World.holding Tryd.prog os ⟨#[], #[], []⟩).heap.modify 0 (lay #[.int .u64 1, .int .u64 10, .int .u64 100, .int .u64 1000, .int .u64 10000, .int .u64 100000, .int .u64 1000000, .int .u64 10000000, .int .u64 100000000, .int .u64 1000000000, .int .u64 10000000000, .int .u64 100000000000, .int .u64 1000000000000, .int .u64 10000000000000, .int .u64 100000000000000, .int .u64 1000000000000000, .int .u64 10000000000000000, .int .u64 100000000000000000, .int .u64 1000000000000000000, .int .u64 10000000000000000000])).modify 2 (lay #[.iface 150 (.pointer (some ⟨(World.holding Tryd.prog os ⟨#[], #[], []⟩).heap.size, 0, none⟩))])).modify 3 (lay #[.iface 150 (.pointer (some ⟨(World.holding Tryd.prog os ⟨#[], #[], []⟩).heap.size + 1, 0, none⟩))])).modify 4 (lay (Go.Pinned.utf8FirstZ.map fun (n : Nat) => Value.int .u8 (n : Int)).toArray)).modify 5 (lay #[.int .u8 128, .int .u8 191, .int .u8 160, .int .u8 191, .int .u8 128, .int .u8 159, .int .u8 144, .int .u8 191, .int .u8 128, .int .u8 143, .int .u8 0, .int .u8 0, .int .u8 0, .int .u8 0, .int .u8 0, .int .u8 0, .int .u8 0, .int .u8 0, .int .u8 0, .int .u8 0, .int .u8 0, .int .u8 0, .int .u8 0, .int .u8 0, .int .u8 0, .int .u8 0, .int .u8 0, .int .u8 0, .int .u8 0, .int .u8 0, .int .u8 0, .int .u8 0])).modify 6 (lay #[.int .u8 0, .int .u8 1, .int .u8 28, .int .u8 2, .int .u8 29, .int .u8 14, .int .u8 24, .int .u8 3, .int .u8 30, .int .u8 22, .int .u8 20, .int .u8 15, .int .u8 25, .int .u8 17, .int .u8 4, .int .u8 8, .int .u8 31, .int .u8 27, .int .u8 13, .int .u8 23, .int .u8 21, .int .u8 19, .int .u8 16, .int .u8 7, .int .u8 26, .int .u8 12, .int .u8 18, .int .u8 6, .int .u8 11, .int .u8 5, .int .u8 10, .int .u8 9])).modify 7 (lay #[.int .u8 0, .int .u8 1, .int .u8 56, .int .u8 2, .int .u8 57, .int .u8 49, .int .u8 28, .int .u8 3, .int .u8 61, .int .u8 58, .int .u8 42, .int .u8 50, .int .u8 38, .int .u8 29, .int .u8 17, .int .u8 4, .int .u8 62, .int .u8 47, .int .u8 59, .int .u8 36, .int .u8 45, .int .u8 43, .int .u8 51, .int .u8 22, .int .u8 53, .int .u8 39, .int .u8 33, .int .u8 30, .int .u8 24, .int .u8 18, .int .u8 12, .int .u8 5, .int .u8 63, .int .u8 55, .int .u8 48, .int .u8 27, .int .u8 60, .int .u8 41, .int .u8 37, .int .u8 16, .int .u8 46, .int .u8 35, .int .u8 44, .int .u8 21, .int .u8 52, .int .u8 32, .int .u8 23, .int .u8 11, .int .u8 54, .int .u8 26, .int .u8 40, .int .u8 15, .int .u8 34, .int .u8 20, .int .u8 31, .int .u8 10, .int .u8 25, .int .u8 14, .int .u8 19, .int .u8 9, .int .u8 13, .int .u8 8, .int .u8 7, .int .u8 6])).push (.cells #[.string ⟨#[105, 110, 118, 97, 108, 105, 100, 32, 115, 121, 110, 116, 97, 120]⟩] 152)).push (.cells #[.string ⟨#[118, 97, 108, 117, 101, 32, 111, 117, 116, 32, 111, 102, 32, 114, 97, 110, 103, 101]⟩] 152)) }
theorem laid_met (os : Os) : laidMet Tryd.prog Rows.scriptReadsRow.laid ((laidWorld os).forCall (fun _ _ => 0) ⟨#[], #[.int .i64 0, .string ByteArray.empty], []⟩).memory := laidMet_of_run3 8 (by kernel_rfl) (by kernel_rfl) (by kernel_rfl)
theorem reads (os : Os) {H : Type} (enc : TypeId × Value → H) : ∃ places, DataW.whole enc Tryd.prog ((laidWorld os).forCall (fun _ _ => 0) ⟨#[], #[.int .i64 0, .string ByteArray.empty], []⟩).memory Tryd.f3.params.toList Rows.scriptReadsSpec.vars false (#[.int .i64 0, .string ByteArray.empty] : Array Value).toList 8 = some ([.lit (.int .i64 0), .lit (.string [])], [], places) := ⟨[], by kernel_rfl⟩
set_option maxRecDepth 100000 in
theorem lifted (os : Os) (started : os.Started) (H : Type) (enc : TypeId × Value → H) (F : Stop.Interp) :
    ReturnsInHanded {} Tryd.checked os 3 .any ((OpenSpec.ofChange Rows.scriptReadsSpec).preRow enc Tryd.prog Tryd.f3 Rows.scriptReadsRow.domain false Rows.scriptReadsRow.laid) (((OpenSpec.ofChange Rows.scriptReadsSpec).at F).post enc Tryd.prog Tryd.f3 false true false false) := by
  obtain ⟨places, hx⟩ := reads os enc
  refine returnsInHanded_of_row (C := Tryd.checked) (s := (OpenSpec.ofChange Rows.scriptReadsSpec)) own started (by kernel_rfl) Tryd.func3
    (witness_row_at (enc := enc) (C := Tryd.checked) false (laidWorld os) #[.int .i64 0, .string ByteArray.empty] rfl (by kernel_rfl) (by kernel_rfl) (by kernel_rfl)
      (OpenSpec.preRow_of_cond 8 hx (by kernel_rfl) (fun k hk => by cases hk) (by kernel_rfl) (laid_met os))) ?_
  intro W base args ds gs before hval hW _ _ hsz hL hSh _
  exact contract H enc W base args ds gs before hval hW hsz hSh hL
theorem said : Rows.ScriptReadsSaid :=
  OpenClaim.holds_of_cond 3 Tryd.f3 rfl rfl rfl rfl rfl rfl rfl ⟨rfl, rfl, rfl, rfl, rfl⟩ rfl rfl rfl rfl rfl (by kernel_rfl) Tryd.func3 (by kernel_rfl)
    (of_decide_eq_true (by kernel_rfl)) (by unfold Func.isWrapper; first | (rw [if_pos (by decide +kernel)]; kernel_rfl) | (rw [if_neg (by decide +kernel)]; exact ⟨rfl, rfl⟩))
    (fun os started H enc _ F => by rw [OpenClaim.pre_eq_preRow]; exact lifted os started H enc F)
theorem plain (f : FuncId) (fn : Func) (hf : Tryd.pinned.checked.prog.funcNamed Rows.scriptReadsRow.func = some f) (hfn : Tryd.pinned.checked.prog.funcs[f]? = some fn) :
    true = Tryd.pinned.checked.prog.looks [] ∧ ∀ (j : Nat) t, fn.params[j]? = some t → Tryd.pinned.checked.prog.wantsStandIn t = false := by
  obtain rfl : f = 3 := Option.some.inj ((show Tryd.prog.funcNamed Rows.scriptReadsRow.func = some 3 by kernel_rfl).symm.trans hf) |>.symm
  obtain rfl : fn = Tryd.f3 := (Option.some.inj (Tryd.func3.symm.trans hfn)).symm
  refine ⟨by kernel_rfl, fun j t ht => ?_⟩
  rw [Tryd.params3] at ht
  have hm := Array.mem_of_getElem? ht
  simp at hm
  rcases hm with rfl | rfl
  · exact (show Tryd.prog.wantsStandIn 3 = false by kernel_rfl)
  · exact (show Tryd.prog.wantsStandIn 9 = false by kernel_rfl)
theorem card : Rows.ScriptReadsCardSaid :=
  Claim7.holds_tied_plain_at .later [] _ _ _ _ said (fun _ h => by cases h) (by kernel_rfl) (fun _ h => by cases h) scriptReads_row_tie rfl ⟨rfl, rfl⟩ (by kernel_rfl) rfl plain (by kernel_rfl)
end Go.Proofs.YtonnlkpmfmknlaaDoor.scriptReads
namespace Go.Proofs.YtonnlkpmfmknlaaDoor
theorem scriptReads_holds : Rows.ScriptReadsCardSaid := scriptReads.card
end Go.Proofs.YtonnlkpmfmknlaaDoor
end
