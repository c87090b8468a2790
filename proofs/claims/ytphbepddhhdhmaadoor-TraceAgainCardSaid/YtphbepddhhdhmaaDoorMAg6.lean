import Derived.Test.YtphbepddhhdhmaaDoorMAg3
import Derived.Test.YtphbepddhhdhmaaDoorMAg5
import Derived.Deep.QuietTactic
import Derived.BigQuiet
import Derived.Lib.Hide
import Derived.WalkKit
import Derived.Outline
import Derived.Test.YtphbepddhhdhmaaDoorMAg1
import Derived.Lib.ItoaMem
import Derived.Lib.ItoaLen
import Derived.IntWalk
import Derived.PlainAid
section
/-
  trace.Print: a line each, a newline behind each.
-/
set_option linter.unusedVariables false
set_option linter.unusedSimpArgs false
namespace Go.Proofs.YtphbepddhhdhmaaDoor.Hof
open Go.RowKit Go.Shelf Go.Proofs.YtphbepddhhdhmaaDoorW.PrintWords Go.Proofs.YtphbepddhhdhmaaDoorW.PrintLast Go.Proofs.YtphbepddhhdhmaaDoorW.PrintMore GA Hctx Hof

/-- The text of events. -/
def textE (l : List S36) : List UInt8 := l.flatMap fun x => lineE x ++ [10]
theorem lineE_len (x : S36) (hx : EvOk x) : (lineE x).length ≤ 200 := by
  obtain ⟨⟨h0, h1⟩, h2, h3, h4, ⟨h5, h6⟩, h7, h8, h9⟩ := hx
  have hn := name_le (x.f3 - 1).toNat (by omega)
  have lu : (Lib.decDigits x.f0.toNat).length ≤ 20 := by rw [Lib.decDigits_length]; exact Lib.nDigits_le20 _ (by omega)
  have lp := Lib.itoa_length_le _ h2.1 h2.2
  have lg0 := Lib.itoa_length_le _ h3.1 h3.2
  have lg1 := Lib.itoa_length_le _ h4.1 h4.2
  have la := Lib.itoa_length_le _ h7.1 h7.2
  have lb := Lib.itoa_length_le _ h8.1 h8.2
  have lc := Lib.itoa_length_le _ h9.1 h9.2
  have hnl : (Laid.nameAt (x.f3 - 1).toNat).data.toList.length ≤ 8 := by simpa using hn
  unfold lineE lineOf numsB
  simp only [List.length_append, List.flatMap_cons, List.flatMap_nil, List.length_cons, List.length_nil]
  omega
theorem rd_mem (l : List S36) (i : Nat) (h : i < l.length) : rd_T36 l (i : Int) = l[i] := by
  unfold rd_T36
  rw [Int.toNat_natCast, List.getD_eq_getElem?_getD, List.getElem?_eq_getElem h]
  rfl
theorem textE_snoc (l : List S36) (i : Nat) (h : i < l.length) : textE (l.take (i + 1)) = textE (l.take i) ++ lineE (rd_T36 l (i : Int)) ++ [10] := by
  unfold textE
  rw [List.take_succ_eq_append_getElem h, List.flatMap_append, rd_mem l i h]
  simp
theorem textE_len (l : List S36) (h : ∀ x ∈ l, EvOk x) : (textE l).length ≤ 201 * l.length := by
  induction l with
  | nil => simp [textE]
  | cons x l ih =>
    have h1 := lineE_len x (h x (by simp))
    have h2 := ih (fun y hy => h y (by simp [hy]))
    unfold textE at h2 ⊢
    rw [List.flatMap_cons, List.length_append, List.length_append, List.length_cons, List.length_nil, List.length_cons]
    omega
theorem Mem.nilRow {ik : IntKind} {e : TypeId} {es : List TypeId} {w0 W : World} {L : List (Nat × Array Value × TypeId)} (M : Mem es w0 W L []) (h : e ∈ es) : Mem es w0 W L [⟨Kd.int ik, e, .slice Option.none 0 0, []⟩] :=
  ⟨M.below, M.blk, M.apart, (fun r hr => by
    rw [List.mem_singleton] at hr; subst hr
    intro q hq
    rcases List.mem_cons.1 hq with rfl | hq
    · exact h
    · exact absurd hq (by simp [Kd.int, Kd.scalar])), (fun i r hr => by
    cases i with
    | zero => obtain rfl : _ = r := by simpa using hr
              exact Kd.R_nil _ _ _ _ _
    | succ i => simp at hr)⟩

set_option maxHeartbeats 4000000 in
set_option maxRecDepth 100000 in
theorem print_calls (k : Nat) (A : Option Addr) (c : Nat) (l : List S36) (r1 r2 : Int) (w : World) (hl : Kd.C k36 w A l.length l) (kl : l.length ≤ c) (hlim : l.length ≤ 268435457) (hB0 : 0 < w.heap.size) (htab : TabB w.heap.size w) (hLN : Laid.LaidNames w) (hck : trace_Check.f k l = some (r1, r2)) (hgood : r2 = 0 → ∀ x ∈ l, EvOk x) :
    Calls Tryd.prog 26 #[.slice A l.length c] w fun e w' => e = .returned (.tuple #[.string (if r2 = 0 then ⟨(textE l).toArray⟩ else ⟨#[]⟩), .int .i64 r2]) ∧ Below w.heap.size w w' := by
  have hu36 := Tryd.underlying36
  have HL := Aside0.mk hl
  have HCK := Lib.hid hck
  have HGG := Lib.hid hgood
  have HTB := Lib.hid htab
  have HLN := Lib.hid hLN
  clear hl hck hgood htab hLN
  have M0 := Aside0.mk (Mem.start [5] w)
  go_enter Tryd.func26, Tryd.ntmps26
  go_wp2_with fail
  refine (trace_Check.calls k A c l r1 r2 _ (Kd.C_below HL.out M0.out.below) kl HCK.out).mono ?_
  rintro e W11 ⟨rfl, hb⟩
  have M1 := Aside0.mk (Mem.call M0.out hb)
  clear M0 hb
  by_cases bE : r2 = 0
  · have e0 : (r2 != 0) = false := bne_eq_false_iff_eq.mpr bE
    have HG : ∀ i : Nat, i < l.length → EvOk (rd_T36 l (i : Int)) := fun i hi => by rw [rd_mem l i hi]; exact HGG.out bE _ (List.getElem_mem _)
    have HTX : ∀ i : Nat, (textE (l.take i)).length ≤ 54000000000 := fun i => by
      have h1 := textE_len (l.take i) (fun x hx => HGG.out bE x (List.mem_of_mem_take hx))
      have h2 : (l.take i).length ≤ l.length := List.length_take_le' _ _
      omega
    have HTL : ∀ i : Nat, (textE (l.take i)).length + 400 ≤ 140737488355328 := fun i => by have := HTX i; omega
    have HTA : ∀ i : Nat, i < l.length → ((bI (textE (l.take i) ++ lineE (rd_T36 l (i : Int)))).length + 1) * 1 ≤ 140737488355328 := fun i hi => by
      have h1 := HTX i
      have h2 := lineE_len _ (HG i hi)
      rw [bI_len, List.length_append]
      omega
    have HTS : ∀ i : Nat, i < l.length → bI (textE (l.take i) ++ lineE (rd_T36 l (i : Int))) ++ [10] = bI (textE (l.take (i + 1))) := fun i hi => by rw [textE_snoc l i hi, bI_app (textE (l.take i) ++ lineE (rd_T36 l (i : Int))) [10]]; rfl
    go_wp2_with fail
    go_loopw [6, 19] (fun v6 v19 wr => ∃ (i : Nat) (B : Option Addr) (cB : Nat), i ≤ l.length ∧ v6 = .slice B (bI (textE (l.take i))).length cB ∧ v19 = .int .i64 i ∧ Mem [5] w wr [] [⟨Kd.int .u8, 5, .slice B (bI (textE (l.take i))).length cB, bI (textE (l.take i))⟩]) (fun _ v19 _ => l.length - (intOf v19).toNat)
    case atStart => exact ⟨0, none, 0, by omega, rfl, rfl, Mem.nilRow M1.out (by decide)⟩
    obtain ⟨i, B, cB, hi, rfl, rfl, M⟩ := hrel
    have ML := Aside0.mk M
    clear M M1
    have M2 := ML
    clear ML
    by_cases bK : i < l.length
    · have p1 : (0 : Int) ≤ (i : Int) := by omega
      have p2 : (i : Int) < l.length := by omega
      obtain ⟨ad, rfl, x0, x1, x2, x3, x4, x5, x6, x7⟩ := at_T36 (Kd.C_below HL.out M2.out.below) (i : Int) p1 p2
      rw [Int.toNat_natCast] at x0 x1 x2 x3 x4 x5 x6 x7
      go_wp2_with (first
          | (clear x0 x1 x2 x3 x4 x5 x6 x7; refine eB M2 8 #[.int .u64 0, .int .i64 0, .int .i64 0, .int .i64 0, .int .i64 0, .int .i64 0, .int .i64 0, .int .i64 0] 36 ?_; clear M2; intro g8 w8 M3)
          | (refine eR M3 36 8 0 (evC (rd_T36 l (i : Int))) ?_; clear M3; intro w_ M4)
          | (refine eL M4 24 0 hu36 ?_))
      refine (line_mem M4 (rd_T36 l (i : Int)) (HG i bK) (HTL i) hB0 HTB.out HLN.out).mono ?_
      rintro e W25 ⟨B25, c25, rfl, M5⟩
      clear M4
      go_wp2_with (first
          | (refine eLit .u8 M5 26 5 [10] ?_; clear M5; intro A26 c26 w26 M_; have M6 := Aside0.mk (Mem.swap01 M_.out); clear M_)
          | (refine eApp (ik := .u8) (bytes := 1) M6 27 (Kd.R_reads' (M6.out.ownAt 1 rfl)).2.2 (HTA i bK) (bI (textE (l.take (i + 1)))) (HTS i bK) ?_; intro B27 c27 w27 M_; have M7 := Aside0.mk ((Mem.pick1 M_.out 0 rfl).forget 0); clear M_ M6))
      go_roundw
      case rel => exact ⟨i + 1, B27, c27, by omega, rfl, by go_num, M7.out⟩
      case measure => simp [intOf]; omega
    · have p2 : ¬ (i : Int) < l.length := by omega
      have hil : i = l.length := by omega
      subst hil
      rw [List.take_length] at M2 ⊢
      go_wp2_with (first
          | (refine eStr (e := 5) (m := textE l) 30 (Kd.R_reads' M2.out.own).2.2 ?_))
      go_ret2
      exact ⟨by simp only [if_pos bE]; subst bE; rfl, M2.out.below⟩
  · have e0 : (r2 != 0) = true := bne_iff_ne.mpr bE
    go_wp2_with fail
    go_ret2
    exact ⟨by simp only [if_neg bE]; rfl, M1.out.below⟩
end Go.Proofs.YtphbepddhhdhmaaDoor.Hof
end

section
-- laid by a program of this session (wip/gp.sh)
namespace Go.Proofs.YtphbepddhhdhmaaDoor.GA
open Go.RowKit Go.Proofs.YtphbepddhhdhmaaDoorW.PrintWords Go.Proofs.YtphbepddhhdhmaaDoorW.PrintLast Go.Proofs.YtphbepddhhdhmaaDoorW.PrintMore
attribute [local go_sem] max2_int min2_int max_two min_two max_three min_three max_four min_four   -- for this text's walks alone
set_option linter.unusedVariables false
set_option linter.unusedSimpArgs false

/-! ### rotaref25_number: function 49 -/
def rotaref25_number.f : Nat → Int → Option (ByteArray)
  | 0, _ => none
  | k + 1, a0 => if a0 < 10 then (some (strOfNums (([(IntKind.u64.wrap (48 + a0)) % 256] : List Int)))) else ((rotaref25_number.f k (IntKind.u64.wrap (Int.tdiv a0 10))).bind fun t291 => ((some (([(IntKind.u64.wrap (48 + (Int.tmod a0 10))) % 256] : List Int) : List Int)).bind fun y292 => (if t291.size + (strOfNums y292).size ≤ 9223372036854775807 then (some (t291 ++ (strOfNums y292))) else (none))))
theorem rotaref25_number.mono_l : ∀ k, (∀ y0, LeO (rotaref25_number.f k y0) (rotaref25_number.f (k + 1) y0))
  | 0 => fun _ r h => by simp [rotaref25_number.f] at h
  | k + 1 => by
    have ih0 := rotaref25_number.mono_l k
    · intro y0
      unfold rotaref25_number.f
      repeat' first
      | (with_reducible exact ih0 _)
      | (with_reducible exact LeO.refl _)
      | (with_reducible exact LeO.none _)
      | (with_reducible refine LeO.ite ?_ ?_)
      | (with_reducible refine LeO.bind ?_ (fun _ => ?_))
      | exact ih0 _
      | exact LeO.none _
      | refine LeO.ite ?_ ?_
      | refine LeO.bind ?_ (fun _ => ?_)
theorem rotaref25_number.mono : ∀ a0 k, LeO (rotaref25_number.f k a0) (rotaref25_number.f (k + 1) a0) := by
  intro a0 k
  have ih0 := rotaref25_number.mono_l k
  exact ih0 a0
def rotaref25_number.T3 : Bool × List (List Nat × List Nat) := (true, [([], []), ([0], [0]), ([1], [1]), ([], []), ([3], [3]), ([4], [4]), ([5], [5]), ([6], [6]), ([7], [7]), ([2, 8], [2, 8]), ([9, 2, 0, 1, 2, 3, 4, 5, 6, 7, 8, 9], [9])])
def rotaref25_number.B3 : List Nat := [0, 1, 3, 0, 8, 24, 56, 120, 248, 511, 1023]
theorem rotaref25_number.tab3 : rtab .any (opsOf Tryd.f49 3) = rotaref25_number.T3 := by kernel_rfl
theorem rotaref25_number.bits3 : waitsOk rotaref25_number.T3.2 rotaref25_number.B3 = true := by kernel_rfl
set_option maxHeartbeats 8000000 in
set_option maxRecDepth 100000 in
theorem rotaref25_number.calls (k : Nat) : ∀ (a0 : Int) (r : ByteArray) (w : World) (h : rotaref25_number.f k a0 = some r),
    Calls Tryd.prog 49 #[.int .u64 a0] w fun e w' => e = .returned (.string r) ∧ Below w.heap.size w w' := by
  induction k using Nat.strongRecOn with
  | _ k ih =>
  intro a0 r w h
  cases k with
  | zero => exact absurd h (by simp [rotaref25_number.f])
  | succ k =>
  simp only [rotaref25_number.f] at h
  have HB := Aside0.mk (Below.refl w.heap.size w)
  have H : (if a0 < 10 then (some (strOfNums (([(IntKind.u64.wrap (48 + a0)) % 256] : List Int)))) else ((rotaref25_number.f k (IntKind.u64.wrap (Int.tdiv a0 10))).bind fun t291 => ((some (([(IntKind.u64.wrap (48 + (Int.tmod a0 10))) % 256] : List Int) : List Int)).bind fun y292 => (if t291.size + (strOfNums y292).size ≤ 9223372036854775807 then (some (t291 ++ (strOfNums y292))) else (none))))) = some r := h
  clear h
  by_cases c2 : a0 < 10
  · rw [if_pos c2] at H
    have c2b0 : decide (a0 < 10) = true := decide_eq_true c2
    clear c2
    obtain ⟨y288, hy288⟩ : ∃ y_ : List Int, y_ = (([(IntKind.u64.wrap (48 + a0)) % 256] : List Int)) := ⟨_, rfl⟩
    replace H : (some (strOfNums y288)) = some r := by first | (rw [hy288]; with_reducible exact H) | (have H2_ := (Option.bind_some _ _).symm.trans H; rw [hy288]; with_reducible exact H2_) | (have H2_ := (Option.bind_some _ _).symm.trans H; with_reducible exact H2_) | with_reducible exact H | (rw [hy288]; exact H) | exact H
    have Ny288 := Aside0.mk hy288
    clear hy288
    obtain rfl := Option.some.inj H
    go_enter Tryd.func49, Tryd.ntmps49
    go_wp2_with (first | ((with_reducible refine gate_dst (N := 8) rfl ?_); refine Kd.R_lit (Kd.int .u8) _ 5 ?hg (N := 8) ?hd (xs := ([(IntKind.u64.wrap (48 + a0)) % 256] : List Int)) (inner := [.int .u8 ((IntKind.u64.wrap (48 + a0)) % 256)]) (ok := fun _ => True) (okp := fun _ => True) ?hr ?hp (fun _ hk => hk) trivial (Below.refl _ _) (Nat.le_refl _) (by simp) ?_; (case hd => rfl); (case hg => rfl); (case hr => first | (go_simp; done) | (go_simp; rfl)); (case hp => exact (Reps.one (show Kd.M (Kd.int .u8) _ _ _ ((IntKind.u64.wrap (48 + a0)) % 256) [.int .u8 ((IntKind.u64.wrap (48 + a0)) % 256)] from rfl) (Reps.none _ _))); intro v289 w3 ho4 hb hg_ hnew_; clear hg_ hnew_; (first | rw [← Ny288.out] at ho4 | (simp only [Int.reduceToNat] at ho4; rw [← Ny288.out] at ho4)); have n0_ := Aside0.mk (Kd.R_lower ho4 (below_size (by repeat (first | (with_reducible first | exact HB.out | apply below_alloc | apply pw_below_drewN | apply below_drew1) | exact HB.out)))); have n1_ := Aside0.mk (below_step (by repeat (first | (with_reducible first | exact HB.out | apply below_alloc | apply pw_below_drewN | apply below_drew1) | exact HB.out)) hb); clear HB; have HO290 := n0_; have HB := n1_; clear n0_ n1_; clear hb ho4; have hcv5 := own_string (P := Tryd.prog) Tryd.underlying58 Tryd.underlying5 Tryd.underlying9 (Kd.own_of_R HO290.out)))
    go_ret
    exact ⟨by first | rfl | (simp [errW_none, errW_some] <;> rfl) | (simp [*, errW_none, errW_some] <;> rfl), by repeat (first | (with_reducible first | exact HB.out | apply below_alloc | apply pw_below_drewN | apply below_drew1) | exact HB.out)⟩
  · rw [if_neg c2] at H
    have c2b0 : decide (a0 < 10) = false := decide_eq_false c2
    clear c2
    replace H := Option.bind_eq_some_iff.mp H
    obtain ⟨t291, A60, H⟩ := H
    replace H : ((some (([(IntKind.u64.wrap (48 + (Int.tmod a0 10))) % 256] : List Int) : List Int)).bind fun y292 => (if t291.size + (strOfNums y292).size ≤ 9223372036854775807 then (some (t291 ++ (strOfNums y292))) else (none))) = some r := H
    have A6 := Aside0.mk A60
    clear A60
    obtain ⟨y292, hy292⟩ : ∃ y_ : List Int, y_ = (([(IntKind.u64.wrap (48 + (Int.tmod a0 10))) % 256] : List Int)) := ⟨_, rfl⟩
    replace H : (if t291.size + (strOfNums y292).size ≤ 9223372036854775807 then (some (t291 ++ (strOfNums y292))) else (none)) = some r := by first | (rw [hy292]; with_reducible exact H) | (have H2_ := (Option.bind_some _ _).symm.trans H; rw [hy292]; with_reducible exact H2_) | (have H2_ := (Option.bind_some _ _).symm.trans H; with_reducible exact H2_) | with_reducible exact H | (rw [hy292]; exact H) | exact H
    have Ny292 := Aside0.mk hy292
    clear hy292
    by_cases c7 : t291.size + (strOfNums y292).size ≤ 9223372036854775807
    · rw [if_pos c7] at H
      have c7b0 := eq_true c7
      have c7b1 : decide (t291.size + (strOfNums y292).size ≤ 9223372036854775807) = true := decide_eq_true c7
      try have c7b2 : (9223372036854775807 < t291.size + (strOfNums y292).size) = False := eq_false (Nat.not_lt.2 c7)
      obtain rfl := Option.some.inj H
      go_enter Tryd.func49, Tryd.ntmps49
      try go_wp2
      have n0_ := Aside0.mk (below_drew1 HB.out)
      clear HB
      have HB := n0_
      clear n0_
      refine start_ (n := 11) (S := fun w' => True) (ds := []) #[false, false, false, false, false, false, false, false, false, false, false] (by kernel_rfl) rfl rfl trivial (fun hHeld => ?_); refine with_tabW rotaref25_number.tab3 rotaref25_number.bits3 (fun HT_ HW_ => ?_)
      generalize w.drew = w8 at HB hHeld ⊢
      refine pure_ (i := 0) (N := some 10) (v := ?_) (a' := ?_) #[true, false, false, false, false, false, false, false, false, false, false] rfl rfl (any_of HT_.out (by kernel_rfl)) (fun _ _ _ h => h) (Or.inl ⟨by rfl, ?_⟩) ?_ ?_
      rotate_left
      · intro w'
        go_simp
        with_reducible rfl
      rotate_left
      · simp only [Act.put, List.setIfInBounds_toArray, List.set_cons_zero, List.set_cons_succ, i64_w, i32_w]
        rfl
      refine pure_ (i := 1) (N := some 11) (v := ?_) (a' := ?_) #[true, true, false, false, false, false, false, false, false, false, false] rfl rfl (any_of HT_.out (by kernel_rfl)) (fun _ _ _ h => h) (Or.inl ⟨by rfl, ?_⟩) ?_ ?_
      rotate_left
      · intro w'
        go_simp
        with_reducible rfl
      rotate_left
      · simp only [Act.put, List.setIfInBounds_toArray, List.set_cons_zero, List.set_cons_succ, i64_w, i32_w]
        rfl
      refine pure_ (i := 3) (N := some 13) (v := ?_) (a' := ?_) #[true, true, false, true, false, false, false, false, false, false, false] rfl rfl (any_of HT_.out (by kernel_rfl)) (fun _ _ _ h => h) (Or.inl ⟨by rfl, ?_⟩) ?_ ?_
      rotate_left
      · intro w'
        go_simp
        with_reducible rfl
      rotate_left
      · simp only [Act.put, List.setIfInBounds_toArray, List.set_cons_zero, List.set_cons_succ, i64_w, i32_w]
        rfl
      refine pure_ (i := 4) (N := some 14) (v := ?_) (a' := ?_) #[true, true, false, true, true, false, false, false, false, false, false] rfl rfl (any_of HT_.out (by kernel_rfl)) (fun _ _ _ h => h) (Or.inl ⟨by rfl, ?_⟩) ?_ ?_
      rotate_left
      · intro w'
        go_simp
        with_reducible rfl
      rotate_left
      · simp only [Act.put, List.setIfInBounds_toArray, List.set_cons_zero, List.set_cons_succ, i64_w, i32_w]
        rfl
      refine pure_ (i := 5) (N := some 15) (v := ?_) (a' := ?_) #[true, true, false, true, true, true, false, false, false, false, false] rfl rfl (any_of HT_.out (by kernel_rfl)) (fun _ _ _ h => h) (Or.inl ⟨by rfl, ?_⟩) ?_ ?_
      rotate_left
      · intro w'
        go_simp
        with_reducible rfl
      rotate_left
      · simp only [Act.put, List.setIfInBounds_toArray, List.set_cons_zero, List.set_cons_succ, i64_w, i32_w]
        rfl
      refine pure_ (i := 6) (N := some 16) (v := ?_) (a' := ?_) #[true, true, false, true, true, true, true, false, false, false, false] rfl rfl (any_of HT_.out (by kernel_rfl)) (fun _ _ _ h => h) (Or.inl ⟨by rfl, ?_⟩) ?_ ?_
      rotate_left
      · intro w'
        go_simp
        with_reducible rfl
      rotate_left
      · simp only [Act.put, List.setIfInBounds_toArray, List.set_cons_zero, List.set_cons_succ, i64_w, i32_w]
        rfl
      refine join_ (σ := Value) 2 #[true, true, true, true, true, true, true, true, true, false, false] (fun s_ => [(12, .string t291), (17, s_), (18, .string (strOfNums y292))]) (fun s_ w' => (Kd.R (Kd.int .u8) 5 w' w.heap.size (fun _ => True) s_ y292) ∧ (Below w.heap.size w w')) ?_ ?_
      rotate_left
      · intro hCont
        refine two_ (i := 2) (j := 7) (Ni := some 12) (Nj := some 17) #[true, true, true, true, true, true, true, false, false, false, false] #[true, true, false, true, true, true, true, true, false, false, false] rfl rfl rfl rfl (two_of HT_.out (by kernel_rfl)) (by decide) (by decide) (fun K hK => ?_) (fun K hK => ?_)
        · skip
          refine goes_ Tryd.func49 (by kernel_rfl) rfl #[.int .u64 (IntKind.u64.wrap (Int.tdiv a0 10))] (by rfl) rfl rfl (by (try simp only [List.map_toArray, List.map_cons, List.map_nil]); first | done | rfl | (simp only [List.length_drop, List.length_take]; rfl)) ?_
          with_reducible refine (ih k (by omega) (IntKind.u64.wrap (Int.tdiv a0 10)) t291 _ A6.out).mono ?_
          rintro e w9 ⟨rfl, hb⟩
          refine ⟨_, rfl, ?_⟩
          have n0_ := Aside0.mk (below_step (by repeat (first | (with_reducible first | exact HB.out | apply below_alloc | apply pw_below_drewN | apply below_drew1) | exact HB.out)) hb)
          clear HB
          have HB := n0_
          clear n0_
          (try clear hb)
          (try clear hb2)
          (try clear hk)
          (try clear hi)
          refine hK.out _ _ trivial (fun hHeld => ?_)
          clear hK K
          refine norm_ (a' := ?_) ?_ ?_
          rotate_left
          · show Act.put _ (some 12) _ = _
            simp only [Act.put, List.setIfInBounds_toArray, List.set_cons_zero, List.set_cons_succ, i64_w, i32_w]
            rfl
          refine one_ (i := 7) (N := some 17) #[true, true, true, true, true, true, true, true, false, false, false] rfl rfl (one_of HT_.out (by kernel_rfl)) (by decide) (fun K hK => ?_)
          refine Kd.R_lit_step (Kd.int .u8) _ 5 ?hg (N := 17) ?hd (xs := ([(IntKind.u64.wrap (48 + (Int.tmod a0 10))) % 256] : List Int)) (inner := [.int .u8 ((IntKind.u64.wrap (48 + (Int.tmod a0 10))) % 256)]) (ok := fun _ => True) (okp := fun _ => True) ?hr ?hp (fun _ hk => hk) trivial (Below.refl _ _) (Nat.le_refl _) (by simp) ?_; (case hd => rfl); (case hg => rfl); (case hr => first | (go_simp; done) | (go_simp; rfl)); (case hp => exact (Reps.one (show Kd.M (Kd.int .u8) _ _ _ ((IntKind.u64.wrap (48 + (Int.tmod a0 10))) % 256) [.int .u8 ((IntKind.u64.wrap (48 + (Int.tmod a0 10))) % 256)] from rfl) (Reps.none _ _)))
          intro v293 w10 ho11 hb hg_ hnew_
          clear hg_ hnew_
          (first | rw [← Ny292.out] at ho11 | (simp only [Int.reduceToNat] at ho11; rw [← Ny292.out] at ho11))
          have n0_ := Aside0.mk (Kd.R_lower ho11 (below_size (by repeat (first | (with_reducible first | exact HB.out | apply below_alloc | apply pw_below_drewN | apply below_drew1) | exact HB.out))))
          have n1_ := Aside0.mk (below_step (by repeat (first | (with_reducible first | exact HB.out | apply below_alloc | apply pw_below_drewN | apply below_drew1) | exact HB.out)) hb)
          clear HB
          have HO294 := n0_
          have HB := n1_
          clear n0_ n1_
          clear hb ho11
          refine hK.out _ _ trivial (fun hHeld => ?_)
          clear hK K
          refine norm_ (a' := ?_) ?_ ?_
          rotate_left
          · show Act.put _ (some 17) _ = _
            simp only [Act.put, List.setIfInBounds_toArray, List.set_cons_zero, List.set_cons_succ, i64_w, i32_w]
            rfl
          refine one_ (i := 8) (N := some 18) #[true, true, true, true, true, true, true, true, true, false, false] rfl rfl (one_of HT_.out (by kernel_rfl)) (by decide) (fun K hK => ?_)
          have hcv12 := own_string (P := Tryd.prog) Tryd.underlying58 Tryd.underlying5 Tryd.underlying9 (Kd.own_of_R HO294.out)
          refine value_ (w1 := ?_) (v := ?_) (by rfl) rfl ?_ ?_
          rotate_left 2
          · go_simp
            constructor
            · rfl
            · rfl
          clear hcv12
          refine hK.out _ _ trivial (fun hHeld => ?_)
          clear hK K
          refine norm_ (a' := ?_) ?_ ?_
          rotate_left
          · show Act.put _ (some 18) _ = _
            simp only [Act.put, List.setIfInBounds_toArray, List.set_cons_zero, List.set_cons_succ, i64_w, i32_w]
            rfl
          exact norm_ (by simp only [putAll, Act.put, List.setIfInBounds_toArray, List.set_cons_zero, List.set_cons_succ]) (hCont (v293) _ ⟨(by (with_reducible repeat (first | apply Kd.R_alloc | apply Kd.R_drewN | apply Kd.R_drew)); exact HO294.out), (by repeat (first | (with_reducible first | exact HB.out | apply below_alloc | apply pw_below_drewN | apply below_drew1) | exact HB.out))⟩)
        · skip
          refine Kd.R_lit_step (Kd.int .u8) _ 5 ?hg (N := 17) ?hd (xs := ([(IntKind.u64.wrap (48 + (Int.tmod a0 10))) % 256] : List Int)) (inner := [.int .u8 ((IntKind.u64.wrap (48 + (Int.tmod a0 10))) % 256)]) (ok := fun _ => True) (okp := fun _ => True) ?hr ?hp (fun _ hk => hk) trivial (Below.refl _ _) (Nat.le_refl _) (by simp) ?_; (case hd => rfl); (case hg => rfl); (case hr => first | (go_simp; done) | (go_simp; rfl)); (case hp => exact (Reps.one (show Kd.M (Kd.int .u8) _ _ _ ((IntKind.u64.wrap (48 + (Int.tmod a0 10))) % 256) [.int .u8 ((IntKind.u64.wrap (48 + (Int.tmod a0 10))) % 256)] from rfl) (Reps.none _ _)))
          intro v293 w9 ho10 hb hg_ hnew_
          clear hg_ hnew_
          (first | rw [← Ny292.out] at ho10 | (simp only [Int.reduceToNat] at ho10; rw [← Ny292.out] at ho10))
          have n0_ := Aside0.mk (Kd.R_lower ho10 (below_size (by repeat (first | (with_reducible first | exact HB.out | apply below_alloc | apply pw_below_drewN | apply below_drew1) | exact HB.out))))
          have n1_ := Aside0.mk (below_step (by repeat (first | (with_reducible first | exact HB.out | apply below_alloc | apply pw_below_drewN | apply below_drew1) | exact HB.out)) hb)
          clear HB
          have HO294 := n0_
          have HB := n1_
          clear n0_ n1_
          clear hb ho10
          refine hK.out _ _ trivial (fun hHeld => ?_)
          clear hK K
          refine norm_ (a' := ?_) ?_ ?_
          rotate_left
          · show Act.put _ (some 17) _ = _
            simp only [Act.put, List.setIfInBounds_toArray, List.set_cons_zero, List.set_cons_succ, i64_w, i32_w]
            rfl
          refine two_ (i := 2) (j := 8) (Ni := some 12) (Nj := some 18) #[true, true, true, true, true, true, true, true, false, false, false] #[true, true, false, true, true, true, true, true, true, false, false] rfl rfl rfl rfl (two_of HT_.out (by kernel_rfl)) (by decide) (by decide) (fun K hK => ?_) (fun K hK => ?_)
          · skip
            refine goes_ Tryd.func49 (by kernel_rfl) rfl #[.int .u64 (IntKind.u64.wrap (Int.tdiv a0 10))] (by rfl) rfl rfl (by (try simp only [List.map_toArray, List.map_cons, List.map_nil]); first | done | rfl | (simp only [List.length_drop, List.length_take]; rfl)) ?_
            with_reducible refine (ih k (by omega) (IntKind.u64.wrap (Int.tdiv a0 10)) t291 _ A6.out).mono ?_
            rintro e w11 ⟨rfl, hb⟩
            refine ⟨_, rfl, ?_⟩
            have n0_ := Aside0.mk (Kd.R_below (by (with_reducible repeat (first | apply Kd.R_alloc | apply Kd.R_drewN | apply Kd.R_drew)); exact HO294.out) hb)
            have n1_ := Aside0.mk (below_step (by repeat (first | (with_reducible first | exact HB.out | apply below_alloc | apply pw_below_drewN | apply below_drew1) | exact HB.out)) hb)
            clear HO294
            clear HB
            have HO294 := n0_
            have HB := n1_
            clear n0_ n1_
            (try clear hb)
            (try clear hb2)
            (try clear hk)
            (try clear hi)
            refine hK.out _ _ trivial (fun hHeld => ?_)
            clear hK K
            refine norm_ (a' := ?_) ?_ ?_
            rotate_left
            · show Act.put _ (some 12) _ = _
              simp only [Act.put, List.setIfInBounds_toArray, List.set_cons_zero, List.set_cons_succ, i64_w, i32_w]
              rfl
            refine one_ (i := 8) (N := some 18) #[true, true, true, true, true, true, true, true, true, false, false] rfl rfl (one_of HT_.out (by kernel_rfl)) (by decide) (fun K hK => ?_)
            have hcv12 := own_string (P := Tryd.prog) Tryd.underlying58 Tryd.underlying5 Tryd.underlying9 (Kd.own_of_R HO294.out)
            refine value_ (w1 := ?_) (v := ?_) (by rfl) rfl ?_ ?_
            rotate_left 2
            · go_simp
              constructor
              · rfl
              · rfl
            clear hcv12
            refine hK.out _ _ trivial (fun hHeld => ?_)
            clear hK K
            refine norm_ (a' := ?_) ?_ ?_
            rotate_left
            · show Act.put _ (some 18) _ = _
              simp only [Act.put, List.setIfInBounds_toArray, List.set_cons_zero, List.set_cons_succ, i64_w, i32_w]
              rfl
            exact norm_ (by simp only [putAll, Act.put, List.setIfInBounds_toArray, List.set_cons_zero, List.set_cons_succ]) (hCont (v293) _ ⟨(by (with_reducible repeat (first | apply Kd.R_alloc | apply Kd.R_drewN | apply Kd.R_drew)); exact HO294.out), (by repeat (first | (with_reducible first | exact HB.out | apply below_alloc | apply pw_below_drewN | apply below_drew1) | exact HB.out))⟩)
          · skip
            have hcv11 := own_string (P := Tryd.prog) Tryd.underlying58 Tryd.underlying5 Tryd.underlying9 (Kd.own_of_R HO294.out)
            refine value_ (w1 := ?_) (v := ?_) (by rfl) rfl ?_ ?_
            rotate_left 2
            · go_simp
              constructor
              · rfl
              · rfl
            clear hcv11
            refine hK.out _ _ trivial (fun hHeld => ?_)
            clear hK K
            refine norm_ (a' := ?_) ?_ ?_
            rotate_left
            · show Act.put _ (some 18) _ = _
              simp only [Act.put, List.setIfInBounds_toArray, List.set_cons_zero, List.set_cons_succ, i64_w, i32_w]
              rfl
            refine one_ (i := 2) (N := some 12) #[true, true, true, true, true, true, true, true, true, false, false] rfl rfl (one_of HT_.out (by kernel_rfl)) (by decide) (fun K hK => ?_)
            refine goes_ Tryd.func49 (by kernel_rfl) rfl #[.int .u64 (IntKind.u64.wrap (Int.tdiv a0 10))] (by rfl) rfl rfl (by (try simp only [List.map_toArray, List.map_cons, List.map_nil]); first | done | rfl | (simp only [List.length_drop, List.length_take]; rfl)) ?_
            with_reducible refine (ih k (by omega) (IntKind.u64.wrap (Int.tdiv a0 10)) t291 _ A6.out).mono ?_
            rintro e w12 ⟨rfl, hb⟩
            refine ⟨_, rfl, ?_⟩
            have n0_ := Aside0.mk (Kd.R_below (by (with_reducible repeat (first | apply Kd.R_alloc | apply Kd.R_drewN | apply Kd.R_drew)); exact HO294.out) hb)
            have n1_ := Aside0.mk (below_step (by repeat (first | (with_reducible first | exact HB.out | apply below_alloc | apply pw_below_drewN | apply below_drew1) | exact HB.out)) hb)
            clear HO294
            clear HB
            have HO294 := n0_
            have HB := n1_
            clear n0_ n1_
            (try clear hb)
            (try clear hb2)
            (try clear hk)
            (try clear hi)
            refine hK.out _ _ trivial (fun hHeld => ?_)
            clear hK K
            refine norm_ (a' := ?_) ?_ ?_
            rotate_left
            · show Act.put _ (some 12) _ = _
              simp only [Act.put, List.setIfInBounds_toArray, List.set_cons_zero, List.set_cons_succ, i64_w, i32_w]
              rfl
            exact norm_ (by simp only [putAll, Act.put, List.setIfInBounds_toArray, List.set_cons_zero, List.set_cons_succ]) (hCont (v293) _ ⟨(by (with_reducible repeat (first | apply Kd.R_alloc | apply Kd.R_drewN | apply Kd.R_drew)); exact HO294.out), (by repeat (first | (with_reducible first | exact HB.out | apply below_alloc | apply pw_below_drewN | apply below_drew1) | exact HB.out))⟩)
      rintro v293 w13 ⟨h0_, h1_⟩
      have n0_ : Aside0 (Kd.R (Kd.int .u8) 5 w13 w.heap.size (fun _ => True) v293 y292) := ⟨h0_⟩
      have n1_ : Aside0 (Below w.heap.size w w13) := ⟨h1_⟩
      clear HB
      clear h0_ h1_
      have HO294 := n0_
      have HB := n1_
      clear n0_ n1_
      have hHeld := trivial
      refine norm_ (a' := ?_) ?_ ?_
      rotate_left
      · simp only [putAll, Act.put, List.setIfInBounds_toArray, List.set_cons_zero, List.set_cons_succ]
        rfl
      refine pure_ (i := 9) (N := some 19) (v := ?_) (a' := ?_) #[true, true, true, true, true, true, true, true, true, true, false] rfl rfl (any_of HT_.out (by kernel_rfl)) (fun _ _ _ h => h) (Or.inl ⟨by rfl, ?_⟩) ?_ ?_
      rotate_left
      · intro w'
        go_simp
        with_reducible rfl
      rotate_left
      · simp only [Act.put, List.setIfInBounds_toArray, List.set_cons_zero, List.set_cons_succ, i64_w, i32_w]
        rfl
      refine pure_ (i := 10) (N := some 2) (v := ?_) (a' := ?_) #[true, true, true, true, true, true, true, true, true, true, true] rfl rfl (any_of HT_.out (by kernel_rfl)) (fun _ _ _ h => h) (Or.inl ⟨by rfl, ?_⟩) ?_ ?_
      rotate_left
      · intro w'
        go_simp
        with_reducible rfl
      rotate_left
      · simp only [Act.put, List.setIfInBounds_toArray, List.set_cons_zero, List.set_cons_succ, i64_w, i32_w]
        rfl
      refine done_ (done_of HT_.out (by kernel_rfl)) ?_
      try go_wp2
      go_ret
      exact ⟨by first | rfl | (simp [errW_none, errW_some] <;> rfl) | (simp [*, errW_none, errW_some] <;> rfl), by repeat (first | (with_reducible first | exact HB.out | apply below_alloc | apply pw_below_drewN | apply below_drew1) | exact HB.out)⟩
    · rw [if_neg c7] at H
      exact absurd H (by simp)

end Go.Proofs.YtphbepddhhdhmaaDoor.GA
end

section
-- laid by a program of this session (wip/gp.sh)
namespace Go.Proofs.YtphbepddhhdhmaaDoor.GA
open Go.RowKit Go.Proofs.YtphbepddhhdhmaaDoorW.PrintWords Go.Proofs.YtphbepddhhdhmaaDoorW.PrintLast Go.Proofs.YtphbepddhhdhmaaDoorW.PrintMore
attribute [local go_sem] max2_int min2_int max_two min_two max_three min_three max_four min_four   -- for this text's walks alone
set_option linter.unusedVariables false
set_option linter.unusedSimpArgs false

/-! ### rotaref19_decimal: function 61 -/
def rotaref19_decimal.l0 : Nat → Int → ByteArray → Option (ByteArray)
  | 0, _, _ => none
  | k + 1, x0, x3 => (some (([(IntKind.u64.wrap (48 + (Int.tmod x0 10))) % 256] : List Int) : List Int)).bind fun y295 => (if (strOfNums y295).size + x3.size ≤ 9223372036854775807 then (if (IntKind.u64.wrap (Int.tdiv x0 10)) = 0 then (some ((strOfNums y295) ++ x3)) else (rotaref19_decimal.l0 k (IntKind.u64.wrap (Int.tdiv x0 10)) ((strOfNums y295) ++ x3))) else (none))
def rotaref19_decimal.f (k : Nat) (a0 : Int) : Option (ByteArray) := rotaref19_decimal.l0 k a0 (⟨#[]⟩ : ByteArray)
theorem rotaref19_decimal.mono_l : ∀ k, (∀ y0 y1, LeO (rotaref19_decimal.l0 k y0 y1) (rotaref19_decimal.l0 (k + 1) y0 y1))
  | 0 => fun _ _ r h => by simp [rotaref19_decimal.l0] at h
  | k + 1 => by
    have ih0 := rotaref19_decimal.mono_l k
    · intro y0 y1
      unfold rotaref19_decimal.l0
      repeat' first
      | (with_reducible exact ih0 _ _)
      | (with_reducible exact LeO.refl _)
      | (with_reducible exact LeO.none _)
      | (with_reducible refine LeO.ite ?_ ?_)
      | (with_reducible refine LeO.bind ?_ (fun _ => ?_))
      | exact ih0 _ _
      | exact LeO.none _
      | refine LeO.ite ?_ ?_
      | refine LeO.bind ?_ (fun _ => ?_)
theorem rotaref19_decimal.mono : ∀ a0 k, LeO (rotaref19_decimal.f k a0) (rotaref19_decimal.f (k + 1) a0) := by
  intro a0 k
  have ih0 := rotaref19_decimal.mono_l k
  unfold rotaref19_decimal.f
  repeat' first
      | (with_reducible exact ih0 _ _)
      | (with_reducible exact LeO.refl _)
      | (with_reducible exact LeO.none _)
      | (with_reducible refine LeO.ite ?_ ?_)
      | (with_reducible refine LeO.bind ?_ (fun _ => ?_))
      | exact ih0 _ _
      | exact LeO.none _
      | refine LeO.ite ?_ ?_
      | refine LeO.bind ?_ (fun _ => ?_)
set_option maxHeartbeats 8000000 in
set_option maxRecDepth 100000 in
theorem rotaref19_decimal.calls (k : Nat) (a0 : Int) (r : ByteArray) (w : World) (h : rotaref19_decimal.f k a0 = some r) :
    Calls Tryd.prog 61 #[.int .u64 a0] w fun e w' => e = .returned (.string r) ∧ Below w.heap.size w w' := by
  have HB := Aside0.mk (Below.refl w.heap.size w)
  have H : (rotaref19_decimal.l0 k a0 (⟨#[]⟩ : ByteArray)) = some r := h
  clear h
  have H' := Aside0.mk H
  clear H
  go_enter Tryd.func61, Tryd.ntmps61
  go_wp2
  go_loopg [0, 3] k (fun kq v0 v3 w' => ∃ (x0_1 : Int) (x3_1 : ByteArray), v0 = .int .u64 x0_1 ∧ v3 = .string x3_1 ∧ Aside0 (rotaref19_decimal.l0 kq x0_1 x3_1 = some r) ∧ Aside0 (kq ≤ k) ∧ Aside0 (Below w.heap.size w w'))
  case atStart => exact ⟨(a0), ((⟨#[]⟩ : ByteArray)), (by first | rfl | (simp; done) | (simp [*]; done)), (by first | rfl | (simp; done) | (simp [*]; done)), H', ⟨Nat.le_refl _⟩, ⟨by repeat (first | (with_reducible first | exact HB.out | apply below_alloc | apply pw_below_drewN | apply below_drew1) | exact HB.out)⟩⟩
  case round =>
    clear H'
    obtain ⟨x0_1, x3_1, rfl, rfl, HA, HK1, HB⟩ := hrel
    cases gk with
    | zero => exact absurd HA.out (by simp [rotaref19_decimal.l0])
    | succ k1 =>
      have H := HA.out
      clear HA
      simp only [rotaref19_decimal.l0] at H
      obtain ⟨y295, hy295⟩ : ∃ y_ : List Int, y_ = (([(IntKind.u64.wrap (48 + (Int.tmod x0_1 10))) % 256] : List Int)) := ⟨_, rfl⟩
      replace H : (if (strOfNums y295).size + x3_1.size ≤ 9223372036854775807 then (if (IntKind.u64.wrap (Int.tdiv x0_1 10)) = 0 then (some ((strOfNums y295) ++ x3_1)) else (rotaref19_decimal.l0 k1 (IntKind.u64.wrap (Int.tdiv x0_1 10)) ((strOfNums y295) ++ x3_1))) else (none)) = some r := by first | (rw [hy295]; with_reducible exact H) | (have H2_ := (Option.bind_some _ _).symm.trans H; rw [hy295]; with_reducible exact H2_) | (have H2_ := (Option.bind_some _ _).symm.trans H; with_reducible exact H2_) | with_reducible exact H | (rw [hy295]; exact H) | exact H
      have Ny295 := Aside0.mk hy295
      clear hy295
      by_cases c2 : (strOfNums y295).size + x3_1.size ≤ 9223372036854775807
      · rw [if_pos c2] at H
        have c2b0 := eq_true c2
        have c2b1 : decide ((strOfNums y295).size + x3_1.size ≤ 9223372036854775807) = true := decide_eq_true c2
        try have c2b2 : (9223372036854775807 < (strOfNums y295).size + x3_1.size) = False := eq_false (Nat.not_lt.2 c2)
        by_cases c3 : (IntKind.u64.wrap (Int.tdiv x0_1 10)) = 0
        · rw [if_pos c3] at H
          have c3b0 : ((IntKind.u64.wrap (Int.tdiv x0_1 10)) == 0) = true := beq_iff_eq.mpr c3
          have c3b1 : ((IntKind.u64.wrap (Int.tdiv x0_1 10)) != 0) = false := bne_eq_false_iff_eq.mpr c3
          clear c3
          obtain rfl := Option.some.inj H
          go_wp2_with (first | ((with_reducible refine gate_dst (N := 8) rfl ?_); refine Kd.R_lit (Kd.int .u8) _ 5 ?hg (N := 8) ?hd (xs := ([(IntKind.u64.wrap (48 + (Int.tmod x0_1 10))) % 256] : List Int)) (inner := [.int .u8 ((IntKind.u64.wrap (48 + (Int.tmod x0_1 10))) % 256)]) (ok := fun _ => True) (okp := fun _ => True) ?hr ?hp (fun _ hk => hk) trivial (Below.refl _ _) (Nat.le_refl _) (by simp) ?_; (case hd => rfl); (case hg => rfl); (case hr => first | (go_simp; done) | (go_simp; rfl)); (case hp => exact (Reps.one (show Kd.M (Kd.int .u8) _ _ _ ((IntKind.u64.wrap (48 + (Int.tmod x0_1 10))) % 256) [.int .u8 ((IntKind.u64.wrap (48 + (Int.tmod x0_1 10))) % 256)] from rfl) (Reps.none _ _))); intro v296 w4 ho5 hb hg_ hnew_; clear hg_ hnew_; (first | rw [← Ny295.out] at ho5 | (simp only [Int.reduceToNat] at ho5; rw [← Ny295.out] at ho5)); have n0_ := Aside0.mk (Kd.R_lower ho5 (below_size (by repeat (first | (with_reducible first | exact HB.out | apply below_alloc | apply pw_below_drewN | apply below_drew1) | exact HB.out)))); have n1_ := Aside0.mk (below_step (by repeat (first | (with_reducible first | exact HB.out | apply below_alloc | apply pw_below_drewN | apply below_drew1) | exact HB.out)) hb); clear HB; have HO297 := n0_; have HB := n1_; clear n0_ n1_; clear hb ho5; have hcv6 := own_string (P := Tryd.prog) Tryd.underlying58 Tryd.underlying5 Tryd.underlying9 (Kd.own_of_R HO297.out)))
          go_ret
          exact ⟨by first | rfl | (simp [errW_none, errW_some] <;> rfl) | (simp [*, errW_none, errW_some] <;> rfl), by repeat (first | (with_reducible first | exact HB.out | apply below_alloc | apply pw_below_drewN | apply below_drew1) | exact HB.out)⟩
        · rw [if_neg c3] at H
          have c3b0 : ((IntKind.u64.wrap (Int.tdiv x0_1 10)) == 0) = false := beq_eq_false_iff_ne.mpr c3
          have c3b1 : ((IntKind.u64.wrap (Int.tdiv x0_1 10)) != 0) = true := bne_iff_ne.mpr c3
          have H' := Aside0.mk H
          clear H
          go_wp2_with (first | ((with_reducible refine gate_dst (N := 8) rfl ?_); refine Kd.R_lit (Kd.int .u8) _ 5 ?hg (N := 8) ?hd (xs := ([(IntKind.u64.wrap (48 + (Int.tmod x0_1 10))) % 256] : List Int)) (inner := [.int .u8 ((IntKind.u64.wrap (48 + (Int.tmod x0_1 10))) % 256)]) (ok := fun _ => True) (okp := fun _ => True) ?hr ?hp (fun _ hk => hk) trivial (Below.refl _ _) (Nat.le_refl _) (by simp) ?_; (case hd => rfl); (case hg => rfl); (case hr => first | (go_simp; done) | (go_simp; rfl)); (case hp => exact (Reps.one (show Kd.M (Kd.int .u8) _ _ _ ((IntKind.u64.wrap (48 + (Int.tmod x0_1 10))) % 256) [.int .u8 ((IntKind.u64.wrap (48 + (Int.tmod x0_1 10))) % 256)] from rfl) (Reps.none _ _))); intro v296 w7 ho8 hb hg_ hnew_; clear hg_ hnew_; (first | rw [← Ny295.out] at ho8 | (simp only [Int.reduceToNat] at ho8; rw [← Ny295.out] at ho8)); have n0_ := Aside0.mk (Kd.R_lower ho8 (below_size (by repeat (first | (with_reducible first | exact HB.out | apply below_alloc | apply pw_below_drewN | apply below_drew1) | exact HB.out)))); have n1_ := Aside0.mk (below_step (by repeat (first | (with_reducible first | exact HB.out | apply below_alloc | apply pw_below_drewN | apply below_drew1) | exact HB.out)) hb); clear HB; have HO297 := n0_; have HB := n1_; clear n0_ n1_; clear hb ho8; have hcv9 := own_string (P := Tryd.prog) Tryd.underlying58 Tryd.underlying5 Tryd.underlying9 (Kd.own_of_R HO297.out)))
          go_roundg k1
          case measure => have := HK1.out; omega
          case rel => exact ⟨(IntKind.u64.wrap (Int.tdiv x0_1 10)), ((strOfNums y295) ++ x3_1), (by first | rfl | (simp; done) | (simp [*]; done)), (by first | rfl | (simp; done) | (simp [*]; done)), H', ⟨by have := HK1.out; omega⟩, ⟨by repeat (first | (with_reducible first | exact HB.out | apply below_alloc | apply pw_below_drewN | apply below_drew1) | exact HB.out)⟩⟩
      · rw [if_neg c2] at H
        exact absurd H (by simp)

end Go.Proofs.YtphbepddhhdhmaaDoor.GA
end

section
-- laid by a program of this session (wip/gp.sh)
namespace Go.Proofs.YtphbepddhhdhmaaDoor.GA
open Go.RowKit Go.Proofs.YtphbepddhhdhmaaDoorW.PrintWords Go.Proofs.YtphbepddhhdhmaaDoorW.PrintLast Go.Proofs.YtphbepddhhdhmaaDoorW.PrintMore
attribute [local go_sem] max2_int min2_int max_two min_two max_three min_three max_four min_four   -- for this text's walks alone
set_option linter.unusedVariables false
set_option linter.unusedSimpArgs false

/-! ### rotaref19_Number: function 50 -/
def rotaref19_Number.f (k : Nat) (a0 : Int) : Option (ByteArray) := if a0 < 0 then ((rotaref19_decimal.f k (IntKind.u64.wrap (-(IntKind.u64.wrap (a0))))).bind fun t298 => (if 1 + t298.size ≤ 9223372036854775807 then (some ((⟨#[45]⟩ : ByteArray) ++ t298)) else (none))) else ((rotaref19_decimal.f k (IntKind.u64.wrap (a0))).bind fun t299 => (some t299))
theorem rotaref19_Number.mono : ∀ a0 k, LeO (rotaref19_Number.f k a0) (rotaref19_Number.f (k + 1) a0) := by
  intro a0 k
  unfold rotaref19_Number.f
  repeat' first
      | (with_reducible exact rotaref19_decimal.mono _ _)
      | (with_reducible exact LeO.refl _)
      | (with_reducible exact LeO.none _)
      | (with_reducible refine LeO.ite ?_ ?_)
      | (with_reducible refine LeO.bind ?_ (fun _ => ?_))
      | exact rotaref19_decimal.mono _ _
      | exact LeO.none _
      | refine LeO.ite ?_ ?_
      | refine LeO.bind ?_ (fun _ => ?_)
set_option maxHeartbeats 8000000 in
set_option maxRecDepth 100000 in
theorem rotaref19_Number.calls (k : Nat) (a0 : Int) (r : ByteArray) (w : World) (h : rotaref19_Number.f k a0 = some r) :
    Calls Tryd.prog 50 #[.int .i64 a0] w fun e w' => e = .returned (.string r) ∧ Below w.heap.size w w' := by
  have HB := Aside0.mk (Below.refl w.heap.size w)
  have H : (if a0 < 0 then ((rotaref19_decimal.f k (IntKind.u64.wrap (-(IntKind.u64.wrap (a0))))).bind fun t298 => (if 1 + t298.size ≤ 9223372036854775807 then (some ((⟨#[45]⟩ : ByteArray) ++ t298)) else (none))) else ((rotaref19_decimal.f k (IntKind.u64.wrap (a0))).bind fun t299 => (some t299))) = some r := h
  clear h
  by_cases c2 : a0 < 0
  · rw [if_pos c2] at H
    have c2b0 : decide (a0 < 0) = true := decide_eq_true c2
    clear c2
    replace H := Option.bind_eq_some_iff.mp H
    obtain ⟨t298, A30, H⟩ := H
    replace H : (if 1 + t298.size ≤ 9223372036854775807 then (some ((⟨#[45]⟩ : ByteArray) ++ t298)) else (none)) = some r := H
    have A3 := Aside0.mk A30
    clear A30
    by_cases c4 : 1 + t298.size ≤ 9223372036854775807
    · rw [if_pos c4] at H
      have c4b0 := eq_true c4
      have c4b1 : decide (1 + t298.size ≤ 9223372036854775807) = true := decide_eq_true c4
      try have c4b2 : (9223372036854775807 < 1 + t298.size) = False := eq_false (Nat.not_lt.2 c4)
      obtain rfl := Option.some.inj H
      go_enter Tryd.func50, Tryd.ntmps50
      go_wp2_with (first | ((with_reducible refine gate_callee (f := 61) rfl ?_); refine goesL_ (some 8) rfl rfl Tryd.func61 (by kernel_rfl) rfl #[.int .u64 (IntKind.u64.wrap (-(IntKind.u64.wrap (a0))))] rfl (by (try simp only [List.map_toArray, List.map_cons, List.map_nil]); first | done | rfl | (simp only [List.length_drop, List.length_take]; rfl)) ?_; (with_reducible refine (rotaref19_decimal.calls k (IntKind.u64.wrap (-(IntKind.u64.wrap (a0)))) t298 _ A3.out).mono ?_); rintro e w5 ⟨rfl, hb⟩; refine ⟨_, rfl, ?_⟩; have n0_ := Aside0.mk (below_step (by repeat (first | (with_reducible first | exact HB.out | apply below_alloc | apply pw_below_drewN | apply below_drew1) | exact HB.out)) hb); clear HB; have HB := n0_; clear n0_; (try clear hb); (try clear hb2); (try clear hk); (try clear hi)))
      go_ret
      exact ⟨by first | rfl | (simp [errW_none, errW_some] <;> rfl) | (simp [*, errW_none, errW_some] <;> rfl), by repeat (first | (with_reducible first | exact HB.out | apply below_alloc | apply pw_below_drewN | apply below_drew1) | exact HB.out)⟩
    · rw [if_neg c4] at H
      exact absurd H (by simp)
  · rw [if_neg c2] at H
    have c2b0 : decide (a0 < 0) = false := decide_eq_false c2
    clear c2
    replace H := Option.bind_eq_some_iff.mp H
    obtain ⟨t299, A60, H⟩ := H
    replace H : (some t299) = some r := H
    have A6 := Aside0.mk A60
    clear A60
    obtain rfl := Option.some.inj H
    go_enter Tryd.func50, Tryd.ntmps50
    go_wp2_with (first | ((with_reducible refine gate_callee (f := 61) rfl ?_); refine goesL_ (some 12) rfl rfl Tryd.func61 (by kernel_rfl) rfl #[.int .u64 (IntKind.u64.wrap (a0))] rfl (by (try simp only [List.map_toArray, List.map_cons, List.map_nil]); first | done | rfl | (simp only [List.length_drop, List.length_take]; rfl)) ?_; (with_reducible refine (rotaref19_decimal.calls k (IntKind.u64.wrap (a0)) t299 _ A6.out).mono ?_); rintro e w7 ⟨rfl, hb⟩; refine ⟨_, rfl, ?_⟩; have n0_ := Aside0.mk (below_step (by repeat (first | (with_reducible first | exact HB.out | apply below_alloc | apply pw_below_drewN | apply below_drew1) | exact HB.out)) hb); clear HB; have HB := n0_; clear n0_; (try clear hb); (try clear hb2); (try clear hk); (try clear hi)))
    go_ret
    exact ⟨by first | rfl | (simp [errW_none, errW_some] <;> rfl) | (simp [*, errW_none, errW_some] <;> rfl), by repeat (first | (with_reducible first | exact HB.out | apply below_alloc | apply pw_below_drewN | apply below_drew1) | exact HB.out)⟩

end Go.Proofs.YtphbepddhhdhmaaDoor.GA
end

section
/-
  The frozen numerals are the digits, in plain Lean.
-/
set_option linter.unusedVariables false
set_option linter.unusedSimpArgs false
namespace Go.Proofs.YtphbepddhhdhmaaDoor.Q
open Go.RowKit Go.Proofs.YtphbepddhhdhmaaDoorW.PrintWords Go.Proofs.YtphbepddhhdhmaaDoorW.PrintLast Go.Proofs.YtphbepddhhdhmaaDoorW.PrintMore Go.Proofs.YtphbepddhhdhmaaDoor.GA
/-- A list of bytes as a string. -/
abbrev sB (m : List UInt8) : ByteArray := ⟨m.toArray⟩
theorem sB_app (m n : List UInt8) : sB m ++ sB n = sB (m ++ n) := by
  apply ByteArray.ext
  simp [sB]
theorem sB_size (m : List UInt8) : (sB m).size = m.length := by simp [sB, ByteArray.size]
theorem digit (u : Nat) (h : u < 10) : strOfNums [(IntKind.u64.wrap (48 + (u : Int))) % 256] = sB [UInt8.ofNat (48 + u)] := by
  have e : IntKind.u64.wrap (48 + (u : Int)) % 256 = ((48 + u : Nat) : Int) := by
    rw [IntWalk.u64_in _ (by omega)]; omega
  rw [e]
  unfold strOfNums sB
  rw [List.map_cons, List.map_nil, Int.toNat_natCast]
theorem tdiv10 (u : Nat) (h : u < 18446744073709551616) : IntKind.u64.wrap (Int.tdiv (u : Int) 10) = ((u / 10 : Nat) : Int) := by
  rw [IntWalk.u64_quo _ _ (by omega)]; rfl
theorem tmod10 (u : Nat) : Int.tmod (u : Int) 10 = ((u % 10 : Nat) : Int) := by
  rw [Int.tmod_eq_emod_of_nonneg (by omega)]; rfl
theorem dec_len (u : Nat) (h : u < 18446744073709551616) : (Lib.decDigits u).length ≤ 20 := by rw [Lib.decDigits_length]; exact Lib.nDigits_le20 _ (by omega)
theorem number_is : ∀ (k u : Nat), 0 < k → u < 10 ^ k → u < 18446744073709551616 → rotaref25_number.f k (u : Int) = some (sB (Lib.decDigits u))
  | 0, u, h, _, _ => absurd h (by omega)
  | k + 1, u, _, h, hu => by
    rw [rotaref25_number.f]
    by_cases c : u < 10
    · rw [if_pos (by omega), digit u c, Lib.decDigits_one c]
    · rw [if_neg (by omega), tdiv10 u hu, tmod10]
      have hk : 0 < k := by
        cases k with
        | zero => rw [show (10 : Nat) ^ (0 + 1) = 10 from rfl] at h; omega
        | succ k => omega
      rw [number_is k (u / 10) hk (by rw [Nat.pow_succ] at h; omega) (by omega)]
      have hl := dec_len (u / 10) (by omega)
      rw [Option.bind_some, Option.bind_some, digit _ (by omega), sB_size, sB_size, if_pos (by simp; omega), sB_app]
      conv => rhs; rw [Lib.decDigits, dif_neg c]
theorem decimal_is : ∀ (k u : Nat) (m : List UInt8), 0 < k → u < 10 ^ k → u < 18446744073709551616 → m.length + (Lib.decDigits u).length < 1000 → rotaref19_decimal.l0 k (u : Int) (sB m) = some (sB (Lib.decDigits u ++ m))
  | 0, u, _, h, _, _, _ => absurd h (by omega)
  | k + 1, u, m, _, h, hu, hm => by
    rw [rotaref19_decimal.l0, tdiv10 u hu, tmod10, Option.bind_some, digit _ (by omega), sB_size, sB_size, if_pos (by simp; omega), sB_app]
    by_cases c : u < 10
    · rw [if_pos (by omega), Lib.decDigits_one c, Nat.mod_eq_of_lt c]
    · have hk : 0 < k := by
        cases k with
        | zero => rw [show (10 : Nat) ^ (0 + 1) = 10 from rfl] at h; omega
        | succ k => omega
      have e : Lib.decDigits u = Lib.decDigits (u / 10) ++ [UInt8.ofNat (48 + u % 10)] := by conv => lhs; rw [Lib.decDigits, dif_neg c]
      rw [e, List.length_append] at hm
      rw [if_neg (by omega), decimal_is k (u / 10) _ hk (by rw [Nat.pow_succ] at h; omega) (by omega) (by rw [List.length_append]; omega), e, List.append_assoc]
theorem Number_is (k : Nat) (hk : 20 ≤ k) (a : Int) (h0 : -(2 ^ 63) ≤ a) (h1 : a < 2 ^ 63) : rotaref19_Number.f k a = some (sB (Lib.itoa a)) := by
  have hn := dec_len a.natAbs (by omega)
  have hp : 10 ^ 20 ≤ 10 ^ k := Nat.pow_le_pow_right (by omega) hk
  unfold rotaref19_Number.f rotaref19_decimal.f
  by_cases c : a < 0
  · have e : IntKind.u64.wrap (-(IntKind.u64.wrap a)) = ((a.natAbs : Nat) : Int) := by
      simp only [IntKind.wrap_u64]; omega
    have hd := decimal_is k a.natAbs [] (by omega) (by omega) (by omega) (by simp; omega)
    rw [if_pos c, e, show (⟨#[]⟩ : ByteArray) = sB [] from rfl, hd, Option.bind_some, List.append_nil]
    have hl := dec_len a.natAbs (by omega)
    rw [sB_size, if_pos (by omega), show (⟨#[45]⟩ : ByteArray) = sB [45] from rfl, sB_app]
    unfold Lib.itoa
    rw [if_pos c]; rfl
  · have e : IntKind.u64.wrap a = ((a.toNat : Nat) : Int) := by
      simp only [IntKind.wrap_u64]; omega
    have hn := dec_len a.toNat (by omega)
    have hd := decimal_is k a.toNat [] (by omega) (by omega) (by omega) (by simp; omega)
    rw [if_neg c, e, show (⟨#[]⟩ : ByteArray) = sB [] from rfl, hd, Option.bind_some, List.append_nil]
    unfold Lib.itoa
    rw [if_neg c]
end Go.Proofs.YtphbepddhhdhmaaDoor.Q
end

section
-- laid by a program of this session (wip/gp.sh)
namespace Go.Proofs.YtphbepddhhdhmaaDoor.GA
open Go.RowKit Go.Proofs.YtphbepddhhdhmaaDoorW.PrintWords Go.Proofs.YtphbepddhhdhmaaDoorW.PrintLast Go.Proofs.YtphbepddhhdhmaaDoorW.PrintMore
attribute [local go_sem] max2_int min2_int max_two min_two max_three min_three max_four min_four   -- for this text's walks alone
set_option linter.unusedVariables false
set_option linter.unusedSimpArgs false

/-! ### trace_Name: function 12 (its contract: by hand) -/
-- NEEDS Derived.Test.YtphbepddhhdhmaaDoorHname
-- its type: def trace_Name.f (a0 : Int) : Option (ByteArray × Int)
def trace_Name.f (a0 : Int) : Option (ByteArray × Int) := if 1 ≤ a0 ∧ a0 ≤ 36 then some (Laid.nameAt (a0 - 1).toNat, 0) else some (⟨#[]⟩, 250)
set_option maxHeartbeats 8000000 in
set_option maxRecDepth 100000 in
theorem trace_Name.calls (a0 : Int) (r1 : ByteArray) (r2 : Int) (w : World) (hLLaidNames : Laid.LaidNames w) (h : trace_Name.f a0 = some (r1, r2)) :
    Calls Tryd.prog 12 #[.int .i64 a0] w fun e w' => e = .returned (.tuple #[.string r1, .int .i64 r2]) ∧ Drawn0 w w' := by
  unfold trace_Name.f at h
  split at h
  · rename_i hr
    obtain ⟨k, hk⟩ : ∃ k : Nat, a0 - 1 = (k : Int) := ⟨(a0 - 1).toNat, by omega⟩
    obtain rfl : a0 = (k : Int) + 1 := by omega
    rw [hk, Int.toNat_natCast] at h
    simp only [Option.some.injEq, Prod.mk.injEq] at h
    obtain ⟨rfl, rfl⟩ := h
    exact Hname.name_in k (by omega) w hLLaidNames
  · rename_i hr
    simp only [Option.some.injEq, Prod.mk.injEq] at h
    obtain ⟨rfl, rfl⟩ := h
    exact Hname.name_out a0 (by omega) w

end Go.Proofs.YtphbepddhhdhmaaDoor.GA
end
