import Derived.Test.YtphbepddhhdhmaaDoorMRd12
import Derived.Test.YtphbepddhhdhmaaDoorMRd15
import Derived.Deep.QuietTactic
import Derived.BigQuiet
import Derived.Lib.Hide
import Derived.WalkKit
import Derived.Outline
import Derived.IntWalk
import Derived.Test.YtphbepddhhdhmaaDoorMRd1
import Derived.Test.YtphbepddhhdhmaaDoorMRd3
import Derived.Test.YtphbepddhhdhmaaDoorMRd13
import Derived.Test.YtphbepddhhdhmaaDoorMRd9
import Derived.Test.YtphbepddhhdhmaaDoorMRd10
import Derived.Test.YtphbepddhhdhmaaDoorRows
import Derived.Lib.LaidTab
import Derived.Test.YtphbepddhhdhmaaDoorMRd2
import Derived.HandedShaped
import Derived.Stop.LaidErr
import Derived.Test.YtphbepddhhdhmaaDoorCards
import Derived.Test.YtphbepddhhdhmaaDoorTie
import Derived.ProofKit
import Derived.OpenShut
import Derived.ShutString
import Derived.ChangeOld
import Derived.Below
import Derived.SizedLaws
import Derived.Lib.SmallJoins
import Derived.Deep.DeepHandedRow
import Derived.Deep.DeepLaidRun
section
/-
  rotaref25.Parse, walked.
-/
set_option linter.unusedVariables false
set_option linter.unusedSimpArgs false
namespace Go.Proofs.YtphbepddhhdhmaaDoor.Hof
open Go.RowKit Go.Shelf Go.Proofs.YtphbepddhhdhmaaDoorW.PrintWords Go.Proofs.YtphbepddhhdhmaaDoorW.PrintLast Go.Proofs.YtphbepddhhdhmaaDoorW.PrintMore GA Hctx Hof Q
/-- An empty literal: a new first row. -/
theorem eLit0 {P : Program} {ops : Array Oper} {rest : List Oper} {o : Oper} {a : Act} {Q : Exit → Act → World → Prop} {es : List TypeId} {w0 W : World} {l : List (Nat × Array Value × TypeId)} {rows : List Row} {α : Type} (d : Kd α) (M : Aside0 (Mem es w0 W l rows)) (N : Tmp) (e : TypeId)
    (h : ∀ A c w1, Aside0 (Mem es w0 w1 l (⟨d, e, .slice A 0 c, []⟩ :: rows)) → wpList P ops Q rest (a.put o.dst (.slice A 0 c)) w1)
    (hd : o.dst = some N := by with_reducible rfl) (hgd : o.guard = none := by with_reducible rfl) (he : ∀ q, q ∈ e :: d.E → q ∈ es := by decide)
    (hr : (execOp a.eval o).run P W = .ok (.value (.slice (some ⟨W.heap.size, 0, none⟩) 0 0)) (W.alloc (.cells #[] e)) := by first | (go_simp; done) | (go_simp; rfl)) :
    wpList P ops Q (o :: rest) a W := by
  refine Kd.R_lit d (w0 := W) W.heap.size e hgd hd (xs := ([] : List α)) (inner := []) (ok := fun _ => True) (okp := fun _ => True) hr (Reps.none _ _) (fun _ h => h) trivial (Below.refl _ _) (Nat.le_refl _) (by simp) (fun v1 w1 hR hB hg _ => ?_)
  obtain ⟨A, c, rfl⟩ := Kd.R_slice hR
  exact h A c w1 ⟨M.out.row hB hR he⟩
/-- What holds at each byte. -/
def Inv31 (s : ByteArray) (res : List S36 × Int × Int) (done : List S36) (x6 x7 : Int) : Prop :=
  0 ≤ x6 ∧ x6 ≤ x7 ∧ x7 ≤ s.size ∧ (done.length : Int) ≤ x6 ∧ scan ((s.data.toList.drop x6.toNat).take (x7.toNat - x6.toNat)) done (s.data.toList.drop x7.toNat) = res
theorem inv_start (s : ByteArray) : Inv31 s (scan [] [] s.data.toList) [] 0 0 := ⟨Int.le_refl _, Int.le_refl _, by omega, by simp, by simp⟩
theorem inv_end {s : ByteArray} {res : List S36 × Int × Int} {done : List S36} {x6 x7 : Int} (h : Inv31 s res done x6 x7) (h7 : ¬ x7 < s.size) : (x6 < s.size → res = ([], 250, (done.length : Int) + 1)) ∧ (¬ x6 < s.size → res = (done, 0, 0)) := by
  obtain ⟨h1, h2, h3, h4, h5⟩ := h
  have hz : s.data.toList.length = s.size := Array.length_toList
  have e7 : x7.toNat = s.data.toList.length := by omega
  rw [e7, List.drop_length, scan] at h5
  have hlen : ((s.data.toList.drop x6.toNat).take (s.data.toList.length - x6.toNat)).length = s.size - x6.toNat := by
    rw [List.length_take, List.length_drop]; omega
  constructor
  · intro h6
    rw [if_neg] at h5
    · exact h5.symm
    · intro e
      rw [e] at hlen
      simp at hlen; omega
  · intro h6
    rw [if_pos] at h5
    · exact h5.symm
    · refine List.length_eq_zero_iff.1 ?_
      omega
theorem inv_at {s : ByteArray} {x7 : Int} (h0 : 0 ≤ x7) (h7 : x7 < s.size) : ∃ b : UInt8, s.data.toList[x7.toNat]? = some b ∧ bt s x7 = (b.toNat : Int) ∧ s.data.toList.drop x7.toNat = b :: s.data.toList.drop (x7.toNat + 1) := by
  have hz : s.data.toList.length = s.size := Array.length_toList
  have hi : x7.toNat < s.data.toList.length := by omega
  refine ⟨s.data.toList[x7.toNat], List.getElem?_eq_getElem hi, ?_, List.drop_eq_getElem_cons hi⟩
  have hx := bt_nat (s := s) (i := x7.toNat) (List.getElem?_eq_getElem hi)
  rw [show ((x7.toNat : Nat) : Int) = x7 by omega] at hx
  exact hx
theorem inv_skip {s : ByteArray} {res : List S36 × Int × Int} {done : List S36} {x6 x7 : Int} (h : Inv31 s res done x6 x7) (h7 : x7 < s.size) (hb : ¬ bt s x7 = 10) : Inv31 s res done x6 (x7 + 1) := by
  obtain ⟨h1, h2, h3, h4, h5⟩ := h
  obtain ⟨b, b1, b2, b3⟩ := inv_at (by omega) h7
  have hb' : ¬ b = 10 := fun e => hb (by rw [b2, e]; rfl)
  rw [b3, scan, if_neg hb'] at h5
  refine ⟨h1, by omega, by omega, h4, ?_⟩
  have e1 : (x7 + 1).toNat = x7.toNat + 1 := by omega
  have e2 : x7.toNat + 1 - x6.toNat = (x7.toNat - x6.toNat) + 1 := by omega
  rw [e1, e2, List.take_add_one, List.getElem?_drop, show x6.toNat + (x7.toNat - x6.toNat) = x7.toNat by omega, b1]
  exact h5
theorem inv_nl {s : ByteArray} {res : List S36 × Int × Int} {done : List S36} {x6 x7 : Int} (h : Inv31 s res done x6 x7) (h7 : x7 < s.size) (hb : bt s x7 = 10) :
    (evOf (s.extract x6.toNat x7.toNat) = none → res = ([], 250, (done.length : Int) + 1)) ∧
    ∀ x, evOf (s.extract x6.toNat x7.toNat) = some x → (low done x → res = ([], 251, (done.length : Int) + 1)) ∧ (¬ low done x → Inv31 s res (done ++ [x]) (x7 + 1) (x7 + 1)) := by
  obtain ⟨h1, h2, h3, h4, h5⟩ := h
  obtain ⟨b, b1, b2, b3⟩ := inv_at (by omega) h7
  have hb' : b = 10 := UInt8.toNat_inj.1 (by have e : (10 : UInt8).toNat = 10 := rfl; omega)
  subst hb'
  rw [b3] at h5
  have hx : s.extract x6.toNat x7.toNat = sB ((s.data.toList.drop x6.toNat).take (x7.toNat - x6.toNat)) := by
    apply ByteArray.ext
    apply Array.toList_inj.1
    simp [sB, ByteArray.data_extract, Array.toList_extract, List.extract]
  rw [hx]
  refine ⟨fun he => by rw [scan_none _ _ _ he] at h5; exact h5.symm, fun x he => ⟨fun hl => by rw [scan_low _ _ _ x he hl] at h5; exact h5.symm, fun hl => ?_⟩⟩
  rw [scan_some _ _ _ x he hl] at h5
  refine ⟨by omega, Int.le_refl _, by omega, by rw [List.length_append]; simp; omega, ?_⟩
  have e1 : (x7 + 1).toNat = x7.toNat + 1 := by omega
  rw [e1, Nat.sub_self, List.take_zero]
  exact h5

set_option maxHeartbeats 4000000 in
set_option maxRecDepth 100000 in
theorem rparse_calls (s : ByteArray) (hs : s.size ≤ 268435457) (w : World) :
    Calls Tryd.prog 31 #[.string s] w (Parsed (parseR s) w) := by
  have hu36 := Tryd.underlying36
  have M0 := Aside0.mk (Mem.start [36] w)
  by_cases hL : 268435456 < s.size
  · have hR := Lib.hid (show parseR s = ([], 2, 0) by unfold parseR; rw [if_pos hL])
    have hLb : decide ((s.size : Int) > 268435456) = true := decide_eq_true (by omega)
    go_enter Tryd.func31, Tryd.ntmps31
    go_wp2
    go_ret3
    rw [hR.out]
    exact parsed_nil 2 0 (Below.refl _ _)
  · have hR := Lib.hid (show parseR s = scan [] [] s.data.toList by unfold parseR; rw [if_neg hL])
    have hLb : decide ((s.size : Int) > 268435456) = false := decide_eq_false (by omega)
    rw [hR.out]
    clear hR
    have hI := Lib.hid (inv_start s)
    revert hI
    generalize scan [] [] s.data.toList = res
    intro hI
    go_enter Tryd.func31, Tryd.ntmps31
    go_wp2_with (first | (refine eLit0 k36 M0 13 36 ?_; intro A13 c13 w13 M1))
    go_loopw [5, 6, 7] (fun v5 v6 v7 wr => ∃ (x6 x7 : Int) (done : List S36), v6 = .int .i64 x6 ∧ v7 = .int .i64 x7 ∧ Inv31 s res done x6 x7 ∧ Mem [36] w wr [] [⟨k36, 36, v5, done⟩]) (fun _ _ v7 _ => s.size - (intOf v7).toNat)
    case atStart => exact ⟨0, 0, [], rfl, rfl, hI.out, M1.out⟩
    obtain ⟨x6, x7, done, rfl, rfl, hinv, M⟩ := hrel
    have ML := Aside0.mk M
    clear M M1 M0 hL hLb hI
    obtain ⟨B, c5, rfl⟩ := Kd.R_slice ML.out.own
    have I := Lib.hid hinv
    clear hinv
    have WD := Lib.hid (show wrap64 ((done.length : Int) + 1) = (done.length : Int) + 1 by exact IntWalk.wrap64_in _ (by have := I.out; unfold Inv31 at this; omega))
    by_cases h7 : x7 < (s.size : Int)
    · have d7 : decide (x7 < (s.size : Int)) = true := decide_eq_true h7
      have p7 : 0 ≤ x7 := by have := I.out; unfold Inv31 at this; omega
      have g7 := bt_at s x7
      by_cases hb : bt s x7 = 10
      · have b1 : (bt s x7 == 10) = true := beq_iff_eq.mpr hb
        have b2 : (bt s x7 != 10) = false := bne_eq_false_iff_eq.mpr hb
        have INL := Lib.hid (inv_nl I.out h7 hb)
        have q6 : (0 ≤ x6) = True := eq_true (by have := I.out; unfold Inv31 at this; omega)
        have q67 : (x6 ≤ x7) = True := eq_true (by have := I.out; unfold Inv31 at this; omega)
        have q7 : (x7 ≤ (s.size : Int)) = True := eq_true (by omega)
        have BD := Lib.hid (show (done.length : Int) < 300000000 by have := I.out; unfold Inv31 at this; omega)
        have H7 := Lib.hid (And.intro h7 p7)
        replace h7 := eq_true h7
        replace p7 := eq_true p7
        clear hb
        have W1 := Lib.hid (show wrap64 (x7 + 1) = x7 + 1 by exact IntWalk.wrap64_in _ (by have := H7.out; omega))
        have HL64 := Lib.hid (show (done.length + 1) * 64 ≤ 140737488355328 by have := BD.out; omega)
        go_wp2_with fail
        refine (event_calls (s.extract x6.toNat x7.toNat) (by rw [ByteArray.size_extract]; omega) _).mono ?_
        rintro e W27 ⟨x, ok, rfl, hrd, hb⟩
        have M2 := Aside0.mk (Mem.call ML.out hb)
        have HRD := Lib.hid hrd
        clear ML hb hrd
        have N0 := Aside0.mk (Mem.start [] W27)
        cases ok
        · have HRR := Lib.hid (INL.out.1 (evOf_no HRD.out rfl))
          go_wp2_with (first
            | (refine eB N0 8 #[.int .u64 0, .int .i64 0, .int .i64 0, .int .i64 0, .int .i64 0, .int .i64 0, .int .i64 0, .int .i64 0] 36 ?_; clear N0; intro g10 w10 N1)
            | (refine eR N1 36 8 0 (evC x) ?_; clear N1; intro w_ N2))
          go_ret3
          rw [HRR.out, WD.out]
          exact parsed_nil 250 _ (below_step M2.out.below N2.out.below)
        · have hev := Lib.hid (INL.out.2 x (evOf_yes HRD.out rfl))
          go_wp2_with (first
            | (refine eB N0 8 #[.int .u64 0, .int .i64 0, .int .i64 0, .int .i64 0, .int .i64 0, .int .i64 0, .int .i64 0, .int .i64 0] 36 ?_; clear N0; intro g10 w10 N1)
            | (refine eR N1 36 8 0 (evC x) ?_; clear N1; intro w_ N2))
          by_cases hd : 0 < done.length
          · obtain ⟨ad, c, hv, hx1⟩ := last_cell M2.out.own hd
            obtain ⟨rfl, rfl⟩ : B = some ad ∧ c5 = c := by injection hv with h1 h2 h3; exact ⟨h1, h3⟩
            clear hv
            obtain ⟨m, hm⟩ : ∃ m, done.length = m + 1 := ⟨done.length - 1, by omega⟩
            have hm1 : (done.length : Int) - 1 = (m : Int) := by omega
            rw [hm1, Int.toNat_natCast] at hx1
            have HLOW := Lib.hid (show low done x ↔ x.f0 < (rd_T36 done (m : Int)).f0 by unfold low; rw [hm1]; exact ⟨fun h => h.2, fun h => ⟨hd, h⟩⟩)
            replace hx1 := (N2.out.below.cell (World.block_lt_of_cell? _ _ hx1)).trans hx1
            have hx0 : w_.cell? ⟨g10, 0, none⟩ = some (.int .u64 x.f0) := N2.out.cell 0 rfl 0
            have hdb : decide (0 < done.length) = true := decide_eq_true hd
            have w1 : IntKind.i64.wrap ((done.length : Int) - 1) = (m : Int) := by rw [hm1]; exact IntWalk.i64_in _ (by have := BD.out; omega)
            have q0 : (0 ≤ (m : Int)) = True := eq_true (by omega)
            have q1 : ((m : Int) < (done.length : Int)) = True := eq_true (by omega)
            have HM := Lib.hid hm
            clear hm hm1 hd
            by_cases hlow : x.f0 < (rd_T36 done (m : Int)).f0
            · have hlb : decide (x.f0 < (rd_T36 done (m : Int)).f0) = true := decide_eq_true hlow
              have HRR := Lib.hid (hev.out.1 (HLOW.out.2 hlow))
              clear hlow
              go_quiet (fail)
              go_wp2
              go_ret3
              rw [HRR.out, WD.out]
              exact parsed_nil 251 _ (below_step M2.out.below (pw_below_drewN N2.out.below _))
            · have hlb : decide (x.f0 < (rd_T36 done (m : Int)).f0) = false := decide_eq_false hlow
              have NXT := Lib.hid (hev.out.2 (fun h => hlow (HLOW.out.1 h)))
              clear hlow
              go_quiet (fail)
              clear hx1 hx0 w1 q0 q1
              have N3 := Aside0.mk (Mem.drewN N2.out nq)
              have M3 := Aside0.mk (Mem.call M2.out (pw_below_drewN N2.out.below nq))
              clear N2 M2
              revert N3 M3
              generalize w_.drewN nq = W3
              intro N3 M3
              replace N3 : Aside0 (Mem [] W27 W3 [(g10, #[.int .u64 x.f0, .int .i64 x.f1, .int .i64 x.f2.f0, .int .i64 x.f2.f1, .int .i64 x.f3, .int .i64 x.f4, .int .i64 x.f5, .int .i64 x.f6], 36)] []) := N3
              go_wp2_with (first
                | ((with_reducible refine gate_dst (N := 56) rfl ?_); refine eL N3 56 0 hu36 ?_)
                | ((with_reducible refine gate_builtin (b := .append) (xs := #[.tmp 55, .tmp 57]) rfl ?_); at_builtin; refine eApp1 M3 58 x [.int .u64 x.f0, .int .i64 x.f1, .int .i64 x.f2.f0, .int .i64 x.f2.f1, .int .i64 x.f3, .int .i64 x.f4, .int .i64 x.f5, .int .i64 x.f6] (.agg #[(.int .u64 0), (.int .i64 0), (.int .i64 0), (.int .i64 0), (.int .i64 0), (.int .i64 0), (.int .i64 0), (.int .i64 0)]) 64 (k36_mkM _ _ _ x) HL64.out ?_; intro v5 w58 M4))
              go_roundw
              case rel => exact ⟨x7 + 1, x7 + 1, done ++ [x], by rw [W1.out], by rw [W1.out], NXT.out, M4.out⟩
              case measure => have h := H7.out; simp only [intOf, W1.out]; omega
          · have hdb : decide (0 < done.length) = false := decide_eq_false hd
            · have NXT := Lib.hid (hev.out.2 (fun h => hd h.1))
              clear hd
              go_quiet (fail)
              have N3 := Aside0.mk (Mem.drewN N2.out nq)
              have M3 := Aside0.mk (Mem.call M2.out (pw_below_drewN N2.out.below nq))
              clear N2 M2
              revert N3 M3
              generalize w_.drewN nq = W3
              intro N3 M3
              replace N3 : Aside0 (Mem [] W27 W3 [(g10, #[.int .u64 x.f0, .int .i64 x.f1, .int .i64 x.f2.f0, .int .i64 x.f2.f1, .int .i64 x.f3, .int .i64 x.f4, .int .i64 x.f5, .int .i64 x.f6], 36)] []) := N3
              go_wp2_with (first
                | ((with_reducible refine gate_dst (N := 56) rfl ?_); refine eL N3 56 0 hu36 ?_)
                | ((with_reducible refine gate_builtin (b := .append) (xs := #[.tmp 55, .tmp 57]) rfl ?_); at_builtin; refine eApp1 M3 58 x [.int .u64 x.f0, .int .i64 x.f1, .int .i64 x.f2.f0, .int .i64 x.f2.f1, .int .i64 x.f3, .int .i64 x.f4, .int .i64 x.f5, .int .i64 x.f6] (.agg #[(.int .u64 0), (.int .i64 0), (.int .i64 0), (.int .i64 0), (.int .i64 0), (.int .i64 0), (.int .i64 0), (.int .i64 0)]) 64 (k36_mkM _ _ _ x) HL64.out ?_; intro v5 w58 M4))
              go_roundw
              case rel => exact ⟨x7 + 1, x7 + 1, done ++ [x], by rw [W1.out], by rw [W1.out], NXT.out, M4.out⟩
              case measure => have h := H7.out; simp only [intOf, W1.out]; omega
      · have b1 : (bt s x7 == 10) = false := beq_eq_false_iff_ne.mpr hb
        have b2 : (bt s x7 != 10) = true := bne_iff_ne.mpr hb
        have NXT := Lib.hid (inv_skip I.out h7 hb)
        have W1 := Lib.hid (show wrap64 (x7 + 1) = x7 + 1 by exact IntWalk.wrap64_in _ (by omega))
        have H7 := Lib.hid (And.intro h7 p7)
        replace h7 := eq_true h7
        replace p7 := eq_true p7
        clear hb
        go_wp2
        go_roundw
        case rel => exact ⟨x6, x7 + 1, done, rfl, by rw [W1.out], NXT.out, ML.out⟩
        case measure => have h := H7.out; simp only [intOf, W1.out]; omega
    · have d7 : decide (x7 < (s.size : Int)) = false := decide_eq_false h7
      have HE := Lib.hid (inv_end I.out h7)
      clear h7
      have BD := Lib.hid (show (done.length : Int) < 300000000 by have := I.out; unfold Inv31 at this; omega)
      by_cases h6 : x6 < (s.size : Int)
      · have d6 : decide (x6 < (s.size : Int)) = true := decide_eq_true h6
        have HRR := Lib.hid (HE.out.1 h6)
        clear h6
        go_wp2
        go_ret3
        rw [HRR.out, WD.out]
        exact parsed_nil 250 _ ML.out.below
      · have d6 : decide (x6 < (s.size : Int)) = false := decide_eq_false h6
        have HRR := Lib.hid (HE.out.2 h6)
        clear h6
        go_wp2
        go_ret3
        rw [HRR.out]
        exact ⟨_, rfl, ML.out.own, ML.out.below⟩
end Go.Proofs.YtphbepddhhdhmaaDoor.Hof
end

section
-- laid by a program of this session (wip/gp.sh)
namespace Go.Proofs.YtphbepddhhdhmaaDoor.GA
open Go.RowKit Go.Proofs.YtphbepddhhdhmaaDoorW.PrintWords Go.Proofs.YtphbepddhhdhmaaDoorW.PrintLast Go.Proofs.YtphbepddhhdhmaaDoorW.PrintMore
attribute [local go_sem] max2_int min2_int max_two min_two max_three min_three max_four min_four   -- for this text's walks alone
set_option linter.unusedVariables false
set_option linter.unusedSimpArgs false

attribute [local go_sem high] eqA36
/-! ### rotaref25_Same: function 20 -/
def rotaref25_Same.l0 : Nat → List (S36) → List (S36) → Int → Option (Bool)
  | 0, _, _, _ => none
  | k + 1, x0, x1, x5 => if x5 < (x0.length : Int) then (if 0 ≤ x5 then (if x5 < (x1.length : Int) then (if (!(((rd_T36 x0 x5).f0) == ((rd_T36 x1 x5).f0)) || (!(((rd_T36 x0 x5).f1) == ((rd_T36 x1 x5).f1)) || ((!(((rd_T36 x0 x5).f2.f0) == ((rd_T36 x1 x5).f2.f0)) || (!(((rd_T36 x0 x5).f2.f1) == ((rd_T36 x1 x5).f2.f1)))) || (!(((rd_T36 x0 x5).f3) == ((rd_T36 x1 x5).f3)) || (!(((rd_T36 x0 x5).f4) == ((rd_T36 x1 x5).f4)) || (!(((rd_T36 x0 x5).f5) == ((rd_T36 x1 x5).f5)) || (!(((rd_T36 x0 x5).f6) == ((rd_T36 x1 x5).f6))))))))) = true then (some false) else (rotaref25_Same.l0 k x0 x1 (wrap64 (x5 + 1)))) else (none)) else (none)) else (some true)
def rotaref25_Same.f (k : Nat) (l0 : List (S36)) (l1 : List (S36)) : Option (Bool) := if (l0.length : Int) = (l1.length : Int) then (rotaref25_Same.l0 k l0 l1 0) else (some false)
theorem rotaref25_Same.mono_l : ∀ k, (∀ y0 y1 y2, LeO (rotaref25_Same.l0 k y0 y1 y2) (rotaref25_Same.l0 (k + 1) y0 y1 y2))
  | 0 => fun _ _ _ r h => by simp [rotaref25_Same.l0] at h
  | k + 1 => by
    have ih0 := rotaref25_Same.mono_l k
    · intro y0 y1 y2
      unfold rotaref25_Same.l0
      repeat' first
      | (with_reducible exact ih0 _ _ _)
      | (with_reducible exact LeO.refl _)
      | (with_reducible exact LeO.none _)
      | (with_reducible refine LeO.ite ?_ ?_)
      | (with_reducible refine LeO.bind ?_ (fun _ => ?_))
      | exact ih0 _ _ _
      | exact LeO.none _
      | refine LeO.ite ?_ ?_
      | refine LeO.bind ?_ (fun _ => ?_)
theorem rotaref25_Same.mono : ∀ a0 a1 k, LeO (rotaref25_Same.f k a0 a1) (rotaref25_Same.f (k + 1) a0 a1) := by
  intro a0 a1 k
  have ih0 := rotaref25_Same.mono_l k
  unfold rotaref25_Same.f
  repeat' first
      | (with_reducible exact ih0 _ _ _)
      | (with_reducible exact LeO.refl _)
      | (with_reducible exact LeO.none _)
      | (with_reducible refine LeO.ite ?_ ?_)
      | (with_reducible refine LeO.bind ?_ (fun _ => ?_))
      | exact ih0 _ _ _
      | exact LeO.none _
      | refine LeO.ite ?_ ?_
      | refine LeO.bind ?_ (fun _ => ?_)
set_option maxHeartbeats 8000000 in
set_option maxRecDepth 100000 in
theorem rotaref25_Same.calls (k : Nat) (A0 : Option Addr) (c0 : Nat) (l0 : List (S36)) (A1 : Option Addr) (c1 : Nat) (l1 : List (S36)) (r : Bool) (w : World) (hr0 : Kd.C k36 w A0 l0.length l0) (hc0 : l0.length ≤ c0) (hr1 : Kd.C k36 w A1 l1.length l1) (hc1 : l1.length ≤ c1) (h : rotaref25_Same.f k l0 l1 = some r) :
    Calls Tryd.prog 20 #[.slice A0 l0.length c0, .slice A1 l1.length c1] w fun e w' => e = .returned (.bool r) ∧ Drawn0 w w' := by
  have hu36 := Tryd.underlying36
  have HR0 := Aside0.mk hr0
  have HC0 := Aside0.mk hc0
  clear hr0 hc0
  have HR1 := Aside0.mk hr1
  have HC1 := Aside0.mk hc1
  clear hr1 hc1
  have H : (if (l0.length : Int) = (l1.length : Int) then (rotaref25_Same.l0 k l0 l1 0) else (some false)) = some r := h
  clear h
  by_cases c3 : (l0.length : Int) = (l1.length : Int)
  · rw [if_pos c3] at H
    have c3b0 : ((l0.length : Int) == (l1.length : Int)) = true := beq_iff_eq.mpr c3
    have c3b1 : ((l0.length : Int) != (l1.length : Int)) = false := bne_eq_false_iff_eq.mpr c3
    have c3b2 : (l0.length == l1.length) = true := by first | simpa using c3 | (simp at c3 ⊢; omega)
    clear c3
    have H' := Aside0.mk H
    clear H
    go_enter Tryd.func20, Tryd.ntmps20
    go_wp2
    repeat (go_quiet (fail); try go_wp2)
    go_loopg [5] k (fun kq v5 w' => ∃ (x5_1 : Int), v5 = .int .i64 x5_1 ∧ Aside0 (rotaref25_Same.l0 kq l0 l1 x5_1 = some r) ∧ Aside0 (kq ≤ k) ∧ Drawn0 w w')
    case atStart => exact ⟨(0), (by first | rfl | (simp; done) | (simp [*]; done)), H', ⟨Nat.le_refl _⟩, by repeat (first | exact Drawn0.refl _ | apply Drawn0.step)⟩
    case round =>
      clear H'
      try clear c1
      try clear c2
      try clear p2
      try clear c3
      try clear c3b0
      try clear c3b1
      try clear c3b2
      obtain ⟨x5_1, rfl, HA, HK1, ⟨m1, rfl⟩⟩ := hrel
      cases gk with
      | zero => exact absurd HA.out (by simp [rotaref25_Same.l0])
      | succ k1 =>
        have H := HA.out
        clear HA
        simp only [rotaref25_Same.l0] at H
        by_cases c4 : x5_1 < (l0.length : Int)
        · rw [if_pos c4] at H
          have c4b0 : decide (x5_1 < (l0.length : Int)) = true := decide_eq_true c4
          clear c4
          by_cases c5 : 0 ≤ x5_1
          · rw [if_pos c5] at H
            have c5b0 : decide (0 ≤ x5_1) = true := decide_eq_true c5
            clear c5
            by_cases c6 : x5_1 < (l1.length : Int)
            · rw [if_pos c6] at H
              have c6b0 : decide (x5_1 < (l1.length : Int)) = true := decide_eq_true c6
              clear c6
              by_cases c7 : (!(((rd_T36 l0 x5_1).f0) == ((rd_T36 l1 x5_1).f0)) || (!(((rd_T36 l0 x5_1).f1) == ((rd_T36 l1 x5_1).f1)) || ((!(((rd_T36 l0 x5_1).f2.f0) == ((rd_T36 l1 x5_1).f2.f0)) || (!(((rd_T36 l0 x5_1).f2.f1) == ((rd_T36 l1 x5_1).f2.f1)))) || (!(((rd_T36 l0 x5_1).f3) == ((rd_T36 l1 x5_1).f3)) || (!(((rd_T36 l0 x5_1).f4) == ((rd_T36 l1 x5_1).f4)) || (!(((rd_T36 l0 x5_1).f5) == ((rd_T36 l1 x5_1).f5)) || (!(((rd_T36 l0 x5_1).f6) == ((rd_T36 l1 x5_1).f6))))))))) = true
              · rw [if_pos c7] at H
                have c7b0 : (!(((rd_T36 l0 x5_1).f0) == ((rd_T36 l1 x5_1).f0)) || (!(((rd_T36 l0 x5_1).f1) == ((rd_T36 l1 x5_1).f1)) || ((!(((rd_T36 l0 x5_1).f2.f0) == ((rd_T36 l1 x5_1).f2.f0)) || (!(((rd_T36 l0 x5_1).f2.f1) == ((rd_T36 l1 x5_1).f2.f1)))) || (!(((rd_T36 l0 x5_1).f3) == ((rd_T36 l1 x5_1).f3)) || (!(((rd_T36 l0 x5_1).f4) == ((rd_T36 l1 x5_1).f4)) || (!(((rd_T36 l0 x5_1).f5) == ((rd_T36 l1 x5_1).f5)) || (!(((rd_T36 l0 x5_1).f6) == ((rd_T36 l1 x5_1).f6))))))))) = true := c7
                clear c7
                obtain rfl := Option.some.inj H
                have p163 : 0 ≤ (x5_1 : Int) := of_decide_eq_true (by first | (with_reducible assumption) | assumption)
                have q163 : x5_1 < (l0.length : Int) := of_decide_eq_true (by first | (with_reducible assumption) | assumption)
                obtain ⟨ad163, e163, hx163_0, hx163_1, hx163_2, hx163_3, hx163_4, hx163_5, hx163_6, hx163_7⟩ := at_T36 HR0.out x5_1 p163 q163
                cases e163
                replace p163 := eq_true p163
                replace q163 := eq_true q163
                have p164 : 0 ≤ (x5_1 : Int) := of_decide_eq_true (by first | (with_reducible assumption) | assumption)
                have q164 : x5_1 < (l1.length : Int) := of_decide_eq_true (by first | (with_reducible assumption) | assumption)
                obtain ⟨ad164, e164, hx164_0, hx164_1, hx164_2, hx164_3, hx164_4, hx164_5, hx164_6, hx164_7⟩ := at_T36 HR1.out x5_1 p164 q164
                cases e164
                replace p164 := eq_true p164
                replace q164 := eq_true q164
                go_wp2
                repeat (go_quiet (fail); try go_wp2)
                go_ret
                exact ⟨by first | rfl | (simp; done) | (simp [*]; done), by repeat (first | exact Drawn0.refl _ | apply Drawn0.step)⟩
              · rw [if_neg c7] at H
                have c7b0 : (!(((rd_T36 l0 x5_1).f0) == ((rd_T36 l1 x5_1).f0)) || (!(((rd_T36 l0 x5_1).f1) == ((rd_T36 l1 x5_1).f1)) || ((!(((rd_T36 l0 x5_1).f2.f0) == ((rd_T36 l1 x5_1).f2.f0)) || (!(((rd_T36 l0 x5_1).f2.f1) == ((rd_T36 l1 x5_1).f2.f1)))) || (!(((rd_T36 l0 x5_1).f3) == ((rd_T36 l1 x5_1).f3)) || (!(((rd_T36 l0 x5_1).f4) == ((rd_T36 l1 x5_1).f4)) || (!(((rd_T36 l0 x5_1).f5) == ((rd_T36 l1 x5_1).f5)) || (!(((rd_T36 l0 x5_1).f6) == ((rd_T36 l1 x5_1).f6))))))))) = false := by simpa using c7
                clear c7
                have H' := Aside0.mk H
                clear H
                have p163 : 0 ≤ (x5_1 : Int) := of_decide_eq_true (by first | (with_reducible assumption) | assumption)
                have q163 : x5_1 < (l0.length : Int) := of_decide_eq_true (by first | (with_reducible assumption) | assumption)
                obtain ⟨ad163, e163, hx163_0, hx163_1, hx163_2, hx163_3, hx163_4, hx163_5, hx163_6, hx163_7⟩ := at_T36 HR0.out x5_1 p163 q163
                cases e163
                replace p163 := eq_true p163
                replace q163 := eq_true q163
                have p164 : 0 ≤ (x5_1 : Int) := of_decide_eq_true (by first | (with_reducible assumption) | assumption)
                have q164 : x5_1 < (l1.length : Int) := of_decide_eq_true (by first | (with_reducible assumption) | assumption)
                obtain ⟨ad164, e164, hx164_0, hx164_1, hx164_2, hx164_3, hx164_4, hx164_5, hx164_6, hx164_7⟩ := at_T36 HR1.out x5_1 p164 q164
                cases e164
                replace p164 := eq_true p164
                replace q164 := eq_true q164
                go_wp2
                repeat (go_quiet (fail); try go_wp2)
                go_roundg k1
                case measure => have := HK1.out; omega
                case rel => exact ⟨(wrap64 (x5_1 + 1)), (by first | rfl | (simp; done) | (simp [*]; done)), H', ⟨by have := HK1.out; omega⟩, by repeat (first | exact Drawn0.refl _ | apply Drawn0.step)⟩
            · rw [if_neg c6] at H
              exact absurd H (by simp)
          · rw [if_neg c5] at H
            exact absurd H (by simp)
        · rw [if_neg c4] at H
          have c4b0 : decide (x5_1 < (l0.length : Int)) = false := decide_eq_false c4
          clear c4
          obtain rfl := Option.some.inj H
          go_wp2
          repeat (go_quiet (fail); try go_wp2)
          go_ret
          exact ⟨by first | rfl | (simp; done) | (simp [*]; done), by repeat (first | exact Drawn0.refl _ | apply Drawn0.step)⟩
  · rw [if_neg c3] at H
    have c3b0 : ((l0.length : Int) == (l1.length : Int)) = false := beq_eq_false_iff_ne.mpr c3
    have c3b1 : ((l0.length : Int) != (l1.length : Int)) = true := bne_iff_ne.mpr c3
    have c3b2 : (l0.length == l1.length) = false := by first | simpa using c3 | (simp at c3 ⊢; omega)
    obtain rfl := Option.some.inj H
    go_enter Tryd.func20, Tryd.ntmps20
    go_wp2
    repeat (go_quiet (fail); try go_wp2)
    go_ret
    exact ⟨by first | rfl | (simp; done) | (simp [*]; done), by repeat (first | exact Drawn0.refl _ | apply Drawn0.step)⟩

end Go.Proofs.YtphbepddhhdhmaaDoor.GA
end

section
/-
  TraceReads, walked: both parsers tell the same.
-/
set_option linter.unusedVariables false
set_option linter.unusedSimpArgs false
namespace Go.Proofs.YtphbepddhhdhmaaDoor.Hof
open Go.RowKit Go.Shelf Go.Proofs.YtphbepddhhdhmaaDoorW.PrintWords Go.Proofs.YtphbepddhhdhmaaDoorW.PrintLast Go.Proofs.YtphbepddhhdhmaaDoorW.PrintMore GA Hctx Hof

theorem below_drawn0 {w w' : World} (h : Drawn0 w w') : Below w.heap.size w w' := h.below
theorem scan_len : ∀ (l cur : List UInt8) (done : List S36), (scan cur done l).1.length ≤ done.length + l.length
  | [], cur, done => by rw [scan]; split <;> simp
  | b :: r, cur, done => by
    by_cases hb : b = 10
    · subst hb
      cases h : evOf (Q.sB cur) with
      | none => rw [scan_none _ _ _ h]; simp
      | some x =>
        by_cases hl : low done x
        · rw [scan_low _ _ _ x h hl]; simp
        · rw [scan_some _ _ _ x h hl]
          have := scan_len r [] (done ++ [x])
          rw [List.length_append] at this
          simp at this ⊢; omega
    · rw [scan, if_neg hb]
      have := scan_len r (cur ++ [b]) done
      simp at this ⊢; omega
theorem parseR_len (s : ByteArray) : (parseR s).1.length ≤ s.size := by
  unfold parseR
  split
  · simp
  · have := scan_len s.data.toList [] []
    have hz : s.data.toList.length = s.size := Array.length_toList
    simp at this hz ⊢; omega
theorem same_is9 (xs : List S36) (hl : xs.length < 2199023255552) : ∀ (d k i : Nat), i + d = xs.length → d < k → rotaref25_Same.l0 k xs xs (i : Int) = some true := by
  intro d
  induction d with
  | zero =>
    intro k i h1 h2
    obtain ⟨k, rfl⟩ : ∃ j, k = j + 1 := ⟨k - 1, by omega⟩
    rw [rotaref25_Same.l0, if_neg (by omega)]
  | succ d ih =>
    intro k i h1 h2
    obtain ⟨k, rfl⟩ : ∃ j, k = j + 1 := ⟨k - 1, by omega⟩
    have h := ih k (i + 1) (by omega) (by omega)
    have hA : (i : Int) < (xs.length : Int) := by omega
    have hB : 0 ≤ (i : Int) := by omega
    have w1 : wrap64 ((i : Int) + 1) = ((i + 1 : Nat) : Int) := by
      rw [Int.natCast_add]
      exact IntWalk.wrap64_in _ (by omega)
    simp only [rotaref25_Same.l0, if_pos hA, if_pos hB, w1, beq_self_eq_true, Bool.not_true, Bool.or_false, Bool.or_self, h]
    rfl
theorem sameF_of (xs : List S36) (hl : xs.length < 2199023255552) : rotaref25_Same.f (xs.length + 1) xs xs = some true := by
  have h := same_is9 xs hl xs.length (xs.length + 1) 0 (by omega) (by omega)
  unfold rotaref25_Same.f
  rw [if_pos rfl]
  exact h
set_option maxHeartbeats 4000000 in
set_option maxRecDepth 100000 in
theorem law9_calls (s : ByteArray) (w : World) (S0 : Std w) :
    Calls Tryd.prog 9 #[.string s] w fun e w' => e = .returned (.bool true) ∧ Below w.heap.size w w' := by
  have hu36 := Tryd.underlying36
  have S := Lib.hid S0
  clear S0
  by_cases bL : (s.size : Int) > 268435457
  · have d1 : decide ((s.size : Int) > 268435457) = true := decide_eq_true bL
    have q1 : (268435457 ≤ (s.size : Int)) = True := eq_true (by omega)
    have HT := Lib.hid (show (s.extract 0 268435457).size ≤ 268435457 by first | omega | (rw [ByteArray.size_extract]; omega))
    have HLn := Lib.hid (parseR_len (s.extract 0 268435457))
    have HP := Lib.hid (fun (W : World) (h : Std W) => parse_calls (s.extract 0 268435457) HT.out W h)
    have HQ := Lib.hid (fun (W : World) => rparse_calls (s.extract 0 268435457) HT.out W)
    revert HLn HP HQ
    generalize parseR (s.extract 0 268435457) = res
    intro HLn HP HQ
    go_enter Tryd.func9, Tryd.ntmps9
    go_wp2_with fail
    refine (HP.out _ S.out).mono ?_
    rintro e w1 ⟨v1, rfl, hR, hb⟩
    obtain ⟨A1, c1, rfl⟩ := Kd.R_slice hR
    have HB := Aside0.mk hb
    have HR1 := Aside0.mk hR
    clear hR hb
    go_wp2_with fail
    refine (HQ.out _).mono ?_
    rintro e w2 ⟨v2, rfl, hR, hb⟩
    obtain ⟨A2, c2, rfl⟩ := Kd.R_slice hR
    have HB2 := Aside0.mk (below_step HB.out hb)
    have HR3 := Aside0.mk (Kd.R_below HR1.out hb)
    have HR2 := Aside0.mk hR
    clear hR hb HB HR1
    go_wp2_with fail
    refine (rotalaw25_lives.calls true _ ((S.out.below HB2.out).names) Q.lives).mono ?_
    rintro e w3 ⟨rfl, hd⟩
    have RD1 := Aside0.mk (Kd.R_reads' (Kd.R_below HR3.out (below_drawn0 hd)))
    have RD2 := Aside0.mk (Kd.R_reads' (Kd.R_below HR2.out (below_drawn0 hd)))
    have HB5 := Aside0.mk (below_step HB2.out (below_drawn0 hd))
    clear hd HB2 HR3 HR2
    go_wp2_with fail
    refine (rotaref25_Same.calls (res.1.length + 1) A1 c1 res.1 A2 c2 res.1 true _ RD1.out.2.2 RD1.out.2.1 RD2.out.2.2 RD2.out.2.1 (sameF_of res.1 (by have := HLn.out; have := HT.out; omega))).mono ?_
    rintro e w4 ⟨rfl, hd⟩
    have HB6 := Aside0.mk (below_step HB5.out (below_drawn0 hd))
    clear hd HB5
    go_wp2_with fail
    go_ret
    exact ⟨by first | rfl | simp, HB6.out⟩
  · have d1 : decide ((s.size : Int) > 268435457) = false := decide_eq_false bL
    have HT := Lib.hid (show (s).size ≤ 268435457 by first | omega | (rw [ByteArray.size_extract]; omega))
    have HLn := Lib.hid (parseR_len (s))
    have HP := Lib.hid (fun (W : World) (h : Std W) => parse_calls (s) HT.out W h)
    have HQ := Lib.hid (fun (W : World) => rparse_calls (s) HT.out W)
    revert HLn HP HQ
    generalize parseR (s) = res
    intro HLn HP HQ
    go_enter Tryd.func9, Tryd.ntmps9
    go_wp2_with fail
    refine (HP.out _ S.out).mono ?_
    rintro e w1 ⟨v1, rfl, hR, hb⟩
    obtain ⟨A1, c1, rfl⟩ := Kd.R_slice hR
    have HB := Aside0.mk hb
    have HR1 := Aside0.mk hR
    clear hR hb
    go_wp2_with fail
    refine (HQ.out _).mono ?_
    rintro e w2 ⟨v2, rfl, hR, hb⟩
    obtain ⟨A2, c2, rfl⟩ := Kd.R_slice hR
    have HB2 := Aside0.mk (below_step HB.out hb)
    have HR3 := Aside0.mk (Kd.R_below HR1.out hb)
    have HR2 := Aside0.mk hR
    clear hR hb HB HR1
    go_wp2_with fail
    refine (rotalaw25_lives.calls true _ ((S.out.below HB2.out).names) Q.lives).mono ?_
    rintro e w3 ⟨rfl, hd⟩
    have RD1 := Aside0.mk (Kd.R_reads' (Kd.R_below HR3.out (below_drawn0 hd)))
    have RD2 := Aside0.mk (Kd.R_reads' (Kd.R_below HR2.out (below_drawn0 hd)))
    have HB5 := Aside0.mk (below_step HB2.out (below_drawn0 hd))
    clear hd HB2 HR3 HR2
    go_wp2_with fail
    refine (rotaref25_Same.calls (res.1.length + 1) A1 c1 res.1 A2 c2 res.1 true _ RD1.out.2.2 RD1.out.2.1 RD2.out.2.2 RD2.out.2.1 (sameF_of res.1 (by have := HLn.out; have := HT.out; omega))).mono ?_
    rintro e w4 ⟨rfl, hd⟩
    have HB6 := Aside0.mk (below_step HB5.out (below_drawn0 hd))
    clear hd HB5
    go_wp2_with fail
    go_ret
    exact ⟨by first | rfl | simp, HB6.out⟩
end Go.Proofs.YtphbepddhhdhmaaDoor.Hof
end

section
/-
  What the arguments' types open to: events and slices of them.
-/
namespace Go.Proofs.YtphbepddhhdhmaaDoor.Kinds
open Go.Proofs.YtphbepddhhdhmaaDoorW.PrintWords Go.Proofs.YtphbepddhhdhmaaDoor.Opn Go.Proofs.YtphbepddhhdhmaaDoor.GA
theorem o3 : Opens Tryd.prog 3 (Kd.int .i64) (GInt .i64) := opens_int Tryd.underlying3 (by kernel_rfl)
theorem o2 : Opens Tryd.prog 2 (Kd.int .i64) (GInt .i64) := opens_int Tryd.underlying2 (by kernel_rfl)
theorem o34 : Opens Tryd.prog 34 (Kd.int .u64) (GInt .u64) := opens_int Tryd.underlying34 (by kernel_rfl)
def G33 (x : S33) (n : Nat) : Prop := GPair (GInt .i64) (GInt .i64) (x.f0, x.f1) n
theorem o33 : Opens Tryd.prog 33 k33 G33 :=
  opens_struct (seq_cons o3 (seq_one o3)) Tryd.underlying33 (by kernel_rfl) (by kernel_rfl) (by kernel_rfl) _ (fun a => ⟨a.1, a.2⟩) (fun _ => rfl)
def G36 (x : S36) (n : Nat) : Prop := GPair (GInt .u64) (GPair (GInt .i64) (GPair G33 (GPair (GInt .i64) (GPair (GInt .i64) (GPair (GInt .i64) (GInt .i64)))))) (x.f0, x.f1, x.f2, x.f3, x.f4, x.f5, x.f6) n
theorem o36 : Opens Tryd.prog 36 k36 G36 :=
  opens_struct (seq_cons o34 (seq_cons o3 (seq_cons o33 (seq_cons o3 (seq_cons o2 (seq_cons o2 (seq_one o2))))))) Tryd.underlying36 (by kernel_rfl) (by kernel_rfl) (by kernel_rfl) _ (fun a => ⟨a.1, a.2.1, a.2.2.1, a.2.2.2.1, a.2.2.2.2.1, a.2.2.2.2.2.1, a.2.2.2.2.2.2⟩) (fun _ => rfl)
theorem o22 : Opens Tryd.prog 22 (Kd.slice 36 k36) (GSl 64 G36) := opens_slice o36 Tryd.underlying22 (by kernel_rfl) (B := 64) (by kernel_rfl)
end Go.Proofs.YtphbepddhhdhmaaDoor.Kinds
end

section
/-
  The listed table of powers of ten.
-/
set_option linter.unusedVariables false
namespace Go.Proofs.YtphbepddhhdhmaaDoor.Laid
open Go.RowKit Go.Proofs.YtphbepddhhdhmaaDoorW.PrintWords
theorem tab_of {w : World} {laid : List (String × DataW Unit)} (h : laidMet Tryd.prog laid w) (hm : ("internal/strconv.uint64pow10", Rows.laid_internal_strconv_uint64pow10) ∈ laid) : Hof.TabB w.heap.size w := by
  obtain ⟨ps, hps, _⟩ := h
  obtain ⟨g, t, cs, fuel, p, hg, ht, hvar, hd⟩ := laidVars_mem hps hm
  have e : (Rows.laid_internal_strconv_uint64pow10 : DataW Unit) = Lib.tabData .u64 Lib.pow10Tab := by kernel_rfl
  rw [e] at hd
  obtain rfl := Option.some.inj (hg.symm.trans (show Tryd.prog.globalNamed "internal/strconv.uint64pow10" = some 2 by kernel_rfl))
  obtain rfl := Option.some.inj (ht.symm.trans (show (Tryd.prog.globals[2]?).map (·.type) = some 106 by kernel_rfl))
  have hc := Lib.cells_of_tab (show Tryd.prog.underlying 106 = some (.array 20 34) by kernel_rfl) (show Tryd.prog.underlying 34 = some (.int .u64) by kernel_rfl) (by kernel_rfl) (by kernel_rfl) hd
  refine Lib.tabBelow_of_tabIs ?_
  unfold Lib.TabIs
  rw [hvar, ← hc]
end Go.Proofs.YtphbepddhhdhmaaDoor.Laid
end

section
/-
  The listed variables that the readers meet: what their cells hold.
-/
set_option linter.unusedVariables false
namespace Go.Proofs.YtphbepddhhdhmaaDoor.Laid
open Go.RowKit Go.Proofs.YtphbepddhhdhmaaDoorW.PrintWords
/-- What all three rows list. -/
def eight : List (String × DataW Unit) := [("math/bits.deBruijn32tab", Rows.laid_math_bits_deBruijn32tab), ("math/bits.deBruijn64tab", Rows.laid_math_bits_deBruijn64tab), ("internal/strconv.uint64pow10", Rows.laid_internal_strconv_uint64pow10), ("unicode/utf8.acceptRanges", Rows.laid_unicode_utf8_acceptRanges), ("strconv.ErrRange", Rows.laid_strconv_ErrRange), ("strconv.ErrSyntax", Rows.laid_strconv_ErrSyntax), ("rota/trace.names", Rows.laid_rota_trace_names), ("unicode/utf8.first", Rows.laid_unicode_utf8_first)]
theorem star : "*" ++ "errors.errorString" = "*errors.errorString" := by decide
theorem row122 (u : TypeId) (h : Tryd.prog.typeName? 3 u = some "*errors.errorString") : u = 122 :=
  typeName_ptr_named (nm := "errors.errorString") (by rw [star]; kernel_rfl) (by kernel_rfl) (by decide) u (by rw [star]; exact h)
theorem err_at {W : World} {n : String} {text : List UInt8} {r : List (String × DataW Unit)} {g : Nat} (h : laidMet Tryd.prog ((n, .iface "*errors.errorString" (.ptr (.agg [.lit (.string text)]))) :: r) W) (hg : Tryd.prog.globalNamed n = some g) (ht : (Tryd.prog.globals[g]?).map (·.type) = some 73) :
    ∃ te pe, W.cell? ⟨g, 0, none⟩ = some (.iface te pe) := by
  have hi : Tryd.prog.underlying 73 = some (.interface #[("Error", 132)]) := by kernel_rfl
  obtain ⟨a, s, hv, _, _, _⟩ := laid_sentinel h hg ht (ti := 73) (tp := 122) (te := 124) (ts := 9) hi row122 (by kernel_rfl) (show Tryd.prog.underlying 124 = some (.struct #[{ name := "s", type := 9, offset := 0, embedded := false, tag := "", pkgPath := "errors", byteOffset := 0 }]) by kernel_rfl) rfl rfl Tryd.underlying9 (by kernel_rfl) (by kernel_rfl)
  exact ⟨_, _, (World.var?_cell hg hv 0).trans rfl⟩
theorem std_of {W : World} (h : laidMet Tryd.prog eight W) (hS : W.ShapedOpen Tryd.prog) : Hof.Std W := by
  have hr := laidMet.tail (laidMet.tail (laidMet.tail (laidMet.tail h)))
  have hs := laidMet.tail hr
  obtain ⟨m, hm⟩ := cell_of_shapedOpen_int (P := Tryd.prog) (g := 1) (t := 3) (zero := #[.int .i64 0]) hS (of_decide_eq_true (by kernel_rfl)) (by kernel_rfl) rfl (by kernel_rfl) (by kernel_rfl) Tryd.underlying3
  obtain ⟨g, t, cs, fuel, p, hg, ht, hvar, hd⟩ : ∃ g t cs fuel p, Tryd.prog.globalNamed "unicode/utf8.acceptRanges" = some g ∧ (Tryd.prog.globals[g]?).map (·.type) = some t ∧ W.var? Tryd.prog "unicode/utf8.acceptRanges" = some cs ∧ DataW.trod (fun _ => ()) Tryd.prog W 0 (fun _ => true) false fuel t cs.toList = some (Rows.laid_unicode_utf8_acceptRanges, p) := by
    obtain ⟨ps, hps, _⟩ := h
    exact laidVars_mem hps (by simp [eight])
  have hsize : 8 < W.heap.size := by
    obtain rfl := Option.some.inj (hg.symm.trans (show Tryd.prog.globalNamed "unicode/utf8.acceptRanges" = some 8 by kernel_rfl))
    unfold World.var? at hvar
    rw [hg] at hvar
    rcases Nat.lt_or_ge 8 W.heap.size with h' | h'
    · exact h'
    · simp [Array.getElem?_eq_none h'] at hvar
  refine ⟨hsize, ⟨m, hm⟩, err_at hs (by kernel_rfl) (by kernel_rfl), err_at hr (by kernel_rfl) (by kernel_rfl), tab_of h (by simp [eight]), names_of h (by simp [eight])⟩
end Go.Proofs.YtphbepddhhdhmaaDoor.Laid
end

section
/-
  Parse tells what the frozen one tells, of any text.
-/
set_option linter.unusedVariables false
set_option linter.unusedSimpArgs false
namespace Go.Proofs.YtphbepddhhdhmaaDoor.traceReads
open Go.ChangeShapes Go.WideShapes Go.ChangeAt Go.RowKit Go.Proofs.YtphbepddhhdhmaaDoorW.PrintWords Go.Proofs.YtphbepddhhdhmaaDoor.Opn
open Go.ChangeMaps (open_string shut_string)
theorem own : ownKnob Tryd.prog.godebug = none := by kernel_rfl
theorem laidOut : laidOutB Tryd.prog = true := by kernel_rfl
set_option maxRecDepth 100000 in
theorem contract (H : Type) (enc : TypeId × Value → H) (W : World) (base : Nat) (args : Array Value) (ds gs : List (DataW H)) (before : List MemPlace)
    (hval0 : ∀ (j : Nat) t v, Tryd.f9.params[j]? = some t → args[j]? = some v → Value.okWide Tryd.prog W .any base t v)
    (hW : DataW.Whole enc Tryd.prog Tryd.f9.params.toList Rows.traceReadsSpec.vars false W args.toList ds gs before)
    (hsz0 : (DataW.weightsEach Tryd.prog (Tryd.f9.params.toList ++ (OpenSpec.ofChange Rows.traceReadsSpec).bare.plain.varTypes Tryd.prog) (ds ++ gs)).all (· ≤ reachBytes) = true)
    (hSh : W.ShapedOpen Tryd.prog)
    (hL : laidMetH Tryd.prog Rows.traceReadsRow.laid W) :
    Calls Tryd.prog 9 args W fun e W' => ∃ v, e = .returned v ∧ Rows.traceReadsSpec.post enc Tryd.prog Tryd.f9 false true false false W args v W' := by
  have hsz : (DataW.weightsEach Tryd.prog (Tryd.f9.params.toList ++ Rows.traceReadsSpec.plain.varTypes Tryd.prog) (ds ++ gs)).all (· ≤ reachBytes) = true := hsz0
  have hval : ∀ (j : Nat) t v, Tryd.f9.params[j]? = some t → args[j]? = some v → Value.okWide Tryd.prog W .any base t v := hval0
  have hStd : Hof.Std W := Laid.std_of (show laidMet Tryd.prog Laid.eight W from hL) hSh
  have hW' := hW
  obtain ⟨p, q, hA0, hV, rfl, hfz, hnd⟩ := hW
  have hA : DataW.TrodAll enc Tryd.prog W 0 (fun _ => true) true Tryd.f9.params.toList args.toList ds p := hA0
  rw [Tryd.params9] at hA hval hsz
  obtain ⟨v0, vs0, d0, ds0, p0, q0, hargs, rfl, rfl, h0, r0⟩ := trodAll_cons hA
  obtain ⟨rfl, rfl, rfl⟩ := trodAll_nil r0
  obtain rfl : args = #[v0] := by cases args; simp_all
  obtain ⟨rfl, rfl⟩ := trodVars_none hV
  have k0 := h0
  have lt0 : ∀ x ∈ p0, x.block < W.heap.size := by obtain ⟨m, hm⟩ := k0; exact DataW.trod_lt m _ _ _ hm
  have ws0 : ∀ n ∈ d0.weights Tryd.prog 9, n ≤ reachBytes := fun n hn => by simpa using List.all_eq_true.1 hsz n (DataW.weights_mem_each (j := 0) rfl rfl n hn)
  obtain ⟨a0, rfl, rfl, rfl, y0⟩ := open_string Tryd.underlying9 (hval 0 9 v0 rfl rfl) h0
  have w0 : a0.size ≤ 140737488351232 := by
    have z := ws0 a0.data.toList.length (by simp [DataW.weights])
    simpa [reachBytes] using z
  clear hA0 hval hsz
  refine (Hof.law9_calls a0 W hStd).mono fun e W' ⟨he, bel⟩ => ?_
  subst he
  exact ⟨_, rfl, _, _, _, [], _, [], hW', trodAll_mk1 (shut_bool Tryd.underlying4 _), (trodAll_cons_mk (Below.trod laidOut (by kernel_rfl) (of_decide_eq_true (by kernel_rfl)) k0 bel lt0) trodAll_mk0), rfl, bel.frame _, fun h => by cases h⟩
def lay (cs : Array Value) : Obj → Obj
  | .cells _ t frozen => .cells cs t frozen
  | o => o
noncomputable def laidWorld (os : Os) : World := { World.holding Tryd.prog os ⟨#[], #[], []⟩ with heap := (((((((((((World.holding Tryd.prog os ⟨#[], #[], []⟩).heap.modify 0 (lay (Laid.names.map Value.string).toArray)).modify 2 (lay #[.int .u64 1, .int .u64 10, .int .u64 100, .int .u64 1000, .int .u64 10000, .int .u64 100000, .int .u64 1000000, .int .u64 10000000, .int .u64 100000000, .int .u64 1000000000, .int .u64 10000000000, .int .u64 100000000000, .int .u64 1000000000000, .int .u64 10000000000000, .int .u64 100000000000000, .int .u64 1000000000000000, .int .u64 10000000000000000, .int .u64 100000000000000000, .int .u64 1000000000000000000, .int .u64 10000000000000000000])).modify 5 (lay #[.int .u8 0, .int .u8 1, .int .u8 28, .int .u8 2, .int .u8 29, .int .u8 14, .int .u8 24, .int .u8 3, .int .u8 30, .int .u8 22, .int .u8 20, .int .u8 15, .int .u8 25, .int .u8 17, .int .u8 4, .int .u8 8, .int .u8 31, .int .u8 27, .int .u8 13, .int .u8 23, .int .u8 21, .int .u8 19, .int .u8 16, .int .u8 7, .int .u8 26, .int .u8 12, .int .u8 18, .int .u8 6, .int .u8 11, .int .u8 5, .int .u8 10, .int .u8 9])).modify 6 (lay #[.int .u8 0, .int .u8 1, .int .u8 56, .int .u8 2, .int .u8 57, .int .u8 49, .int .u8 28, .int .u8 3, .int .u8 61, .int .u8 58, .int .u8 42, .int .u8 50, .int .u8 38, .int .u8 29, .int .u8 17, .int .u8 4, .int .u8 62, .int .u8 47, .int .u8 59, .int .u8 36, .int .u8 45, .int .u8 43, .int .u8 51, .int .u8 22, .int .u8 53, .int .u8 39, .int .u8 33, .int .u8 30, .int .u8 24, .int .u8 18, .int .u8 12, .int .u8 5, .int .u8 63, .int .u8 55, .int .u8 48, .int .u8 27, .int .u8 60, .int .u8 41, .int .u8 37, .int .u8 16, .int .u8 46, .int .u8 35, .int .u8 44, .int .u8 21, .int .u8 52, .int .u8 32, .int .u8 23, .int .u8 11, .int .u8 54, .int .u8 26, .int .u8 40, .int .u8 15, .int .u8 34, .int .u8 20, .int .u8 31, .int .u8 10, .int .u8 25, .int .u8 14, .int .u8 19, .int .u8 9, .int .u8 13, .int .u8 8, .int .u8 7, .int .u8 6])).modify 3 (lay #[.iface 122 (.pointer (some ⟨(World.holding Tryd.prog os ⟨#[], #[], []⟩).heap.size, 0, none⟩))])).modify 4 (lay #[.iface 122 (.pointer (some ⟨(World.holding Tryd.prog os ⟨#[], #[], []⟩).heap.size + 1, 0, none⟩))])).modify 7 (lay (Go.Pinned.utf8FirstZ.map fun (n : Nat) => Value.int .u8 (n : Int)).toArray)).modify 8 (lay #[.int .u8 128, .int .u8 191, .int .u8 160, .int .u8 191, .int .u8 128, .int .u8 159, .int .u8 144, .int .u8 191, .int .u8 128, .int .u8 143, .int .u8 0, .int .u8 0, .int .u8 0, .int .u8 0, .int .u8 0, .int .u8 0, .int .u8 0, .int .u8 0, .int .u8 0, .int .u8 0, .int .u8 0, .int .u8 0, .int .u8 0, .int .u8 0, .int .u8 0, .int .u8 0, .int .u8 0, .int .u8 0, .int .u8 0, .int .u8 0, .int .u8 0, .int .u8 0])).push (.cells #[.string ⟨#[105, 110, 118, 97, 108, 105, 100, 32, 115, 121, 110, 116, 97, 120]⟩] 124)).push (.cells #[.string ⟨#[118, 97, 108, 117, 101, 32, 111, 117, 116, 32, 111, 102, 32, 114, 97, 110, 103, 101]⟩] 124)) }
theorem laid_met (os : Os) : laidMet Tryd.prog Rows.traceReadsRow.laid ((laidWorld os).forCall (fun _ _ => 0) ⟨#[], #[.string ByteArray.empty], []⟩).memory := laidMet_of_run3 8 (by kernel_rfl) (by kernel_rfl) (by kernel_rfl)
theorem reads (os : Os) {H : Type} (enc : TypeId × Value → H) : ∃ places, DataW.whole enc Tryd.prog ((laidWorld os).forCall (fun _ _ => 0) ⟨#[], #[.string ByteArray.empty], []⟩).memory Tryd.f9.params.toList Rows.traceReadsSpec.vars false (#[.string ByteArray.empty] : Array Value).toList 8 = some ([.lit (.string [])], [], places) := ⟨[], by kernel_rfl⟩
set_option maxRecDepth 100000 in
theorem lifted (os : Os) (started : os.Started) (H : Type) (enc : TypeId × Value → H) (F : Stop.Interp) :
    ReturnsInHanded {} Tryd.checked os 9 .any ((OpenSpec.ofChange Rows.traceReadsSpec).preRow enc Tryd.prog Tryd.f9 Rows.traceReadsRow.domain false Rows.traceReadsRow.laid) (((OpenSpec.ofChange Rows.traceReadsSpec).at F).post enc Tryd.prog Tryd.f9 false true false false) := by
  obtain ⟨places, hx⟩ := reads os enc
  refine returnsInHanded_of_row (C := Tryd.checked) (s := (OpenSpec.ofChange Rows.traceReadsSpec)) own started (by kernel_rfl) Tryd.func9
    (witness_row_at (enc := enc) (C := Tryd.checked) false (laidWorld os) #[.string ByteArray.empty] rfl (by kernel_rfl) (by kernel_rfl) (by kernel_rfl)
      (OpenSpec.preRow_of_cond 8 hx (by kernel_rfl) (fun k hk => by cases hk) (by kernel_rfl) (laid_met os))) ?_
  intro W base args ds gs before hval hW _ _ hsz hL hSh _
  exact contract H enc W base args ds gs before hval hW hsz hSh hL
theorem said : Rows.TraceReadsSaid :=
  OpenClaim.holds_of_cond 9 Tryd.f9 rfl rfl rfl rfl rfl rfl rfl ⟨rfl, rfl, rfl, rfl, rfl⟩ rfl rfl rfl rfl rfl (by kernel_rfl) Tryd.func9 (by kernel_rfl)
    (of_decide_eq_true (by kernel_rfl)) (by unfold Func.isWrapper; first | (rw [if_pos (by decide +kernel)]; kernel_rfl) | (rw [if_neg (by decide +kernel)]; exact ⟨rfl, rfl⟩))
    (fun os started H enc _ F => by rw [OpenClaim.pre_eq_preRow]; exact lifted os started H enc F)
theorem plain (f : FuncId) (fn : Func) (hf : Tryd.pinned.checked.prog.funcNamed Rows.traceReadsRow.func = some f) (hfn : Tryd.pinned.checked.prog.funcs[f]? = some fn) :
    true = Tryd.pinned.checked.prog.looks [] ∧ ∀ (j : Nat) t, fn.params[j]? = some t → Tryd.pinned.checked.prog.wantsStandIn t = false := by
  obtain rfl : f = 9 := Option.some.inj ((show Tryd.prog.funcNamed Rows.traceReadsRow.func = some 9 by kernel_rfl).symm.trans hf) |>.symm
  obtain rfl : fn = Tryd.f9 := (Option.some.inj (Tryd.func9.symm.trans hfn)).symm
  refine ⟨by kernel_rfl, fun j t ht => ?_⟩
  rw [Tryd.params9] at ht
  have hm := Array.mem_of_getElem? ht
  simp at hm
  rcases hm with rfl
  · exact (show Tryd.prog.wantsStandIn 9 = false by kernel_rfl)
theorem card : Rows.TraceReadsCardSaid :=
  Claim7.holds_tied_plain_at .later [] _ _ _ _ said (fun _ h => by cases h) (by kernel_rfl) (fun _ h => by cases h) traceReads_row_tie rfl ⟨rfl, rfl⟩ (by kernel_rfl) rfl plain (by kernel_rfl)
end Go.Proofs.YtphbepddhhdhmaaDoor.traceReads
namespace Go.Proofs.YtphbepddhhdhmaaDoor
theorem traceReads_holds : Rows.TraceReadsCardSaid := traceReads.card
end Go.Proofs.YtphbepddhhdhmaaDoor
end
