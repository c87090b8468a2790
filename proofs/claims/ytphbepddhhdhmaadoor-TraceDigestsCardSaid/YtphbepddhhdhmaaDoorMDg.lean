import Derived.Test.YtphbepddhhdhmaaDoorMPr0
import Derived.Test.YtphbepddhhdhmaaDoorMPr
import Derived.Deep.QuietTactic
import Derived.BigQuiet
import Derived.Lib.Hide
import Derived.WalkKit
import Derived.Outline
import Derived.Test.YtphbepddhhdhmaaDoorMPr6
import Derived.Test.YtphbepddhhdhmaaDoorMPr8
import Derived.Test.YtphbepddhhdhmaaDoorCards
import Derived.Test.YtphbepddhhdhmaaDoorTie
import Derived.ProofKit
import Derived.OpenShut
import Derived.ShutString
import Derived.ChangeOld
import Derived.Below
import Derived.SizedLaws
import Derived.Lib.SmallJoins
import Derived.Deep.DeepHandedRow
import Derived.Lib.LaidTab
section
-- laid by a program of this session (wip/gp.sh)
namespace Go.Proofs.YtphbepddhhdhmaaDoor.GA
open Go.RowKit Go.Proofs.YtphbepddhhdhmaaDoorW.PrintWords Go.Proofs.YtphbepddhhdhmaaDoorW.PrintLast Go.Proofs.YtphbepddhhdhmaaDoorW.PrintMore
attribute [local go_sem] max2_int min2_int max_two min_two max_three min_three max_four min_four   -- for this text's walks alone
set_option linter.unusedVariables false
set_option linter.unusedSimpArgs false

/-! ### rotaref25_Digest: function 29 -/
def rotaref25_Digest.l0 : Nat → ByteArray → Int → Int → Option (Int × Int)
  | 0, _, _, _ => none
  | k + 1, x4, x6, x7 => if x7 < (x4.size : Int) then (if 0 ≤ x7 then (rotaref25_Digest.l0 k x4 (IntKind.u64.wrap ((Go.bits .xor .u64 x6 (IntKind.u64.wrap (bt x4 x7))) * 1099511628211)) (wrap64 (x7 + 1))) else (none)) else (some (x6, 0))
def rotaref25_Digest.f (k : Nat) (l0 : List (S36)) : Option (Int × Int) := (rotaref25_Print.f k l0).bind fun bt324 => (if bt324.2 = 0 then (rotaref25_Digest.l0 k bt324.1 14695981039346656037 0) else (some (0, bt324.2)))
theorem rotaref25_Digest.mono_l : ∀ k, (∀ y0 y1 y2, LeO (rotaref25_Digest.l0 k y0 y1 y2) (rotaref25_Digest.l0 (k + 1) y0 y1 y2))
  | 0 => fun _ _ _ r h => by simp [rotaref25_Digest.l0] at h
  | k + 1 => by
    have ih0 := rotaref25_Digest.mono_l k
    · intro y0 y1 y2
      unfold rotaref25_Digest.l0
      repeat' first
      | (with_reducible exact ih0 _ _ _)
      | (with_reducible exact rotaref25_Print.mono _ _)
      | (with_reducible exact LeO.refl _)
      | (with_reducible exact LeO.none _)
      | (with_reducible refine LeO.ite ?_ ?_)
      | (with_reducible refine LeO.bind ?_ (fun _ => ?_))
      | exact ih0 _ _ _
      | exact rotaref25_Print.mono _ _
      | exact LeO.none _
      | refine LeO.ite ?_ ?_
      | refine LeO.bind ?_ (fun _ => ?_)
theorem rotaref25_Digest.mono : ∀ a0 k, LeO (rotaref25_Digest.f k a0) (rotaref25_Digest.f (k + 1) a0) := by
  intro a0 k
  have ih0 := rotaref25_Digest.mono_l k
  unfold rotaref25_Digest.f
  repeat' first
      | (with_reducible exact ih0 _ _ _)
      | (with_reducible exact rotaref25_Print.mono _ _)
      | (with_reducible exact LeO.refl _)
      | (with_reducible exact LeO.none _)
      | (with_reducible refine LeO.ite ?_ ?_)
      | (with_reducible refine LeO.bind ?_ (fun _ => ?_))
      | exact ih0 _ _ _
      | exact rotaref25_Print.mono _ _
      | exact LeO.none _
      | refine LeO.ite ?_ ?_
      | refine LeO.bind ?_ (fun _ => ?_)
set_option maxHeartbeats 8000000 in
set_option maxRecDepth 100000 in
theorem rotaref25_Digest.calls (k : Nat) (A0 : Option Addr) (c0 : Nat) (l0 : List (S36)) (r1 : Int) (r2 : Int) (w : World) (hr0 : Kd.C k36 w A0 l0.length l0) (hc0 : l0.length ≤ c0) (h : rotaref25_Digest.f k l0 = some (r1, r2)) :
    Calls Tryd.prog 29 #[.slice A0 l0.length c0] w fun e w' => e = .returned (.tuple #[.int .u64 r1, .int .i64 r2]) ∧ Below w.heap.size w w' := by
  have HR0 := Aside0.mk hr0
  have HC0 := Aside0.mk hc0
  clear hr0 hc0
  have HB := Aside0.mk (Below.refl w.heap.size w)
  have H : ((rotaref25_Print.f k l0).bind fun bt324 => (if bt324.2 = 0 then (rotaref25_Digest.l0 k bt324.1 14695981039346656037 0) else (some (0, bt324.2)))) = some (r1, r2) := h
  clear h
  replace H := Option.bind_eq_some_iff.mp H
  obtain ⟨⟨t324, t325⟩, A20, H⟩ := H
  replace H : (if t325 = 0 then (rotaref25_Digest.l0 k t324 14695981039346656037 0) else (some (0, t325))) = some (r1, r2) := H
  have A2 := Aside0.mk A20
  clear A20
  by_cases c3 : t325 = 0
  · rw [if_pos c3] at H
    have c3b0 : (t325 == 0) = true := beq_iff_eq.mpr c3
    have c3b1 : (t325 != 0) = false := bne_eq_false_iff_eq.mpr c3
    clear c3
    have H' := Aside0.mk H
    clear H
    go_enter Tryd.func29, Tryd.ntmps29
    go_wp2_with (first | ((with_reducible refine gate_callee (f := 27) rfl ?_); refine goesL_ (some 10) rfl rfl Tryd.func27 (by kernel_rfl) rfl #[.slice A0 l0.length c0] rfl (by (try simp only [List.map_toArray, List.map_cons, List.map_nil]); first | done | rfl | (simp only [List.length_drop, List.length_take]; rfl)) ?_; (with_reducible refine (rotaref25_Print.calls k _ _ l0 t324 t325 _ ?side1 ?side2 A2.out).mono ?_); (case side1 => repeat (first | exact HR0.out | (with_reducible refine Kd.C_alloc ?_ _) | (with_reducible refine Kd.C_drewN ?_ _) | (with_reducible refine Kd.C_drew ?_))); (case side2 => exact HC0.out); rintro e w4 ⟨rfl, hb⟩; refine ⟨_, rfl, ?_⟩; have n0_ := Aside0.mk (below_step (by repeat (first | (with_reducible first | exact HB.out | apply below_alloc | apply pw_below_drewN | apply below_drew1) | exact HB.out)) hb); clear HB; have HB := n0_; clear n0_; (try clear hb); (try clear hb2); (try clear hk); (try clear hi)))
    go_loopg [6, 7] k (fun kq v6 v7 w' => ∃ (x6_1 : Int) (x7_1 : Int), v6 = .int .u64 x6_1 ∧ v7 = .int .i64 x7_1 ∧ Aside0 (rotaref25_Digest.l0 kq t324 x6_1 x7_1 = some (r1, r2)) ∧ Aside0 (kq ≤ k) ∧ Aside0 (Below w.heap.size w w'))
    case atStart => exact ⟨(14695981039346656037), (0), (by first | rfl | (simp; done) | (simp [*]; done)), (by first | rfl | (simp; done) | (simp [*]; done)), H', ⟨Nat.le_refl _⟩, ⟨by repeat (first | (with_reducible first | exact HB.out | apply below_alloc | apply pw_below_drewN | apply below_drew1) | exact HB.out)⟩⟩
    case round =>
      clear H'
      try clear c2
      try clear p2
      try clear c3
      try clear c3b0
      try clear c3b1
      obtain ⟨x6_1, x7_1, rfl, rfl, HA, HK1, HB⟩ := hrel
      cases gk with
      | zero => exact absurd HA.out (by simp [rotaref25_Digest.l0])
      | succ k1 =>
        have H := HA.out
        clear HA
        simp only [rotaref25_Digest.l0] at H
        by_cases c5 : x7_1 < (t324.size : Int)
        · rw [if_pos c5] at H
          have c5b0 : decide (x7_1 < (t324.size : Int)) = true := decide_eq_true c5
          clear c5
          by_cases c6 : 0 ≤ x7_1
          · rw [if_pos c6] at H
            have c6b0 : decide (0 ≤ x7_1) = true := decide_eq_true c6
            clear c6
            have H' := Aside0.mk H
            clear H
            have p7 : 0 ≤ (x7_1 : Int) := of_decide_eq_true (by first | (with_reducible assumption) | assumption)
            have q7 : x7_1 < (t324.size : Int) := of_decide_eq_true (by first | (with_reducible assumption) | assumption)
            have hx7 := bt_at t324 x7_1
            replace p7 := eq_true p7
            replace q7 := eq_true q7
            go_wp2
            go_roundg k1
            case measure => have := HK1.out; omega
            case rel => exact ⟨(IntKind.u64.wrap ((Go.bits .xor .u64 x6_1 (IntKind.u64.wrap (bt t324 x7_1))) * 1099511628211)), (wrap64 (x7_1 + 1)), (by first | rfl | (simp; done) | (simp [*]; done)), (by first | rfl | (simp; done) | (simp [*]; done)), H', ⟨by have := HK1.out; omega⟩, ⟨by repeat (first | (with_reducible first | exact HB.out | apply below_alloc | apply pw_below_drewN | apply below_drew1) | exact HB.out)⟩⟩
          · rw [if_neg c6] at H
            exact absurd H (by simp)
        · rw [if_neg c5] at H
          have c5b0 : decide (x7_1 < (t324.size : Int)) = false := decide_eq_false c5
          clear c5
          simp only [Option.some.injEq, Prod.mk.injEq] at H
          obtain ⟨rfl, rfl⟩ := H
          go_wp2
          go_ret2
          exact ⟨by first | rfl | (simp [errW_none, errW_some] <;> rfl) | (simp [*, errW_none, errW_some] <;> rfl), by repeat (first | (with_reducible first | exact HB.out | apply below_alloc | apply pw_below_drewN | apply below_drew1) | exact HB.out)⟩
  · rw [if_neg c3] at H
    have c3b0 : (t325 == 0) = false := beq_eq_false_iff_ne.mpr c3
    have c3b1 : (t325 != 0) = true := bne_iff_ne.mpr c3
    simp only [Option.some.injEq, Prod.mk.injEq] at H
    obtain ⟨rfl, rfl⟩ := H
    go_enter Tryd.func29, Tryd.ntmps29
    go_wp2_with (first | ((with_reducible refine gate_callee (f := 27) rfl ?_); refine goesL_ (some 10) rfl rfl Tryd.func27 (by kernel_rfl) rfl #[.slice A0 l0.length c0] rfl (by (try simp only [List.map_toArray, List.map_cons, List.map_nil]); first | done | rfl | (simp only [List.length_drop, List.length_take]; rfl)) ?_; (with_reducible refine (rotaref25_Print.calls k _ _ l0 t324 t325 _ ?side1 ?side2 A2.out).mono ?_); (case side1 => repeat (first | exact HR0.out | (with_reducible refine Kd.C_alloc ?_ _) | (with_reducible refine Kd.C_drewN ?_ _) | (with_reducible refine Kd.C_drew ?_))); (case side2 => exact HC0.out); rintro e w8 ⟨rfl, hb⟩; refine ⟨_, rfl, ?_⟩; have n0_ := Aside0.mk (below_step (by repeat (first | (with_reducible first | exact HB.out | apply below_alloc | apply pw_below_drewN | apply below_drew1) | exact HB.out)) hb); clear HB; have HB := n0_; clear n0_; (try clear hb); (try clear hb2); (try clear hk); (try clear hi)))
    go_ret2
    exact ⟨by first | rfl | (simp [errW_none, errW_some] <;> rfl) | (simp [*, errW_none, errW_some] <;> rfl), by repeat (first | (with_reducible first | exact HB.out | apply below_alloc | apply pw_below_drewN | apply below_drew1) | exact HB.out)⟩

end Go.Proofs.YtphbepddhhdhmaaDoor.GA
end

section
/-
  trace.Digest, by the frozen one's own rounds.
-/
set_option linter.unusedVariables false
set_option linter.unusedSimpArgs false
namespace Go.Proofs.YtphbepddhhdhmaaDoor.Hof
open Go.RowKit Go.Shelf Go.Proofs.YtphbepddhhdhmaaDoorW.PrintWords Go.Proofs.YtphbepddhhdhmaaDoorW.PrintLast Go.Proofs.YtphbepddhhdhmaaDoorW.PrintMore GA Hctx Hof Q

theorem bel_tab {w W : World} (h : TabB w.heap.size w) (hb : Below w.heap.size w W) : TabB W.heap.size W := fun w' hb' => h w' (below_step hb hb')
set_option maxHeartbeats 4000000 in
set_option maxRecDepth 100000 in
theorem digest_calls (k : Nat) (A : Option Addr) (c n : Nat) (sT : ByteArray) (r1 r2 d e2 : Int) (w : World) (hP : Calls Tryd.prog 26 #[.slice A n c] w fun e w' => e = .returned (.tuple #[.string sT, .int .i64 r2]) ∧ Below w.heap.size w w')
    (hD : (if r2 = 0 then (rotaref25_Digest.l0 k sT 14695981039346656037 0) else (some (0, r2))) = some (d, e2)) :
    Calls Tryd.prog 28 #[.slice A n c] w fun e w' => e = .returned (.tuple #[.int .u64 d, .int .i64 e2]) ∧ Below w.heap.size w w' := by
  have HP := Lib.hid hP
  have H := hD
  clear hP hD
  go_enter Tryd.func28, Tryd.ntmps28
  go_wp2_with fail
  refine HP.out.mono ?_
  rintro e w1 ⟨rfl, hb⟩
  have HB := Aside0.mk hb
  clear hb HP
  by_cases c3 : r2 = 0
  · rw [if_pos c3] at H
    have c3b1 : (r2 != 0) = false := bne_eq_false_iff_eq.mpr c3
    clear c3
    have H' := Aside0.mk H
    clear H
    go_wp2_with fail
    go_loopg [6, 18] k (fun kq v6 v18 w' => ∃ (x6_1 : Int) (x7_1 : Int), v6 = .int .u64 x6_1 ∧ v18 = .int .i64 x7_1 ∧ Aside0 (rotaref25_Digest.l0 kq sT x6_1 x7_1 = some (d, e2)) ∧ Aside0 (kq ≤ k) ∧ Aside0 (Below w.heap.size w w'))
    case atStart => exact ⟨(14695981039346656037), (0), rfl, rfl, H', ⟨Nat.le_refl _⟩, HB⟩
    case round =>
      clear H' HB
      obtain ⟨x6_1, x7_1, rfl, rfl, HA, HK1, HB⟩ := hrel
      cases gk with
      | zero => exact absurd HA.out (by simp [rotaref25_Digest.l0])
      | succ k1 =>
        have H := HA.out
        clear HA
        simp only [rotaref25_Digest.l0] at H
        by_cases c5 : x7_1 < (sT.size : Int)
        · rw [if_pos c5] at H
          have c5b0 : decide (x7_1 < (sT.size : Int)) = true := decide_eq_true c5
          clear c5
          by_cases c6 : 0 ≤ x7_1
          · rw [if_pos c6] at H
            have c6b0 : decide (0 ≤ x7_1) = true := decide_eq_true c6
            clear c6
            have H' := Aside0.mk H
            clear H
            have p7 : 0 ≤ (x7_1 : Int) := of_decide_eq_true (by first | (with_reducible assumption) | assumption)
            have q7 : x7_1 < (sT.size : Int) := of_decide_eq_true (by first | (with_reducible assumption) | assumption)
            have hx7 := bt_at sT x7_1
            replace p7 := eq_true p7
            replace q7 := eq_true q7
            go_wp2
            go_roundg k1
            case measure => have := HK1.out; omega
            case rel => exact ⟨(IntKind.u64.wrap ((Go.bits .xor .u64 x6_1 (IntKind.u64.wrap (bt sT x7_1))) * 1099511628211)), (wrap64 (x7_1 + 1)), (by first | rfl | (simp; done) | (simp [*]; done)), (by first | rfl | (simp; done) | (simp [*]; done)), H', ⟨by have := HK1.out; omega⟩, HB⟩
          · rw [if_neg c6] at H
            exact absurd H (by simp)
        · rw [if_neg c5] at H
          have c5b0 : decide (x7_1 < (sT.size : Int)) = false := decide_eq_false c5
          clear c5
          simp only [Option.some.injEq, Prod.mk.injEq] at H
          obtain ⟨rfl, rfl⟩ := H
          go_wp2
          go_ret2
          exact ⟨by first | rfl | simp, HB.out⟩
  · rw [if_neg c3] at H
    have c3b1 : (r2 != 0) = true := bne_iff_ne.mpr c3
    simp only [Option.some.injEq, Prod.mk.injEq] at H
    obtain ⟨rfl, rfl⟩ := H
    go_wp2_with fail
    go_ret2
    exact ⟨by first | rfl | simp, HB.out⟩
/-- The frozen digest of any text is told. -/
theorem dig_some (s : ByteArray) (hs : s.size < 2 ^ 62) : ∀ (d k i : Nat) (h : Int), s.size ≤ i + d → d < k → ∃ r, rotaref25_Digest.l0 k s h (i : Int) = some (r, 0) := by
  intro d
  induction d with
  | zero =>
    intro k i h h1 h2
    obtain ⟨k, rfl⟩ : ∃ j, k = j + 1 := ⟨k - 1, by omega⟩
    exact ⟨h, by rw [rotaref25_Digest.l0, if_neg (by omega)]⟩
  | succ d ih =>
    intro k i h h1 h2
    obtain ⟨k, rfl⟩ : ∃ j, k = j + 1 := ⟨k - 1, by omega⟩
    by_cases hi : i < s.size
    case neg => exact ⟨h, by rw [rotaref25_Digest.l0, if_neg (by omega)]⟩
    have w1 : wrap64 ((i : Int) + 1) = ((i + 1 : Nat) : Int) := by
      rw [Int.natCast_add]
      exact IntWalk.wrap64_in _ (by omega)
    obtain ⟨r, hr⟩ := ih k (i + 1) (IntKind.u64.wrap ((Go.bits .xor .u64 h (IntKind.u64.wrap (bt s (i : Int)))) * 1099511628211)) (by omega) (by omega)
    exact ⟨r, by rw [rotaref25_Digest.l0, if_pos (by omega), if_pos (by omega), w1, hr]⟩
theorem digests (xs : List S36) (hl : xs.length ≤ 1048576) (hx : ∀ x ∈ xs, Q.EvIn x) : ∃ k r1 r2 d e2, rotalaw25_twin.f k xs = some xs ∧ trace_Check.f k xs = some (r1, r2) ∧ (r2 = 0 → ∀ x ∈ xs, EvOk x) ∧
    (if r2 = 0 then (rotaref25_Digest.l0 k (if r2 = 0 then ⟨(textE xs).toArray⟩ else ⟨#[]⟩) 14695981039346656037 0) else (some (0, r2))) = some (d, e2) ∧ rotaref25_Digest.f k xs = some (d, e2) := by
  have hK : xs.length + 40 < xs.length + 40 + 300 * 1048576 := by omega
  obtain ⟨K, hKe⟩ : ∃ K, K = xs.length + 40 + 300 * 1048576 := ⟨_, rfl⟩
  obtain ⟨⟨r1, r2⟩, c1, c2⟩ := Q.check_some xs (by omega) xs.length K 0 (by omega) (by omega)
  have t := Q.twin_is xs (by omega) xs.length K 0 (by omega) (by omega)
  have hg : r2 = 0 → ∀ x ∈ xs, EvOk x := fun h x hm => by
    subst h
    obtain ⟨j, hj, rfl⟩ := List.getElem_of_mem hm
    exact (hx _ hm).ok (Q.check_kinds xs (by omega) _ 0 r1 c1 j (by omega) hj)
  have c2' : rotaref25_Check.l0 K xs 0 = some (r1, r2) := c2
  by_cases h : r2 = 0
  · have hp := Q.prints25 xs hl (hg h) xs.length K 0 (by omega) (by omega)
    have hle := textE_len xs (hg h)
    have hsz : (Q.sB (textE xs)).size = (textE xs).length := Q.sB_size _
    obtain ⟨d, hd⟩ := dig_some (Q.sB (textE xs)) (by omega) (textE xs).length K 0 14695981039346656037 (by omega) (by omega)
    refine ⟨K, r1, r2, d, 0, t, c1, hg, ?_, ?_⟩
    · rw [if_pos h, if_pos h]; exact hd
    · unfold rotaref25_Digest.f rotaref25_Print.f rotaref25_Check.f
      have hp' : rotaref25_Print.l0 K xs [] 0 = some (Q.sB (textE xs), 0) := hp
      have hd' : rotaref25_Digest.l0 K (Q.sB (textE xs)) 14695981039346656037 0 = some (d, 0) := hd
      simp only [c2', Option.bind_some, if_pos h, hp', if_true, hd']
  · refine ⟨K, r1, r2, 0, r2, t, c1, hg, ?_, ?_⟩
    · rw [if_neg h]
    · unfold rotaref25_Digest.f rotaref25_Print.f rotaref25_Check.f
      simp only [c2', Option.bind_some, if_neg h]
end Go.Proofs.YtphbepddhhdhmaaDoor.Hof
end

section
/-
  TraceDigests, walked.
-/
set_option linter.unusedVariables false
set_option linter.unusedSimpArgs false
namespace Go.Proofs.YtphbepddhhdhmaaDoor.Hof
open Go.RowKit Go.Shelf Go.Proofs.YtphbepddhhdhmaaDoorW.PrintWords Go.Proofs.YtphbepddhhdhmaaDoorW.PrintLast Go.Proofs.YtphbepddhhdhmaaDoorW.PrintMore GA Hctx Hof
set_option maxHeartbeats 4000000 in
set_option maxRecDepth 100000 in
theorem law8_calls (A : Option Addr) (c : Nat) (l : List S36) (w : World) (hl : Kd.C k36 w A l.length l) (kl : l.length ≤ c) (hx : ∀ x ∈ l, Q.EvIn x) (hB0 : 0 < w.heap.size) (htab : TabB w.heap.size w) (hLN : Laid.LaidNames w) :
    Calls Tryd.prog 8 #[.slice A l.length c] w fun e w' => e = .returned (.bool true) ∧ Below w.heap.size w w' := by
  have hu36 := Tryd.underlying36
  have HL := Aside0.mk hl
  have HTB := Lib.hid htab
  have HLN := Lib.hid hLN
  have HX := Lib.hid hx
  clear hl htab hLN hx
  by_cases bL : l.length > 1048576
  · have hLg : rotalaw25_long.f l = some true := by unfold rotalaw25_long.f; rw [decide_eq_true (by omega)]
    obtain ⟨k, r1, r2, d, e2, tw, ck, hg, hd, df⟩ := digests ([] : List S36) (by first | omega | simp) (fun x h => by simp at h)
    have TW := Lib.hid tw
    have DF := Lib.hid df
    have CP := Lib.hid (fun (A : Option Addr) (c : Nat) (W : World) (h1 : Kd.C k36 W A ([] : List S36).length ([] : List S36)) (h2 : ([] : List S36).length ≤ c) (h3 : 0 < W.heap.size) (h4 : TabB W.heap.size W) (h5 : Laid.LaidNames W) => digest_calls k A c ([] : List S36).length _ r1 r2 d e2 W (print_calls k A c ([] : List S36) r1 r2 W h1 h2 (by first | omega | simp) h3 h4 h5 ck hg) hd)
    clear tw ck hg hd df
    go_enter Tryd.func8, Tryd.ntmps8
    go_wp2_with fail
    refine (rotalaw25_long.calls A c l _ _ HL.out kl hLg).mono ?_
    rintro e w1 ⟨rfl, hd⟩
    have HB := Aside0.mk hd.below
    clear hd
    go_wp2_with fail
    refine (rotalaw25_twin.calls k none 0 ([] : List S36) ([] : List S36) _ (Kd.C_nil k36 _) (by simp) TW.out).mono ?_
    rintro e w2 ⟨v2, rfl, hR, hb⟩
    obtain ⟨A2, c2, rfl⟩ := Kd.R_slice hR
    have HB2 := Aside0.mk (below_step HB.out hb)
    have HR := Aside0.mk (Kd.R_reads' hR)
    clear hR hb HB
    go_wp2_with fail
    refine (CP.out A2 c2 _ HR.out.2.2 HR.out.2.1 (Nat.lt_of_lt_of_le hB0 HB2.out.size) (bel_tab HTB.out HB2.out) (HLN.out.below HB2.out)).mono ?_
    rintro e w3 ⟨rfl, hb⟩
    have HB3 := Aside0.mk (below_step HB2.out hb)
    clear hb HB2 HR
    go_wp2_with fail
    refine (rotaref25_Digest.calls k none 0 ([] : List S36) d e2 _ (Kd.C_nil k36 _) (by simp) DF.out).mono ?_
    rintro e w4 ⟨rfl, hb⟩
    have HB4 := Aside0.mk (below_step HB3.out hb)
    clear hb HB3
    go_wp2_with fail
    refine (rotalaw25_lives.calls true _ (HLN.out.below HB4.out) Q.lives).mono ?_
    rintro e w5 ⟨rfl, hd⟩
    have HB5 := Aside0.mk (below_step HB4.out hd.below)
    clear hd HB4
    go_wp2_with fail
    go_ret
    exact ⟨by first | rfl | simp, HB5.out⟩
  · have hLg : rotalaw25_long.f l = some false := by unfold rotalaw25_long.f; rw [decide_eq_false (by omega)]
    obtain ⟨k, r1, r2, d, e2, tw, ck, hg, hd, df⟩ := digests l (by first | omega | simp) HX.out
    have TW := Lib.hid tw
    have DF := Lib.hid df
    have CP := Lib.hid (fun (A : Option Addr) (c : Nat) (W : World) (h1 : Kd.C k36 W A l.length l) (h2 : l.length ≤ c) (h3 : 0 < W.heap.size) (h4 : TabB W.heap.size W) (h5 : Laid.LaidNames W) => digest_calls k A c l.length _ r1 r2 d e2 W (print_calls k A c l r1 r2 W h1 h2 (by first | omega | simp) h3 h4 h5 ck hg) hd)
    clear tw ck hg hd df
    go_enter Tryd.func8, Tryd.ntmps8
    go_wp2_with fail
    refine (rotalaw25_long.calls A c l _ _ HL.out kl hLg).mono ?_
    rintro e w1 ⟨rfl, hd⟩
    have HB := Aside0.mk hd.below
    clear hd
    go_wp2_with fail
    refine (rotalaw25_twin.calls k A c l l _ (Kd.C_below HL.out HB.out) kl TW.out).mono ?_
    rintro e w2 ⟨v2, rfl, hR, hb⟩
    obtain ⟨A2, c2, rfl⟩ := Kd.R_slice hR
    have HB2 := Aside0.mk (below_step HB.out hb)
    have HR := Aside0.mk (Kd.R_reads' hR)
    clear hR hb HB
    go_wp2_with fail
    refine (CP.out A2 c2 _ HR.out.2.2 HR.out.2.1 (Nat.lt_of_lt_of_le hB0 HB2.out.size) (bel_tab HTB.out HB2.out) (HLN.out.below HB2.out)).mono ?_
    rintro e w3 ⟨rfl, hb⟩
    have HB3 := Aside0.mk (below_step HB2.out hb)
    clear hb HB2 HR
    go_wp2_with fail
    refine (rotaref25_Digest.calls k A c l d e2 _ (Kd.C_below HL.out HB3.out) kl DF.out).mono ?_
    rintro e w4 ⟨rfl, hb⟩
    have HB4 := Aside0.mk (below_step HB3.out hb)
    clear hb HB3
    go_wp2_with fail
    refine (rotalaw25_lives.calls true _ (HLN.out.below HB4.out) Q.lives).mono ?_
    rintro e w5 ⟨rfl, hd⟩
    have HB5 := Aside0.mk (below_step HB4.out hd.below)
    clear hd HB4
    go_wp2_with fail
    go_ret
    exact ⟨by first | rfl | simp, HB5.out⟩
end Go.Proofs.YtphbepddhhdhmaaDoor.Hof
end

section
/-
  Digest tells what the frozen one tells, on any events.
-/
set_option linter.unusedVariables false
set_option linter.unusedSimpArgs false
namespace Go.Proofs.YtphbepddhhdhmaaDoor.traceDigests
open Go.ChangeShapes Go.WideShapes Go.ChangeAt Go.RowKit Go.Proofs.YtphbepddhhdhmaaDoorW.PrintWords Go.Proofs.YtphbepddhhdhmaaDoor.Opn
open Go.ChangeMaps (open_string shut_string)
theorem own : ownKnob Tryd.prog.godebug = none := by kernel_rfl
theorem laidOut : laidOutB Tryd.prog = true := by kernel_rfl
set_option maxRecDepth 100000 in
theorem contract (H : Type) (enc : TypeId × Value → H) (W : World) (base : Nat) (args : Array Value) (ds gs : List (DataW H)) (before : List MemPlace)
    (hval0 : ∀ (j : Nat) t v, Tryd.f8.params[j]? = some t → args[j]? = some v → Value.okWide Tryd.prog W .any base t v)
    (hW : DataW.Whole enc Tryd.prog Tryd.f8.params.toList Rows.traceDigestsSpec.vars false W args.toList ds gs before)
    (hsz0 : (DataW.weightsEach Tryd.prog (Tryd.f8.params.toList ++ (OpenSpec.ofChange Rows.traceDigestsSpec).bare.plain.varTypes Tryd.prog) (ds ++ gs)).all (· ≤ reachBytes) = true)
    (hL : laidMetH Tryd.prog Rows.traceDigestsRow.laid W) :
    Calls Tryd.prog 8 args W fun e W' => ∃ v, e = .returned v ∧ Rows.traceDigestsSpec.post enc Tryd.prog Tryd.f8 false true false false W args v W' := by
  have hsz : (DataW.weightsEach Tryd.prog (Tryd.f8.params.toList ++ Rows.traceDigestsSpec.plain.varTypes Tryd.prog) (ds ++ gs)).all (· ≤ reachBytes) = true := hsz0
  have hval : ∀ (j : Nat) t v, Tryd.f8.params[j]? = some t → args[j]? = some v → Value.okWide Tryd.prog W .any base t v := hval0
  have hLN : Laid.LaidNames W := Laid.names_of hL (by unfold Rows.traceDigestsRow; repeat (first | exact List.mem_cons_self | apply List.mem_cons_of_mem))
  have htab : Hof.TabB W.heap.size W := Laid.tab_of hL (by unfold Rows.traceDigestsRow; repeat (first | exact List.mem_cons_self | apply List.mem_cons_of_mem))
  have hB0 : 0 < W.heap.size := block_lt_of_cell (hLN 0 (by omega))
  have hW' := hW
  obtain ⟨p, q, hA0, hV, rfl, hfz, hnd⟩ := hW
  have hA : DataW.TrodAll enc Tryd.prog W 0 (fun _ => true) true Tryd.f8.params.toList args.toList ds p := hA0
  rw [Tryd.params8] at hA hval hsz
  obtain ⟨v0, vs0, d0, ds0, p0, q0, hargs, rfl, rfl, h0, r0⟩ := trodAll_cons hA
  obtain ⟨rfl, rfl, rfl⟩ := trodAll_nil r0
  obtain rfl : args = #[v0] := by cases args; simp_all
  obtain ⟨rfl, rfl⟩ := trodVars_none hV
  have k0 := h0
  have lt0 : ∀ x ∈ p0, x.block < W.heap.size := by obtain ⟨m, hm⟩ := k0; exact DataW.trod_lt m _ _ _ hm
  have ws0 : ∀ n ∈ d0.weights Tryd.prog 22, n ≤ reachBytes := fun n hn => by simpa using List.all_eq_true.1 hsz n (DataW.weights_mem_each (j := 0) rfl rfl n hn)
  obtain ⟨x0, K0, G0⟩ : ∃ x, (Kd.slice 36 GA.k36).K W x v0.cells.toList ∧ GSl 64 Kinds.G36 x (Rows.uptoBulk d0) := by
    obtain ⟨fuel, hf⟩ := h0
    exact Kinds.o22.opens enc W 0 _ _ fuel _ _ hf ws0
  obtain ⟨a0, len0, cap0, rfl⟩ := okWide_slice Tryd.underlying22 (hval 0 22 v0 rfl rfl)
  obtain ⟨A0, c0, e0, hc0, hC0⟩ := K0
  simp only [Value.cells, List.cons.injEq, and_true, Value.slice.injEq] at e0
  obtain ⟨rfl, rfl, rfl⟩ := e0
  clear hA0 hval hsz
  have ev0 : ∀ x ∈ x0, Q.EvIn x := fun x hx => by
    obtain ⟨g0, g1, ⟨g2, g3⟩, g4, g5, g6, g7⟩ := G0.2.2.2 x hx
    have g0' : (Lit.int .u64 x.f0).wf = true := g0
    have g1' : (Lit.int .i64 x.f1).wf = true := g1
    have g2' : (Lit.int .i64 x.f2.f0).wf = true := g2
    have g3' : (Lit.int .i64 x.f2.f1).wf = true := g3
    have g4' : (Lit.int .i64 x.f3).wf = true := g4
    have g5' : (Lit.int .i64 x.f4).wf = true := g5
    have g6' : (Lit.int .i64 x.f5).wf = true := g6
    have g7' : (Lit.int .i64 x.f6).wf = true := g7
    clear g0 g1 g2 g3 g4 g5 g6 g7
    simp [Lit.wf, IntKind.min, IntKind.max, IntKind.signed, IntKind.bits] at g0' g1' g2' g3' g4' g5' g6' g7'
    unfold Q.EvIn Hof.I64
    omega
  refine (Hof.law8_calls _ _ x0 W hC0 hc0 ev0 hB0 htab hLN).mono fun e W' ⟨he, bel⟩ => ?_
  subst he
  exact ⟨_, rfl, _, _, _, [], _, [], hW', trodAll_mk1 (shut_bool Tryd.underlying4 _), (trodAll_cons_mk (Below.trod laidOut (by kernel_rfl) (of_decide_eq_true (by kernel_rfl)) k0 bel lt0) trodAll_mk0), rfl, bel.frame _, fun h => by cases h⟩
def lay (cs : Array Value) : Obj → Obj
  | .cells _ t frozen => .cells cs t frozen
  | o => o
noncomputable def laidWorld (os : Os) : World := { World.holding Tryd.prog os ⟨#[], #[], []⟩ with heap := (((((World.holding Tryd.prog os ⟨#[], #[], []⟩).heap.modify 0 (lay (Laid.names.map Value.string).toArray)).modify 2 (lay #[.int .u64 1, .int .u64 10, .int .u64 100, .int .u64 1000, .int .u64 10000, .int .u64 100000, .int .u64 1000000, .int .u64 10000000, .int .u64 100000000, .int .u64 1000000000, .int .u64 10000000000, .int .u64 100000000000, .int .u64 1000000000000, .int .u64 10000000000000, .int .u64 100000000000000, .int .u64 1000000000000000, .int .u64 10000000000000000, .int .u64 100000000000000000, .int .u64 1000000000000000000, .int .u64 10000000000000000000])).modify 5 (lay #[.int .u8 0, .int .u8 1, .int .u8 28, .int .u8 2, .int .u8 29, .int .u8 14, .int .u8 24, .int .u8 3, .int .u8 30, .int .u8 22, .int .u8 20, .int .u8 15, .int .u8 25, .int .u8 17, .int .u8 4, .int .u8 8, .int .u8 31, .int .u8 27, .int .u8 13, .int .u8 23, .int .u8 21, .int .u8 19, .int .u8 16, .int .u8 7, .int .u8 26, .int .u8 12, .int .u8 18, .int .u8 6, .int .u8 11, .int .u8 5, .int .u8 10, .int .u8 9])).modify 6 (lay #[.int .u8 0, .int .u8 1, .int .u8 56, .int .u8 2, .int .u8 57, .int .u8 49, .int .u8 28, .int .u8 3, .int .u8 61, .int .u8 58, .int .u8 42, .int .u8 50, .int .u8 38, .int .u8 29, .int .u8 17, .int .u8 4, .int .u8 62, .int .u8 47, .int .u8 59, .int .u8 36, .int .u8 45, .int .u8 43, .int .u8 51, .int .u8 22, .int .u8 53, .int .u8 39, .int .u8 33, .int .u8 30, .int .u8 24, .int .u8 18, .int .u8 12, .int .u8 5, .int .u8 63, .int .u8 55, .int .u8 48, .int .u8 27, .int .u8 60, .int .u8 41, .int .u8 37, .int .u8 16, .int .u8 46, .int .u8 35, .int .u8 44, .int .u8 21, .int .u8 52, .int .u8 32, .int .u8 23, .int .u8 11, .int .u8 54, .int .u8 26, .int .u8 40, .int .u8 15, .int .u8 34, .int .u8 20, .int .u8 31, .int .u8 10, .int .u8 25, .int .u8 14, .int .u8 19, .int .u8 9, .int .u8 13, .int .u8 8, .int .u8 7, .int .u8 6])) }
theorem laid_met (os : Os) : laidMet Tryd.prog Rows.traceDigestsRow.laid ((laidWorld os).forCall (fun _ _ => 0) ⟨#[], #[.slice none 0 0], []⟩).memory := laidMet_of_run' 8 (by kernel_rfl) (by kernel_rfl)
theorem reads (os : Os) {H : Type} (enc : TypeId × Value → H) : ∃ places, DataW.whole enc Tryd.prog ((laidWorld os).forCall (fun _ _ => 0) ⟨#[], #[.slice none 0 0], []⟩).memory Tryd.f8.params.toList Rows.traceDigestsSpec.vars false (#[.slice none 0 0] : Array Value).toList 8 = some ([.nil], [], places) := ⟨[], by kernel_rfl⟩
set_option maxRecDepth 100000 in
theorem lifted (os : Os) (started : os.Started) (H : Type) (enc : TypeId × Value → H) (F : Stop.Interp) :
    ReturnsInHanded {} Tryd.checked os 8 .any ((OpenSpec.ofChange Rows.traceDigestsSpec).preRow enc Tryd.prog Tryd.f8 Rows.traceDigestsRow.domain false Rows.traceDigestsRow.laid) (((OpenSpec.ofChange Rows.traceDigestsSpec).at F).post enc Tryd.prog Tryd.f8 false true false false) := by
  obtain ⟨places, hx⟩ := reads os enc
  refine returnsInHanded_of_row (C := Tryd.checked) (s := (OpenSpec.ofChange Rows.traceDigestsSpec)) own started (by kernel_rfl) Tryd.func8
    (witness_row_at (enc := enc) (C := Tryd.checked) false (laidWorld os) #[.slice none 0 0] rfl (by kernel_rfl) (by kernel_rfl) (by kernel_rfl)
      (OpenSpec.preRow_of_cond 8 hx (by kernel_rfl) (fun k hk => by cases hk) (by kernel_rfl) (laid_met os))) ?_
  intro W base args ds gs before hval hW _ _ hsz hL _ _
  exact contract H enc W base args ds gs before hval hW hsz hL
theorem said : Rows.TraceDigestsSaid :=
  OpenClaim.holds_of_cond 8 Tryd.f8 rfl rfl rfl rfl rfl rfl rfl ⟨rfl, rfl, rfl, rfl, rfl⟩ rfl rfl rfl rfl rfl (by kernel_rfl) Tryd.func8 (by kernel_rfl)
    (of_decide_eq_true (by kernel_rfl)) (by unfold Func.isWrapper; first | (rw [if_pos (by decide +kernel)]; kernel_rfl) | (rw [if_neg (by decide +kernel)]; exact ⟨rfl, rfl⟩))
    (fun os started H enc _ F => by rw [OpenClaim.pre_eq_preRow]; exact lifted os started H enc F)
theorem plain (f : FuncId) (fn : Func) (hf : Tryd.pinned.checked.prog.funcNamed Rows.traceDigestsRow.func = some f) (hfn : Tryd.pinned.checked.prog.funcs[f]? = some fn) :
    true = Tryd.pinned.checked.prog.looks [] ∧ ∀ (j : Nat) t, fn.params[j]? = some t → Tryd.pinned.checked.prog.wantsStandIn t = false := by
  obtain rfl : f = 8 := Option.some.inj ((show Tryd.prog.funcNamed Rows.traceDigestsRow.func = some 8 by kernel_rfl).symm.trans hf) |>.symm
  obtain rfl : fn = Tryd.f8 := (Option.some.inj (Tryd.func8.symm.trans hfn)).symm
  refine ⟨by kernel_rfl, fun j t ht => ?_⟩
  rw [Tryd.params8] at ht
  have hm := Array.mem_of_getElem? ht
  simp at hm
  rcases hm with rfl
  · exact (show Tryd.prog.wantsStandIn 22 = false by kernel_rfl)
theorem card : Rows.TraceDigestsCardSaid :=
  Claim7.holds_tied_plain_at .later [] _ _ _ _ said (fun _ h => by cases h) (by kernel_rfl) (fun _ h => by cases h) traceDigests_row_tie rfl ⟨rfl, rfl⟩ (by kernel_rfl) rfl plain (by kernel_rfl)
end Go.Proofs.YtphbepddhhdhmaaDoor.traceDigests
namespace Go.Proofs.YtphbepddhhdhmaaDoor
theorem traceDigests_holds : Rows.TraceDigestsCardSaid := traceDigests.card
end Go.Proofs.YtphbepddhhdhmaaDoor
end
