import Derived.Test.YthjfmlehkcccfaaMCosts0
import Derived.Test.YthjfmlehkcccfaaMCosts4
import Derived.Test.YthjfmlehkcccfaaMCosts2
import Derived.Test.YthjfmlehkcccfaaMCosts5
import Derived.Deep.QuietTactic
import Derived.BigQuiet
import Derived.Deep.MidRow
import Derived.Lib.Hide
import Derived.Outline
import Derived.Test.YthjfmlehkcccfaaWEqStruct
import Derived.Deep.RegionHeld3
import Derived.WalkKit
import Derived.Test.YthjfmlehkcccfaaWLast
import Derived.Test.YthjfmlehkcccfaaMCosts1
import Derived.Test.YthjfmlehkcccfaaRows
import Derived.Test.YthjfmlehkcccfaaWMore
import Derived.ChangeArms
import Derived.DataReads
import Derived.OpenShut
import Derived.DataElems
import Derived.SizedLaws
import Derived.ProofKit
import Derived.ShutString
import Derived.ChangeOld
import Derived.Below
import Derived.Lib.SmallJoins
section
-- laid by a program of this session (wip/gp.sh)
namespace Go.Proofs.Ythjfmlehkcccfaa.GA
open Go.RowKit Go.Proofs.YthjfmlehkcccfaaW.PrintWords Go.Proofs.YthjfmlehkcccfaaW.PrintLast Go.Proofs.YthjfmlehkcccfaaW.PrintMore
attribute [local go_sem] max2_int min2_int max_two min_two max_three min_three max_four min_four   -- for this text's walks alone
set_option linter.unusedVariables false
set_option linter.unusedSimpArgs false

/-! ### rotaref06_Cost: function 39 -/
def rotaref06_Cost.f (a0 : Int) : Option (Int × Int) := (rotaref06_table.f a0).bind fun bt392 => (if bt392.2.2.2.2.2 = true then (some (bt392.2.2.1, 0)) else (some (0, 60)))
set_option maxHeartbeats 8000000 in
set_option maxRecDepth 100000 in
theorem rotaref06_Cost.calls (a0 : Int) (r1 : Int) (r2 : Int) (w : World) (h : rotaref06_Cost.f a0 = some (r1, r2)) :
    Calls Try.prog 39 #[.int .i64 a0] w fun e w' => e = .returned (.tuple #[.int .i64 r1, .int .i64 r2]) ∧ Below w.heap.size w w' := by
  have hu86 := Try.underlying86
  have HB := Aside0.mk (Below.refl w.heap.size w)
  have H : ((rotaref06_table.f a0).bind fun bt392 => (if bt392.2.2.2.2.2 = true then (some (bt392.2.2.1, 0)) else (some (0, 60)))) = some (r1, r2) := h
  clear h
  replace H := Option.bind_eq_some_iff.mp H
  obtain ⟨⟨t392, t393, t394, t395, t396, t397⟩, A20, H⟩ := H
  replace H : (if t397 = true then (some (t394, 0)) else (some (0, 60))) = some (r1, r2) := H
  have A2 := Aside0.mk A20
  clear A20
  by_cases c3 : t397 = true
  · subst c3
    have H1 : (some (t394, 0)) = some (r1, r2) := by rw [if_pos rfl] at H; exact H
    clear H
    have H := H1
    clear H1
    simp only [Option.some.injEq, Prod.mk.injEq] at H
    obtain ⟨rfl, rfl⟩ := H
    go_enter Try.func39, Try.ntmps39
    go_wp2_with (first | ((with_reducible refine gate_callee (f := 40) rfl ?_); refine goesL_ (some 8) rfl rfl Try.func40 (by kernel_rfl) rfl #[.int .i64 a0] rfl (by (try simp only [List.map_toArray, List.map_cons, List.map_nil]); first | done | rfl | (simp only [List.length_drop, List.length_take]; rfl)) ?_; (with_reducible refine (rotaref06_table.calls a0 t392 t393 t394 t395 t396 true _ A2.out).mono ?_); rintro e w4 ⟨rfl, hb⟩; refine ⟨_, rfl, ?_⟩; have n0_ := Aside0.mk (below_step (by repeat (first | (with_reducible first | exact HB.out | apply below_alloc | apply pw_below_drewN | apply below_drew1) | exact HB.out)) hb); clear HB; have HB := n0_; clear n0_; (try clear hb); (try clear hb2); (try clear hk); (try clear hi)) | ((with_reducible refine gate_dst (N := 4) rfl ?_); refine box_event ?hg (N := 4) ?hd (cs := #[.string (⟨#[]⟩ : ByteArray), .int .i64 0, .int .i64 0, .string (⟨#[]⟩ : ByteArray), .string (⟨#[]⟩ : ByteArray)]) (t := 86) ?hr ?_; (case hd => rfl); (case hg => rfl); (case hr => first | (go_simp; done) | (go_simp; rfl)); intro gb398 hg w5 hbox hb; have n0_ := Aside0.mk (below_step (by repeat (first | (with_reducible first | exact HB.out | apply below_alloc | apply pw_below_drewN | apply below_drew1) | exact HB.out)) hb); have n1_ := Aside0.mk (hbox); have n2_ := Aside0.mk ((by rw [hg]; exact (below_size (by repeat (first | (with_reducible first | exact HB.out | apply below_alloc | apply pw_below_drewN | apply below_drew1) | exact HB.out))) : w.heap.size ≤ gb398)); have n3_ := Aside0.mk ((by rw [hg]; exact (below_size (by repeat (first | (with_reducible first | exact HB.out | apply below_alloc | apply pw_below_drewN | apply below_drew1) | exact HB.out))) : w.heap.size ≤ gb398)); clear HB; have HB := n0_; have BK398 := n1_; have GW398 := n2_; have GE398 := n3_; clear n0_ n1_ n2_ n3_; clear hb hbox hg; have hcz6_0 : w5.cell? ⟨gb398, 0, none⟩ = some (.string (⟨#[]⟩ : ByteArray)) := (blk_cell BK398.out 0).trans rfl; have hcz6_1 : w5.cell? ⟨gb398, 1, none⟩ = some (.int .i64 0) := (blk_cell BK398.out 1).trans rfl; have hcz6_2 : w5.cell? ⟨gb398, 2, none⟩ = some (.int .i64 0) := (blk_cell BK398.out 2).trans rfl; have hcz6_3 : w5.cell? ⟨gb398, 3, none⟩ = some (.string (⟨#[]⟩ : ByteArray)) := (blk_cell BK398.out 3).trans rfl; have hcz6_4 : w5.cell? ⟨gb398, 4, none⟩ = some (.string (⟨#[]⟩ : ByteArray)) := (blk_cell BK398.out 4).trans rfl; have hfz6_0 := blk_frozen BK398.out 0; have hfz6_1 := blk_frozen BK398.out 1; have hfz6_2 := blk_frozen BK398.out 2; have hfz6_3 := blk_frozen BK398.out 3; have hfz6_4 := blk_frozen BK398.out 4))
    go_ret2
    exact ⟨by first | rfl | (simp [errW_none, errW_some] <;> rfl) | (simp [*, errW_none, errW_some] <;> rfl), by repeat (first | (with_reducible first | exact HB.out | apply below_alloc | apply pw_below_drewN | apply below_drew1 | refine below_set ?_ GE398.out) | exact HB.out)⟩
  · replace c3 := Bool.eq_false_iff.mpr c3
    subst c3
    have H1 : (some (0, 60)) = some (r1, r2) := by rw [if_neg (show ¬ (false = true) by decide)] at H; exact H
    clear H
    have H := H1
    clear H1
    simp only [Option.some.injEq, Prod.mk.injEq] at H
    obtain ⟨rfl, rfl⟩ := H
    go_enter Try.func39, Try.ntmps39
    go_wp2_with (first | ((with_reducible refine gate_callee (f := 40) rfl ?_); refine goesL_ (some 8) rfl rfl Try.func40 (by kernel_rfl) rfl #[.int .i64 a0] rfl (by (try simp only [List.map_toArray, List.map_cons, List.map_nil]); first | done | rfl | (simp only [List.length_drop, List.length_take]; rfl)) ?_; (with_reducible refine (rotaref06_table.calls a0 t392 t393 t394 t395 t396 false _ A2.out).mono ?_); rintro e w7 ⟨rfl, hb⟩; refine ⟨_, rfl, ?_⟩; have n0_ := Aside0.mk (below_step (by repeat (first | (with_reducible first | exact HB.out | apply below_alloc | apply pw_below_drewN | apply below_drew1) | exact HB.out)) hb); clear HB; have HB := n0_; clear n0_; (try clear hb); (try clear hb2); (try clear hk); (try clear hi)) | ((with_reducible refine gate_dst (N := 4) rfl ?_); refine box_event ?hg (N := 4) ?hd (cs := #[.string (⟨#[]⟩ : ByteArray), .int .i64 0, .int .i64 0, .string (⟨#[]⟩ : ByteArray), .string (⟨#[]⟩ : ByteArray)]) (t := 86) ?hr ?_; (case hd => rfl); (case hg => rfl); (case hr => first | (go_simp; done) | (go_simp; rfl)); intro gb398 hg w8 hbox hb; have n0_ := Aside0.mk (below_step (by repeat (first | (with_reducible first | exact HB.out | apply below_alloc | apply pw_below_drewN | apply below_drew1) | exact HB.out)) hb); have n1_ := Aside0.mk (hbox); have n2_ := Aside0.mk ((by rw [hg]; exact (below_size (by repeat (first | (with_reducible first | exact HB.out | apply below_alloc | apply pw_below_drewN | apply below_drew1) | exact HB.out))) : w.heap.size ≤ gb398)); have n3_ := Aside0.mk ((by rw [hg]; exact (below_size (by repeat (first | (with_reducible first | exact HB.out | apply below_alloc | apply pw_below_drewN | apply below_drew1) | exact HB.out))) : w.heap.size ≤ gb398)); clear HB; have HB := n0_; have BK398 := n1_; have GW398 := n2_; have GE398 := n3_; clear n0_ n1_ n2_ n3_; clear hb hbox hg; have hcz9_0 : w8.cell? ⟨gb398, 0, none⟩ = some (.string (⟨#[]⟩ : ByteArray)) := (blk_cell BK398.out 0).trans rfl; have hcz9_1 : w8.cell? ⟨gb398, 1, none⟩ = some (.int .i64 0) := (blk_cell BK398.out 1).trans rfl; have hcz9_2 : w8.cell? ⟨gb398, 2, none⟩ = some (.int .i64 0) := (blk_cell BK398.out 2).trans rfl; have hcz9_3 : w8.cell? ⟨gb398, 3, none⟩ = some (.string (⟨#[]⟩ : ByteArray)) := (blk_cell BK398.out 3).trans rfl; have hcz9_4 : w8.cell? ⟨gb398, 4, none⟩ = some (.string (⟨#[]⟩ : ByteArray)) := (blk_cell BK398.out 4).trans rfl; have hfz9_0 := blk_frozen BK398.out 0; have hfz9_1 := blk_frozen BK398.out 1; have hfz9_2 := blk_frozen BK398.out 2; have hfz9_3 := blk_frozen BK398.out 3; have hfz9_4 := blk_frozen BK398.out 4))
    go_ret2
    exact ⟨by first | rfl | (simp [errW_none, errW_some] <;> rfl) | (simp [*, errW_none, errW_some] <;> rfl), by repeat (first | (with_reducible first | exact HB.out | apply below_alloc | apply pw_below_drewN | apply below_drew1 | refine below_set ?_ GE398.out) | exact HB.out)⟩

end Go.Proofs.Ythjfmlehkcccfaa.GA
end

section
/-
  Cost, walked.
-/
set_option linter.unusedVariables false
set_option linter.unusedSimpArgs false
namespace Go.Proofs.Ythjfmlehkcccfaa.Hcost
open Go.RowKit Go.Proofs.YthjfmlehkcccfaaW.PrintWords Go.Proofs.YthjfmlehkcccfaaW.PrintLast Go.Proofs.YthjfmlehkcccfaaW.PrintMore GA Hctx Hsmall

set_option maxHeartbeats 2000000 in
set_option maxRecDepth 100000 in
theorem cost18_bad (l0 : List Int) (l1 : List S75) (l2 : List S98) (A0 A1 A2 : Option Addr) (c0 c1 c2 : Nat) (pc : Int) (r : Regs) (A : Option Addr) (c : Nat) (l : List Int) (w : World)
    (h0 : Kd.C (Kd.int .u32) w A0 l0.length l0) (k0 : l0.length ≤ c0) (h1 : Kd.C k75 w A1 l1.length l1) (k1 : l1.length ≤ c1) (h2 : Kd.C k98 w A2 l2.length l2) (k2 : l2.length ≤ c2) (hl : Kd.C (Kd.int .i64) w A l.length l) (kl : l.length ≤ c) (hlim : l.length < 17592186044416)
    (hn : step_next.f l0 l1 l2 pc r.r0 r.r1 r.r2 r.r3 r.r4 r.r5 r.r6 r.r7 r.r8 r.r9 r.r10 r.r11 r.r12 r.r13 r.r14 r.r15 l = some (0, 0, 0, 0, 0, false)) :
    Calls Try.prog 18 #[.agg #[.slice A0 l0.length c0, .slice A1 l1.length c1, .slice A2 l2.length c2], .agg (ctx pc r (.slice A l.length c))] w fun x w' => x = .returned (.int .i64 1) ∧ Below w.heap.size w w' := by
  have hu26 := Try.underlying26
  have hu30 := Try.underlying30
  have H0 := Aside0.mk h0
  clear h0
  have H1 := Aside0.mk h1
  clear h1
  have H2 := Aside0.mk h2
  clear h2
  have HL := Aside0.mk hl
  clear hl
  have HN := Aside0.mk hn
  clear hn
  have M0 := Aside0.mk (Mem.start 3 w)
  go_enter Try.func18, Try.ntmps18
  go_wp2_with (first
    | ((with_reducible refine gate_dst (N := 2) rfl ?_); refine box_event ?hg (N := 2) ?hd (cs := #[.slice A0 l0.length c0, .slice A1 l1.length c1, .slice A2 l2.length c2]) (t := 26) ?hr ?_; (case hd => rfl); (case hg => rfl); (case hr => first | (go_simp; done) | (go_simp; rfl)); intro g2 hg w2 hbox hb; have M1 := Aside0.mk (Mem.box M0.out hg hbox hb (by decide)); clear M0 hg hbox hb)
    | ((with_reducible refine gate_dst (N := 3) rfl ?_); refine box_event ?hg (N := 3) ?hd (cs := (ctx pc r (.slice A l.length c))) (t := 30) ?hr ?_; (case hd => rfl); (case hg => rfl); (case hr => first | (go_simp; done) | (go_simp; rfl)); intro g3 hg w3 hbox hb; have M2 := Aside0.mk (Mem.box M1.out hg hbox hb (by decide)); clear M1 hg hbox hb)
    | ((with_reducible refine gate_dst (N := 10) rfl ?_); refine wpList_load_row rfl 26 (.tmp 2) rfl g2 rfl 26 #[.slice A0 l0.length c0, .slice A1 l1.length c1, .slice A2 l2.length c2] (0, 0) _ (M2.out.at 0 rfl) hu26 rfl (by kernel_rfl) ?_)
    | ((with_reducible refine gate_dst (N := 11) rfl ?_); refine wpList_load_row rfl 30 (.tmp 3) rfl g3 rfl 30 (ctx pc r (.slice A l.length c)) (0, 0) _ (M2.out.at 1 rfl) hu30 rfl (by kernel_rfl) ?_))
  refine (step_next.calls A0 c0 l0 _ c1 l1 A2 c2 l2 pc r.r0 r.r1 r.r2 r.r3 r.r4 r.r5 r.r6 r.r7 r.r8 r.r9 r.r10 r.r11 r.r12 r.r13 r.r14 r.r15 A c l _ _ _ _ _ _ _ (Kd.C_below H0.out M2.out.below) k0 (Kd.C_below H1.out M2.out.below) k1 (Kd.C_below H2.out M2.out.below) k2 (Kd.C_below HL.out M2.out.below) kl HN.out).mono ?_
  rintro e W12 ⟨rfl, hb⟩
  have M3 := Aside0.mk (Mem.call M2.out hb)
  clear M2 hb
  go_wp2_with (first
    | ((with_reducible refine gate_dst (N := 5) rfl ?_); refine box_event ?hg (N := 5) ?hd (cs := (instC 0 0 0 0 0)) (t := 37) ?hr ?_; (case hd => rfl); (case hg => rfl); (case hr => first | (go_simp; done) | (go_simp; rfl)); intro g5 hg w5 hbox hb; have M4 := Aside0.mk (Mem.box M3.out hg hbox hb (by decide)); clear M3 hg hbox hb)
    | ((with_reducible refine gate_store (t := 37) (p := 5) rfl ?_); refine row_event (t := 37) (p := 5) (v := ?vo1) ?hg ?ho ?hn g5 (tb := 37) (instC 0 0 0 0 0) (instC 0 0 0 0 0) ?hp ?hv (M4.out.at 2 rfl) ?hi rfl (by kernel_rfl) ?_; (case ho => rfl); (case hg => rfl); (case hn => rfl); (case hp => rfl); (case hv => first | rfl | (go_simp; done) | (go_simp; rfl)); (case hi => kernel_rfl); intro w_M5 hn hk hb; have M5 := Aside0.mk (Mem.keep M4.out 2 rfl hn hk (hb w M4.out.below (M4.out.ge 2 rfl))); clear M4 hn hk hb))
  go_ret
  exact ⟨rfl, M5.out.below⟩

set_option maxHeartbeats 2000000 in
set_option maxRecDepth 100000 in
theorem cost18_ok (l0 : List Int) (l1 : List S75) (l2 : List S98) (A0 A1 A2 : Option Addr) (c0 c1 c2 : Nat) (pc : Int) (r : Regs) (A : Option Addr) (c : Nat) (l : List Int) (w : World)
    (h0 : Kd.C (Kd.int .u32) w A0 l0.length l0) (k0 : l0.length ≤ c0) (h1 : Kd.C k75 w A1 l1.length l1) (k1 : l1.length ≤ c1) (h2 : Kd.C k98 w A2 l2.length l2) (k2 : l2.length ≤ c2) (hl : Kd.C (Kd.int .i64) w A l.length l) (kl : l.length ≤ c) (hlim : l.length < 17592186044416)
    (op v e : Int) (a b c' : Nat) (m : Int) (hv : word_Cost.f op = some (v, e)) (hn : step_next.f l0 l1 l2 pc r.r0 r.r1 r.r2 r.r3 r.r4 r.r5 r.r6 r.r7 r.r8 r.r9 r.r10 r.r11 r.r12 r.r13 r.r14 r.r15 l = some (op, (a : Int), (b : Int), (c' : Int), m, true)) :
    Calls Try.prog 18 #[.agg #[.slice A0 l0.length c0, .slice A1 l1.length c1, .slice A2 l2.length c2], .agg (ctx pc r (.slice A l.length c))] w fun x w' => x = .returned (.int .i64 v) ∧ Below w.heap.size w w' := by
  have hu26 := Try.underlying26
  have hu30 := Try.underlying30
  have H0 := Aside0.mk h0
  clear h0
  have H1 := Aside0.mk h1
  clear h1
  have H2 := Aside0.mk h2
  clear h2
  have HL := Aside0.mk hl
  clear hl
  have HN := Aside0.mk hn
  clear hn
  have HV := Aside0.mk hv
  clear hv
  have M0 := Aside0.mk (Mem.start 3 w)
  go_enter Try.func18, Try.ntmps18
  go_wp2_with (first
    | ((with_reducible refine gate_dst (N := 2) rfl ?_); refine box_event ?hg (N := 2) ?hd (cs := #[.slice A0 l0.length c0, .slice A1 l1.length c1, .slice A2 l2.length c2]) (t := 26) ?hr ?_; (case hd => rfl); (case hg => rfl); (case hr => first | (go_simp; done) | (go_simp; rfl)); intro g2 hg w2 hbox hb; have M1 := Aside0.mk (Mem.box M0.out hg hbox hb (by decide)); clear M0 hg hbox hb)
    | ((with_reducible refine gate_dst (N := 3) rfl ?_); refine box_event ?hg (N := 3) ?hd (cs := (ctx pc r (.slice A l.length c))) (t := 30) ?hr ?_; (case hd => rfl); (case hg => rfl); (case hr => first | (go_simp; done) | (go_simp; rfl)); intro g3 hg w3 hbox hb; have M2 := Aside0.mk (Mem.box M1.out hg hbox hb (by decide)); clear M1 hg hbox hb)
    | ((with_reducible refine gate_dst (N := 10) rfl ?_); refine wpList_load_row rfl 26 (.tmp 2) rfl g2 rfl 26 #[.slice A0 l0.length c0, .slice A1 l1.length c1, .slice A2 l2.length c2] (0, 0) _ (M2.out.at 0 rfl) hu26 rfl (by kernel_rfl) ?_)
    | ((with_reducible refine gate_dst (N := 11) rfl ?_); refine wpList_load_row rfl 30 (.tmp 3) rfl g3 rfl 30 (ctx pc r (.slice A l.length c)) (0, 0) _ (M2.out.at 1 rfl) hu30 rfl (by kernel_rfl) ?_))
  refine (step_next.calls A0 c0 l0 _ c1 l1 A2 c2 l2 pc r.r0 r.r1 r.r2 r.r3 r.r4 r.r5 r.r6 r.r7 r.r8 r.r9 r.r10 r.r11 r.r12 r.r13 r.r14 r.r15 A c l _ _ _ _ _ _ _ (Kd.C_below H0.out M2.out.below) k0 (Kd.C_below H1.out M2.out.below) k1 (Kd.C_below H2.out M2.out.below) k2 (Kd.C_below HL.out M2.out.below) kl HN.out).mono ?_
  rintro e W12 ⟨rfl, hb⟩
  have M3 := Aside0.mk (Mem.call M2.out hb)
  clear M2 hb
  go_wp2_with (first
    | ((with_reducible refine gate_dst (N := 5) rfl ?_); refine box_event ?hg (N := 5) ?hd (cs := (instC 0 0 0 0 0)) (t := 37) ?hr ?_; (case hd => rfl); (case hg => rfl); (case hr => first | (go_simp; done) | (go_simp; rfl)); intro g5 hg w5 hbox hb; have M4 := Aside0.mk (Mem.box M3.out hg hbox hb (by decide)); clear M3 hg hbox hb)
    | ((with_reducible refine gate_store (t := 37) (p := 5) rfl ?_); refine row_event (t := 37) (p := 5) (v := ?vo1) ?hg ?ho ?hn g5 (tb := 37) (instC 0 0 0 0 0) (instC op (a : Int) (b : Int) (c' : Int) m) ?hp ?hv (M4.out.at 2 rfl) ?hi rfl (by kernel_rfl) ?_; (case ho => rfl); (case hg => rfl); (case hn => rfl); (case hp => rfl); (case hv => first | rfl | (go_simp; done) | (go_simp; rfl)); (case hi => kernel_rfl); intro w_M5 hn hk hb; have M5 := Aside0.mk (Mem.keep M4.out 2 rfl hn hk (hb w M4.out.below (M4.out.ge 2 rfl))); clear M4 hn hk hb)
    | ((with_reducible refine gate_dst (N := 19) rfl ?_); refine load_event rfl (N := 19) rfl (t := 3) (p := 18) rfl ⟨g5, 0, none⟩ (.int .i64 op) ?hp (fun _ => by kernel_rfl) ((M5.out.cell 2 rfl 0).trans (rfl)) ?_; (case hp => first | rfl | (go_simp; done) | (go_simp; rfl))))
  refine (word_Cost.calls op _ _ _ HV.out).mono ?_
  rintro e W20 ⟨rfl, hb⟩
  have M6 := Aside0.mk (Mem.call M5.out hb)
  clear M5 hb
  go_wp2_with fail
  go_ret
  exact ⟨rfl, M6.out.below⟩

set_option maxHeartbeats 2000000 in
set_option maxRecDepth 100000 in
theorem cost19_bad (l0 : List Int) (l1 : List S75) (l2 : List S98) (A0 A1 A2 : Option Addr) (c0 c1 c2 : Nat) (pc : Int) (r : Regs) (A : Option Addr) (c : Nat) (l : List Int) (w : World)
    (h0 : Kd.C (Kd.int .u32) w A0 l0.length l0) (k0 : l0.length ≤ c0) (h1 : Kd.C k75 w A1 l1.length l1) (k1 : l1.length ≤ c1) (h2 : Kd.C k98 w A2 l2.length l2) (k2 : l2.length ≤ c2) (hl : Kd.C (Kd.int .i64) w A l.length l) (kl : l.length ≤ c) (hlim : l.length < 17592186044416)
    (hn : rotaref09_next.f l0 l1 l2 pc r.r0 r.r1 r.r2 r.r3 r.r4 r.r5 r.r6 r.r7 r.r8 r.r9 r.r10 r.r11 r.r12 r.r13 r.r14 r.r15 l = some (0, 0, 0, 0, 0, false)) :
    Calls Try.prog 19 #[.agg #[.slice A0 l0.length c0, .slice A1 l1.length c1, .slice A2 l2.length c2], .agg (ctx pc r (.slice A l.length c))] w fun x w' => x = .returned (.int .i64 1) ∧ Below w.heap.size w w' := by
  have hu26 := Try.underlying26
  have hu30 := Try.underlying30
  have H0 := Aside0.mk h0
  clear h0
  have H1 := Aside0.mk h1
  clear h1
  have H2 := Aside0.mk h2
  clear h2
  have HL := Aside0.mk hl
  clear hl
  have HN := Aside0.mk hn
  clear hn
  have M0 := Aside0.mk (Mem.start 3 w)
  go_enter Try.func19, Try.ntmps19
  go_wp2_with (first
    | ((with_reducible refine gate_dst (N := 2) rfl ?_); refine box_event ?hg (N := 2) ?hd (cs := #[.slice A0 l0.length c0, .slice A1 l1.length c1, .slice A2 l2.length c2]) (t := 26) ?hr ?_; (case hd => rfl); (case hg => rfl); (case hr => first | (go_simp; done) | (go_simp; rfl)); intro g2 hg w2 hbox hb; have M1 := Aside0.mk (Mem.box M0.out hg hbox hb (by decide)); clear M0 hg hbox hb)
    | ((with_reducible refine gate_dst (N := 3) rfl ?_); refine box_event ?hg (N := 3) ?hd (cs := (ctx pc r (.slice A l.length c))) (t := 30) ?hr ?_; (case hd => rfl); (case hg => rfl); (case hr => first | (go_simp; done) | (go_simp; rfl)); intro g3 hg w3 hbox hb; have M2 := Aside0.mk (Mem.box M1.out hg hbox hb (by decide)); clear M1 hg hbox hb)
    | ((with_reducible refine gate_dst (N := 10) rfl ?_); refine wpList_load_row rfl 26 (.tmp 2) rfl g2 rfl 26 #[.slice A0 l0.length c0, .slice A1 l1.length c1, .slice A2 l2.length c2] (0, 0) _ (M2.out.at 0 rfl) hu26 rfl (by kernel_rfl) ?_)
    | ((with_reducible refine gate_dst (N := 11) rfl ?_); refine wpList_load_row rfl 30 (.tmp 3) rfl g3 rfl 30 (ctx pc r (.slice A l.length c)) (0, 0) _ (M2.out.at 1 rfl) hu30 rfl (by kernel_rfl) ?_))
  refine (rotaref09_next.calls A0 c0 l0 _ c1 l1 A2 c2 l2 pc r.r0 r.r1 r.r2 r.r3 r.r4 r.r5 r.r6 r.r7 r.r8 r.r9 r.r10 r.r11 r.r12 r.r13 r.r14 r.r15 A c l _ _ _ _ _ _ _ (Kd.C_below H0.out M2.out.below) k0 (Kd.C_below H1.out M2.out.below) k1 (Kd.C_below H2.out M2.out.below) k2 (Kd.C_below HL.out M2.out.below) kl HN.out).mono ?_
  rintro e W12 ⟨rfl, hb⟩
  have M3 := Aside0.mk (Mem.call M2.out hb)
  clear M2 hb
  go_wp2_with (first
    | ((with_reducible refine gate_dst (N := 5) rfl ?_); refine box_event ?hg (N := 5) ?hd (cs := (instC 0 0 0 0 0)) (t := 37) ?hr ?_; (case hd => rfl); (case hg => rfl); (case hr => first | (go_simp; done) | (go_simp; rfl)); intro g5 hg w5 hbox hb; have M4 := Aside0.mk (Mem.box M3.out hg hbox hb (by decide)); clear M3 hg hbox hb)
    | ((with_reducible refine gate_store (t := 37) (p := 5) rfl ?_); refine row_event (t := 37) (p := 5) (v := ?vo1) ?hg ?ho ?hn g5 (tb := 37) (instC 0 0 0 0 0) (instC 0 0 0 0 0) ?hp ?hv (M4.out.at 2 rfl) ?hi rfl (by kernel_rfl) ?_; (case ho => rfl); (case hg => rfl); (case hn => rfl); (case hp => rfl); (case hv => first | rfl | (go_simp; done) | (go_simp; rfl)); (case hi => kernel_rfl); intro w_M5 hn hk hb; have M5 := Aside0.mk (Mem.keep M4.out 2 rfl hn hk (hb w M4.out.below (M4.out.ge 2 rfl))); clear M4 hn hk hb))
  go_ret
  exact ⟨rfl, M5.out.below⟩

set_option maxHeartbeats 2000000 in
set_option maxRecDepth 100000 in
theorem cost19_ok (l0 : List Int) (l1 : List S75) (l2 : List S98) (A0 A1 A2 : Option Addr) (c0 c1 c2 : Nat) (pc : Int) (r : Regs) (A : Option Addr) (c : Nat) (l : List Int) (w : World)
    (h0 : Kd.C (Kd.int .u32) w A0 l0.length l0) (k0 : l0.length ≤ c0) (h1 : Kd.C k75 w A1 l1.length l1) (k1 : l1.length ≤ c1) (h2 : Kd.C k98 w A2 l2.length l2) (k2 : l2.length ≤ c2) (hl : Kd.C (Kd.int .i64) w A l.length l) (kl : l.length ≤ c) (hlim : l.length < 17592186044416)
    (op v e : Int) (a b c' : Nat) (m : Int) (hv : rotaref06_Cost.f op = some (v, e)) (hn : rotaref09_next.f l0 l1 l2 pc r.r0 r.r1 r.r2 r.r3 r.r4 r.r5 r.r6 r.r7 r.r8 r.r9 r.r10 r.r11 r.r12 r.r13 r.r14 r.r15 l = some (op, (a : Int), (b : Int), (c' : Int), m, true)) :
    Calls Try.prog 19 #[.agg #[.slice A0 l0.length c0, .slice A1 l1.length c1, .slice A2 l2.length c2], .agg (ctx pc r (.slice A l.length c))] w fun x w' => x = .returned (.int .i64 v) ∧ Below w.heap.size w w' := by
  have hu26 := Try.underlying26
  have hu30 := Try.underlying30
  have H0 := Aside0.mk h0
  clear h0
  have H1 := Aside0.mk h1
  clear h1
  have H2 := Aside0.mk h2
  clear h2
  have HL := Aside0.mk hl
  clear hl
  have HN := Aside0.mk hn
  clear hn
  have HV := Aside0.mk hv
  clear hv
  have M0 := Aside0.mk (Mem.start 3 w)
  go_enter Try.func19, Try.ntmps19
  go_wp2_with (first
    | ((with_reducible refine gate_dst (N := 2) rfl ?_); refine box_event ?hg (N := 2) ?hd (cs := #[.slice A0 l0.length c0, .slice A1 l1.length c1, .slice A2 l2.length c2]) (t := 26) ?hr ?_; (case hd => rfl); (case hg => rfl); (case hr => first | (go_simp; done) | (go_simp; rfl)); intro g2 hg w2 hbox hb; have M1 := Aside0.mk (Mem.box M0.out hg hbox hb (by decide)); clear M0 hg hbox hb)
    | ((with_reducible refine gate_dst (N := 3) rfl ?_); refine box_event ?hg (N := 3) ?hd (cs := (ctx pc r (.slice A l.length c))) (t := 30) ?hr ?_; (case hd => rfl); (case hg => rfl); (case hr => first | (go_simp; done) | (go_simp; rfl)); intro g3 hg w3 hbox hb; have M2 := Aside0.mk (Mem.box M1.out hg hbox hb (by decide)); clear M1 hg hbox hb)
    | ((with_reducible refine gate_dst (N := 10) rfl ?_); refine wpList_load_row rfl 26 (.tmp 2) rfl g2 rfl 26 #[.slice A0 l0.length c0, .slice A1 l1.length c1, .slice A2 l2.length c2] (0, 0) _ (M2.out.at 0 rfl) hu26 rfl (by kernel_rfl) ?_)
    | ((with_reducible refine gate_dst (N := 11) rfl ?_); refine wpList_load_row rfl 30 (.tmp 3) rfl g3 rfl 30 (ctx pc r (.slice A l.length c)) (0, 0) _ (M2.out.at 1 rfl) hu30 rfl (by kernel_rfl) ?_))
  refine (rotaref09_next.calls A0 c0 l0 _ c1 l1 A2 c2 l2 pc r.r0 r.r1 r.r2 r.r3 r.r4 r.r5 r.r6 r.r7 r.r8 r.r9 r.r10 r.r11 r.r12 r.r13 r.r14 r.r15 A c l _ _ _ _ _ _ _ (Kd.C_below H0.out M2.out.below) k0 (Kd.C_below H1.out M2.out.below) k1 (Kd.C_below H2.out M2.out.below) k2 (Kd.C_below HL.out M2.out.below) kl HN.out).mono ?_
  rintro e W12 ⟨rfl, hb⟩
  have M3 := Aside0.mk (Mem.call M2.out hb)
  clear M2 hb
  go_wp2_with (first
    | ((with_reducible refine gate_dst (N := 5) rfl ?_); refine box_event ?hg (N := 5) ?hd (cs := (instC 0 0 0 0 0)) (t := 37) ?hr ?_; (case hd => rfl); (case hg => rfl); (case hr => first | (go_simp; done) | (go_simp; rfl)); intro g5 hg w5 hbox hb; have M4 := Aside0.mk (Mem.box M3.out hg hbox hb (by decide)); clear M3 hg hbox hb)
    | ((with_reducible refine gate_store (t := 37) (p := 5) rfl ?_); refine row_event (t := 37) (p := 5) (v := ?vo1) ?hg ?ho ?hn g5 (tb := 37) (instC 0 0 0 0 0) (instC op (a : Int) (b : Int) (c' : Int) m) ?hp ?hv (M4.out.at 2 rfl) ?hi rfl (by kernel_rfl) ?_; (case ho => rfl); (case hg => rfl); (case hn => rfl); (case hp => rfl); (case hv => first | rfl | (go_simp; done) | (go_simp; rfl)); (case hi => kernel_rfl); intro w_M5 hn hk hb; have M5 := Aside0.mk (Mem.keep M4.out 2 rfl hn hk (hb w M4.out.below (M4.out.ge 2 rfl))); clear M4 hn hk hb)
    | ((with_reducible refine gate_dst (N := 19) rfl ?_); refine load_event rfl (N := 19) rfl (t := 3) (p := 18) rfl ⟨g5, 0, none⟩ (.int .i64 op) ?hp (fun _ => by kernel_rfl) ((M5.out.cell 2 rfl 0).trans (rfl)) ?_; (case hp => first | rfl | (go_simp; done) | (go_simp; rfl))))
  refine (rotaref06_Cost.calls op _ _ _ HV.out).mono ?_
  rintro e W20 ⟨rfl, hb⟩
  have M6 := Aside0.mk (Mem.call M5.out hb)
  clear M5 hb
  go_wp2_with fail
  go_ret
  exact ⟨rfl, M6.out.below⟩

end Go.Proofs.Ythjfmlehkcccfaa.Hcost
end

section
/-
  step.Step: the one way that 'lives' takes.
-/
set_option linter.unusedVariables false
set_option linter.unusedSimpArgs false
namespace Go.Proofs.Ythjfmlehkcccfaa.Hone
open Go.RowKit Go.Proofs.YthjfmlehkcccfaaW.PrintWords Go.Proofs.YthjfmlehkcccfaaW.PrintLast Go.Proofs.YthjfmlehkcccfaaW.PrintMore GA Hctx Hsmall

set_option maxHeartbeats 2000000 in
set_option maxRecDepth 100000 in
theorem p_set (l0 : List Int) (l1 : List S75) (l2 : List S98) (A0 A1 A2 : Option Addr) (c0 c1 c2 : Nat) (pc : Int) (r : Regs) (A : Option Addr) (c : Nat) (l : List Int) (clk slot gen : Int) (w : World)
    (h0 : Kd.C (Kd.int .u32) w A0 l0.length l0) (k0 : l0.length ≤ c0) (h1 : Kd.C k75 w A1 l1.length l1) (k1 : l1.length ≤ c1) (h2 : Kd.C k98 w A2 l2.length l2) (k2 : l2.length ≤ c2) (hl : Kd.C (Kd.int .i64) w A l.length l) (kl : l.length ≤ c) (hlim : l.length < 17592186044416)
    (a b c' : Nat) (m : Int) (ha : a < 16) (hb : b < 16) (hc : c' < 16) (q1 : 0 ≤ pc) (q2 : pc < 9223372036854775807)  (hn : step_next.f l0 l1 l2 pc r.r0 r.r1 r.r2 r.r3 r.r4 r.r5 r.r6 r.r7 r.r8 r.r9 r.r10 r.r11 r.r12 r.r13 r.r14 r.r15 l = some (2, (a : Int), (b : Int), (c' : Int), m, true)) :
    Calls Try.prog 11 #[.agg #[.slice A0 l0.length c0, .slice A1 l1.length c1, .slice A2 l2.length c2], .agg (ctx pc r (.slice A l.length c)), .agg #[.int .u64 clk, .int .i64 slot, .int .i64 gen]] w (Post w (pc + 1) (r.set a m) l want0) := by
  have hu26 := Try.underlying26
  have hu30 := Try.underlying30
  have hu40 := Try.underlying40
  have p1 : (0 : Int) ≤ (a : Int) := by omega
  have p2 : (a : Int) < 16 := by omega
  have p3 : (0 : Int) ≤ (b : Int) := by omega
  have p4 : (b : Int) < 16 := by omega
  have p5 : (0 : Int) ≤ (c' : Int) := by omega
  have p6 : (c' : Int) < 16 := by omega
  have H0 := Aside0.mk h0
  clear h0
  have H1 := Aside0.mk h1
  clear h1
  have H2 := Aside0.mk h2
  clear h2
  have HL := Aside0.mk hl
  clear hl
  have HN := Aside0.mk hn
  clear hn
  have M0 := Aside0.mk (Mem.start 3 w)
  go_enter Try.func11, Try.ntmps11
  go_wp2_with (first
    | ((with_reducible refine gate_dst (N := 3) rfl ?_); refine box_event ?hg (N := 3) ?hd (cs := #[.slice A0 l0.length c0, .slice A1 l1.length c1, .slice A2 l2.length c2]) (t := 26) ?hr ?_; (case hd => rfl); (case hg => rfl); (case hr => first | (go_simp; done) | (go_simp; rfl)); intro g3 hg w3 hbox hb; have M1 := Aside0.mk (Mem.box M0.out hg hbox hb (by decide)); clear M0 hg hbox hb)
    | ((with_reducible refine gate_dst (N := 4) rfl ?_); refine box_event ?hg (N := 4) ?hd (cs := (ctx pc r (.slice A l.length c))) (t := 30) ?hr ?_; (case hd => rfl); (case hg => rfl); (case hr => first | (go_simp; done) | (go_simp; rfl)); intro g4 hg w4 hbox hb; have M2 := Aside0.mk (Mem.box M1.out hg hbox hb (by decide)); clear M1 hg hbox hb)
    | ((with_reducible refine gate_dst (N := 5) rfl ?_); refine box_event ?hg (N := 5) ?hd (cs := #[.int .u64 clk, .int .i64 slot, .int .i64 gen]) (t := 35) ?hr ?_; (case hd => rfl); (case hg => rfl); (case hr => first | (go_simp; done) | (go_simp; rfl)); intro g5 hg w5 hbox hb; have M3 := Aside0.mk (Mem.box M2.out hg hbox hb (by decide)); clear M2 hg hbox hb)
    | ((with_reducible refine gate_dst (N := 6) rfl ?_); refine box_event ?hg (N := 6) ?hd (cs := (ctx 0 zeroR (.slice none 0 0))) (t := 30) ?hr ?_; (case hd => rfl); (case hg => rfl); (case hr => first | (go_simp; done) | (go_simp; rfl)); intro g6 hg w6 hbox hb; have M4 := Aside0.mk (Mem.box M3.out hg hbox hb (by decide)); clear M3 hg hbox hb)
    | ((with_reducible refine gate_dst (N := 7) rfl ?_); refine box_event ?hg (N := 7) ?hd (cs := want0) (t := 40) ?hr ?_; (case hd => rfl); (case hg => rfl); (case hr => first | (go_simp; done) | (go_simp; rfl)); intro g7 hg w7 hbox hb; have M5 := Aside0.mk (Mem.box M4.out hg hbox hb (by decide)); clear M4 hg hbox hb)
    | ((with_reducible refine gate_dst (N := 18) rfl ?_); refine wpList_load_row rfl 26 (.tmp 3) rfl g3 rfl 26 #[.slice A0 l0.length c0, .slice A1 l1.length c1, .slice A2 l2.length c2] (0, 0) _ (M5.out.at 0 rfl) hu26 rfl (by kernel_rfl) ?_)
    | ((with_reducible refine gate_dst (N := 19) rfl ?_); refine wpList_load_row rfl 30 (.tmp 4) rfl g4 rfl 30 (ctx pc r (.slice A l.length c)) (0, 0) _ (M5.out.at 1 rfl) hu30 rfl (by kernel_rfl) ?_))
  refine (step_next.calls A0 c0 l0 _ c1 l1 A2 c2 l2 pc r.r0 r.r1 r.r2 r.r3 r.r4 r.r5 r.r6 r.r7 r.r8 r.r9 r.r10 r.r11 r.r12 r.r13 r.r14 r.r15 A c l _ _ _ _ _ _ _ (Kd.C_below H0.out M5.out.below) k0 (Kd.C_below H1.out M5.out.below) k1 (Kd.C_below H2.out M5.out.below) k2 (Kd.C_below HL.out M5.out.below) kl HN.out).mono ?_
  rintro e W20 ⟨rfl, hb⟩
  have M6 := Aside0.mk (Mem.call M5.out hb)
  clear M5 hb
  go_wp2_with (first
    | ((with_reducible refine gate_dst (N := 8) rfl ?_); refine box_event ?hg (N := 8) ?hd (cs := (instC 0 0 0 0 0)) (t := 37) ?hr ?_; (case hd => rfl); (case hg => rfl); (case hr => first | (go_simp; done) | (go_simp; rfl)); intro g8 hg w8 hbox hb; have M7 := Aside0.mk (Mem.box M6.out hg hbox hb (by decide)); clear M6 hg hbox hb)
    | ((with_reducible refine gate_store (t := 37) (p := 8) rfl ?_); refine row_event (t := 37) (p := 8) (v := ?vo1) ?hg ?ho ?hn g8 (tb := 37) (instC 0 0 0 0 0) (instC 2 (a : Int) (b : Int) (c' : Int) m) ?hp ?hv (M7.out.at 5 rfl) ?hi rfl (by kernel_rfl) ?_; (case ho => rfl); (case hg => rfl); (case hn => rfl); (case hp => rfl); (case hv => first | rfl | (go_simp; done) | (go_simp; rfl)); (case hi => kernel_rfl); intro w_M8 hn hk hb; have M8 := Aside0.mk (Mem.keep M7.out 5 rfl hn hk (hb w M7.out.below (M7.out.ge 5 rfl))); clear M7 hn hk hb)
    | ((with_reducible refine gate_dst (N := 29) rfl ?_); refine wpList_load_row rfl 30 (.tmp 4) rfl g4 rfl 30 (ctx pc r (.slice A l.length c)) (0, 0) _ (M8.out.at 1 rfl) hu30 rfl (by kernel_rfl) ?_)
    | ((with_reducible refine gate_dst (N := 10) rfl ?_); refine box_event ?hg (N := 10) ?hd (cs := (ctx 0 zeroR (.slice none 0 0))) (t := 30) ?hr ?_; (case hd => rfl); (case hg => rfl); (case hr => first | (go_simp; done) | (go_simp; rfl)); intro g10 hg w10 hbox hb; have M9 := Aside0.mk (Mem.box M8.out hg hbox hb (by decide)); clear M8 hg hbox hb)
    | ((with_reducible refine gate_store (t := 30) (p := 10) rfl ?_); refine row_event (t := 30) (p := 10) (v := ?vo2) ?hg ?ho ?hn g10 (tb := 30) (ctx 0 zeroR (.slice none 0 0)) (ctx pc r (.slice A l.length c)) ?hp ?hv (M9.out.at 6 rfl) ?hi rfl (by kernel_rfl) ?_; (case ho => rfl); (case hg => rfl); (case hn => rfl); (case hp => rfl); (case hv => first | rfl | (go_simp; done) | (go_simp; rfl)); (case hi => kernel_rfl); intro w_M10 hn hk hb; have M10 := Aside0.mk (Mem.keep M9.out 6 rfl hn hk (hb w M9.out.below (M9.out.ge 6 rfl))); clear M9 hn hk hb))
  have y1 := (M10.out.cell 5 rfl 1).trans (show _ = some (Value.int .i64 (a : Int)) from rfl)
  have z1 := (M10.out.cell 1 rfl (1 + a)).trans (ctx_reg pc r (.slice A l.length c) a ha)
  have y2 := (M10.out.cell 5 rfl 2).trans (show _ = some (Value.int .i64 (b : Int)) from rfl)
  have z2 := (M10.out.cell 1 rfl (1 + b)).trans (ctx_reg pc r (.slice A l.length c) b hb)
  have y3 := (M10.out.cell 5 rfl 3).trans (show _ = some (Value.int .i64 (c' : Int)) from rfl)
  have z3 := (M10.out.cell 1 rfl (1 + c')).trans (ctx_reg pc r (.slice A l.length c) c' hc)
  go_quiet (fail)
  clear y1 y2 y3 z1 z2 z3
  have M11 := Aside0.mk (Mem.drewN M10.out nq)
  clear M10
  go_wp2_with (first
    | ((with_reducible refine gate_dst (N := 46) rfl ?_); refine load_event rfl (N := 46) rfl (t := 3) (p := 45) rfl ⟨g8, 1, none⟩ (.int .i64 (a : Int)) ?hp (fun _ => by kernel_rfl) ((M11.out.cell 5 rfl 1).trans (rfl)) ?_; (case hp => first | rfl | (go_simp; done) | (go_simp; rfl)))
    | ((with_reducible refine gate_dst (N := 50) rfl ?_); refine load_event rfl (N := 50) rfl (t := 28) (p := 49) rfl ⟨g4, 17, none⟩ (.slice A l.length c) ?hp (fun _ => by kernel_rfl) ((M11.out.cell 1 rfl 17).trans (rfl)) ?_; (case hp => first | rfl | (go_simp; done) | (go_simp; rfl))))
  refine (Hclone.clone_calls A c l _ (Kd.C_below HL.out M11.out.below) kl hlim).mono ?_
  rintro e W51 ⟨v51, rfl, hR, hb⟩
  obtain ⟨A51, c51, rfl⟩ := Kd.R_slice hR
  have M12 := Aside0.mk (Mem.row M11.out hb hR)
  clear M11 hR hb
  go_wp2_with (first
    | ((with_reducible refine gate_store (t := 28) (p := 52) rfl ?_); refine cell_event (t := 28) (p := 52) (v := ?vo3) ?hg ?ho ?hn g4 17 (tb := 30) (ctx pc r (.slice A l.length c)) (.slice A51 l.length c51) ?hp ?hv (M12.out.at 1 rfl) rfl ?hi rfl ?_; (case ho => rfl); (case hg => rfl); (case hn => rfl); (case hp => first | rfl | (go_simp; done) | (go_simp; rfl)); (case hv => first | rfl | (go_simp; done) | (go_simp; rfl)); (case hi => kernel_rfl); intro w_M13 hn hk hb; have M13 := Aside0.mk (Mem.keep M12.out 1 rfl hn hk (hb w M12.out.below (M12.out.ge 1 rfl))); clear M12 hn hk hb)
    | ((with_reducible refine gate_dst (N := 54) rfl ?_); refine load_event rfl (N := 54) rfl (t := 3) (p := 53) rfl ⟨g4, 0, none⟩ (.int .i64 pc) ?hp (fun _ => by kernel_rfl) ((M13.out.cell 1 rfl 0).trans (rfl)) ?_; (case hp => first | rfl | (go_simp; done) | (go_simp; rfl)))
    | ((with_reducible refine gate_store (t := 3) (p := 56) rfl ?_); refine cell_event (t := 3) (p := 56) (v := ?vo4) ?hg ?ho ?hn g4 0 (tb := 30) (ctx pc r (.slice A51 l.length c51)) (.int .i64 (pc + 1)) ?hp ?hv (M13.out.at 1 rfl) rfl ?hi rfl ?_; (case ho => rfl); (case hg => rfl); (case hn => rfl); (case hp => first | rfl | (go_simp; done) | (go_simp; rfl)); (case hv => first | rfl | (go_simp; done) | (go_simp; rfl)); (case hi => kernel_rfl); intro w_M14 hn hk hb; have M14 := Aside0.mk (Mem.keep M13.out 1 rfl hn hk (hb w M13.out.below (M13.out.ge 1 rfl))); clear M13 hn hk hb)
    | ((with_reducible refine gate_dst (N := 58) rfl ?_); refine load_event rfl (N := 58) rfl (t := 3) (p := 57) rfl ⟨g8, 0, none⟩ (.int .i64 2) ?hp (fun _ => by kernel_rfl) ((M14.out.cell 5 rfl 0).trans (rfl)) ?_; (case hp => first | rfl | (go_simp; done) | (go_simp; rfl)))
    | ((with_reducible refine gate_dst (N := 86) rfl ?_); refine load_event rfl (N := 86) rfl (t := 3) (p := 85) rfl ⟨g8, 4, none⟩ (.int .i64 m) ?hp (fun _ => by kernel_rfl) ((M14.out.cell 5 rfl 4).trans (rfl)) ?_; (case hp => first | rfl | (go_simp; done) | (go_simp; rfl)))
    | ((with_reducible refine gate_store (t := 2) (p := 87) rfl ?_); refine cell_event (t := 2) (p := 87) (v := ?vo5) ?hg ?ho ?hn g4 (1 + a) (tb := 30) (ctx (pc + 1) r (.slice A51 l.length c51)) (.int .i64 m) ?hp ?hv (M14.out.at 1 rfl) (by rw [ctx_reg (pc + 1) r (.slice A51 l.length c51) a ha]; rfl) ?hi rfl ?_; (case ho => rfl); (case hg => rfl); (case hn => rfl); (case hp => first | rfl | (go_simp; done) | (go_simp; rfl)); (case hv => first | rfl | (go_simp; done) | (go_simp; rfl)); (case hi => kernel_rfl); intro w_M15 hn hk hb; have M15 := Aside0.mk (Mem.keep M14.out 1 rfl (by rw [ctx_setreg _ _ _ _ ha] at hn; exact hn) hk (hb w M14.out.below (M14.out.ge 1 rfl))); clear M14 hn hk hb)
    | ((with_reducible refine gate_dst (N := 232) rfl ?_); refine wpList_load_row rfl 30 (.tmp 4) rfl g4 rfl 30 (ctx (pc + 1) (r.set a m) (.slice A51 l.length c51)) (0, 0) _ (M15.out.at 1 rfl) hu30 rfl (by kernel_rfl) ?_)
    | ((with_reducible refine gate_store (t := 30) (p := 6) rfl ?_); refine row_event (t := 30) (p := 6) (v := ?vo6) ?hg ?ho ?hn g6 (tb := 30) (ctx 0 zeroR (.slice none 0 0)) (ctx (pc + 1) (r.set a m) (.slice A51 l.length c51)) ?hp ?hv (M15.out.at 3 rfl) ?hi rfl (by kernel_rfl) ?_; (case ho => rfl); (case hg => rfl); (case hn => rfl); (case hp => rfl); (case hv => first | rfl | (go_simp; done) | (go_simp; rfl)); (case hi => kernel_rfl); intro w_M16 hn hk hb; have M16 := Aside0.mk (Mem.keep M15.out 3 rfl hn hk (hb w M15.out.below (M15.out.ge 3 rfl))); clear M15 hn hk hb)
    | ((with_reducible refine gate_store (t := 40) (p := 7) rfl ?_); refine row_event (t := 40) (p := 7) (v := ?vo7) ?hg ?ho ?hn g7 (tb := 40) want0 want0 ?hp ?hv (M16.out.at 4 rfl) ?hi rfl (by kernel_rfl) ?_; (case ho => rfl); (case hg => rfl); (case hn => rfl); (case hp => rfl); (case hv => first | rfl | (go_simp; done) | (go_simp; rfl)); (case hi => kernel_rfl); intro w_M17 hn hk hb; have M17 := Aside0.mk (Mem.keep M16.out 4 rfl hn hk (hb w M16.out.below (M16.out.ge 4 rfl))); clear M16 hn hk hb))
  refine bodyPost_ret (results_cc rfl _ _ g6 g7 30 40 (ctx (pc + 1) (r.set a m) (.slice A51 l.length c51)) want0 (0, 0) (0, 0) _ _ rfl (M17.out.at 3 rfl) hu30 rfl (by kernel_rfl) rfl (M17.out.at 4 rfl) hu40 rfl (by kernel_rfl)) rfl ⟨_, rfl, M17.out.own, M17.out.below⟩

end Go.Proofs.Ythjfmlehkcccfaa.Hone
end

section
/-
  Comparisons: of what is wanted, and of registers.
-/
set_option linter.unusedVariables false
set_option linter.unusedSimpArgs false
namespace Go.Proofs.Ythjfmlehkcccfaa.Heq
open Go.RowKit Go.Proofs.YthjfmlehkcccfaaW.PrintWords Go.Proofs.YthjfmlehkcccfaaW.PrintLast Go.Proofs.YthjfmlehkcccfaaW.PrintMore Hctx Hsmall
theorem eqA37 (d : Nat) (w : World) (x0 y0 : Int) (x1 y1 : Int) (x2 y2 : Int) (x3 y3 : Int) (x4 y4 : Int) :
    (Op.equalIn (d + 2) 37 (.agg #[.int .i64 x0, .int .i64 x1, .int .i64 x2, .int .i64 x3, .int .i64 x4]) (.agg #[.int .i64 y0, .int .i64 y1, .int .i64 y2, .int .i64 y3, .int .i64 y4])).run Try.prog w = .ok (x0 == y0 && (x1 == y1 && (x2 == y2 && (x3 == y3 && (x4 == y4))))) w := by
  refine eqA_of Try.underlying37 (by kernel_rfl) ?_
  refine eqf_cons (by rfl) (by go_simp; rfl) (by go_simp; rfl) (by go_simp) ?_
  refine eqf_cons (by rfl) (by go_simp; rfl) (by go_simp; rfl) (by go_simp) ?_
  refine eqf_cons (by rfl) (by go_simp; rfl) (by go_simp; rfl) (by go_simp) ?_
  refine eqf_cons (by rfl) (by go_simp; rfl) (by go_simp; rfl) (by go_simp) ?_
  exact eqf_last (by rfl) (by go_simp; rfl) (by go_simp; rfl) (by go_simp)
theorem eqA40 (d : Nat) (w : World) (x0 y0 : Int) (x1 y1 : Int) (x2 y2 : Int) (x3 y3 : Int) (x4 y4 : Int) (x5 y5 : Int) (x6 y6 : Int) (x7 y7 : Int) (x8 y8 : Int) (x9 y9 : Int) (x10 y10 : Int) :
    (Op.equalIn (d + 3) 40 (.agg #[.int .i64 x0, .int .i64 x1, .int .i64 x2, .int .i64 x3, .int .i64 x4, .int .i64 x5, .int .i64 x6, .int .i64 x7, .int .i64 x8, .int .i64 x9, .int .i64 x10]) (.agg #[.int .i64 y0, .int .i64 y1, .int .i64 y2, .int .i64 y3, .int .i64 y4, .int .i64 y5, .int .i64 y6, .int .i64 y7, .int .i64 y8, .int .i64 y9, .int .i64 y10])).run Try.prog w = .ok (x0 == y0 && ((x1 == y1 && (x2 == y2 && (x3 == y3 && (x4 == y4 && (x5 == y5))))) && (x6 == y6 && (x7 == y7 && (x8 == y8 && (x9 == y9 && (x10 == y10))))))) w := by
  refine eqA_of Try.underlying40 (by kernel_rfl) ?_
  refine eqf_cons (by rfl) (by go_simp; rfl) (by go_simp; rfl) (by go_simp) ?_
  refine eqf_cons (by rfl) (by go_simp) (by go_simp) (eqA37 (d + 0) w _ _ _ _ _ _ _ _ _ _) ?_
  refine eqf_cons (by rfl) (by go_simp; rfl) (by go_simp; rfl) (by go_simp) ?_
  refine eqf_cons (by rfl) (by go_simp; rfl) (by go_simp; rfl) (by go_simp) ?_
  refine eqf_cons (by rfl) (by go_simp; rfl) (by go_simp; rfl) (by go_simp) ?_
  refine eqf_cons (by rfl) (by go_simp; rfl) (by go_simp; rfl) (by go_simp) ?_
  exact eqf_last (by rfl) (by go_simp; rfl) (by go_simp; rfl) (by go_simp)
def Regs.eqb (r s : Regs) : Bool := (List.range 16).all fun i => r.get i == s.get i
def arr (r : Regs) : Array Value := #[.int .i64 r.r0, .int .i64 r.r1, .int .i64 r.r2, .int .i64 r.r3, .int .i64 r.r4, .int .i64 r.r5, .int .i64 r.r6, .int .i64 r.r7,
    .int .i64 r.r8, .int .i64 r.r9, .int .i64 r.r10, .int .i64 r.r11, .int .i64 r.r12, .int .i64 r.r13, .int .i64 r.r14, .int .i64 r.r15]
theorem arr_at (r : Regs) (j : Nat) (h : j < 16) : (arr r)[j]? = some (.int .i64 (r.get j)) := match j, h with
  | 0, _ => rfl | 1, _ => rfl | 2, _ => rfl | 3, _ => rfl | 4, _ => rfl | 5, _ => rfl | 6, _ => rfl | 7, _ => rfl
  | 8, _ => rfl | 9, _ => rfl | 10, _ => rfl | 11, _ => rfl | 12, _ => rfl | 13, _ => rfl | 14, _ => rfl | 15, _ => rfl
  | (n + 16), h => absurd h (by omega)
theorem eqA27 (d : Nat) (w : World) (r s : Regs) : (Op.equalIn (d + 2) 27 (.agg (arr r)) (.agg (arr s))).run Try.prog w = .ok (Regs.eqb r s) w := by
  have hn : ∀ w, (sizeOf 2).run Try.prog w = .ok 1 w := fun w => by kernel_rfl
  have ha : ∀ w, (isAgg 2).run Try.prog w = .ok false w := fun w => by kernel_rfl
  have hp : ∀ (q : Regs) (j : Nat) w, j < 16 → (part 2 (arr q) (j * 1)).run Try.prog w = .ok (.int .i64 (q.get j)) w := fun q j w hj => by
    unfold part
    rw [Sem.run_bind, ha w, Nat.mul_one]
    simp [arr_at q j hj]
  have he : ∀ (x y : Int) w, (Op.equalIn (d + 1) 2 (.int .i64 x) (.int .i64 y)).run Try.prog w = .ok (x == y) w := fun x y w => by go_simp
  unfold Regs.eqb
  rw [List.range_eq_range', Op.equalIn]
  simp only [Sem.run_bind, run_underlying Try.underlying27, Result.andThen_ok, hn, Std.Legacy.Range.forIn_eq_forIn_range', Std.Legacy.Range.size, Nat.sub_zero, Nat.add_sub_cancel, Nat.div_one]
  have hl : ∀ i ∈ List.range' 0 16 1, i < 16 := fun i hi => by simpa using (List.mem_range'_1.1 hi).2
  generalize List.range' 0 16 1 = l at hl ⊢
  induction l with
  | nil => simp
  | cons i l ih =>
    have hi : i < 16 := hl i (by simp)
    simp only [List.forIn_cons, Sem.run_bind, hp r i w hi, hp s i w hi, he, Result.andThen_ok, List.all_cons]
    cases hb : (r.get i == s.get i)
    · simp
    · simp only [Bool.not_true, Bool.false_eq_true, if_false, Sem.run_pure, Result.andThen_ok, Bool.true_and]
      exact ih fun j hj => hl j (by simp [hj])
theorem Regs.ext_get {r s : Regs} (h : Regs.eqb r s = true) : r = s := by
  have hg : ∀ i, i < 16 → r.get i = s.get i := fun i hi => by simpa using List.all_eq_true.1 h i (List.mem_range.2 hi)
  cases r; cases s
  simp only [Regs.mk.injEq]
  exact ⟨hg 0 (by omega), hg 1 (by omega), hg 2 (by omega), hg 3 (by omega), hg 4 (by omega), hg 5 (by omega), hg 6 (by omega), hg 7 (by omega), hg 8 (by omega), hg 9 (by omega), hg 10 (by omega), hg 11 (by omega), hg 12 (by omega), hg 13 (by omega), hg 14 (by omega), hg 15 (by omega)⟩
theorem Regs.eqb_self (r : Regs) : Regs.eqb r r = true := List.all_eq_true.2 fun i _ => by simp
theorem eq_want (w : World) (op o a b c m x y z t k : Int) : (binOp .eql 40 (.agg (wantC op o a b c m x y z t k)) (.agg (wantC op o a b c m x y z t k))).run Try.prog w = .ok (.bool true) w := by
  rw [run_eql_struct]
  unfold wantC
  rw [show (10000 : Nat) = 9997 + 3 from rfl, eqA40 9997 w]
  simp
theorem neq_regs (w : World) (r s : Regs) : (binOp .neq 27 (.agg (arr r)) (.agg (arr s))).run Try.prog w = .ok (.bool (!Regs.eqb r s)) w := by
  rw [run_neq_struct, show (10000 : Nat) = 9998 + 2 from rfl, eqA27 9998 w]
  rfl
end Go.Proofs.Ythjfmlehkcccfaa.Heq
end

section
-- laid by a program of this session (wip/gp.sh)
namespace Go.Proofs.Ythjfmlehkcccfaa.GA
open Go.RowKit Go.Proofs.YthjfmlehkcccfaaW.PrintWords Go.Proofs.YthjfmlehkcccfaaW.PrintLast Go.Proofs.YthjfmlehkcccfaaW.PrintMore
attribute [local go_sem] max2_int min2_int max_two min_two max_three min_three max_four min_four   -- for this text's walks alone
set_option linter.unusedVariables false
set_option linter.unusedSimpArgs false

/-! ### rotaref06_Encode: function 37 -/
def rotaref06_Encode.f (a0_0 : Int) (a0_1 : Int) (a0_2 : Int) (a0_3 : Int) (a0_4 : Int) : Option (Int × Int) := (rotaref06_Check.f a0_0 a0_1 a0_2 a0_3 a0_4).bind fun t287 => (if t287 = 0 then (if a0_4 < 0 then (some ((((((((((((a0_0) % 4294967296) * 16777216) % 4294967296) + ((((a0_1) % 4294967296) * 1048576) % 4294967296)) % 4294967296) + ((((a0_2) % 4294967296) * 65536) % 4294967296)) % 4294967296) + ((wrap64 (a0_4 + 65536)) % 4294967296)) % 4294967296) + ((a0_3) % 4294967296)) % 4294967296, 0)) else (some ((((((((((((a0_0) % 4294967296) * 16777216) % 4294967296) + ((((a0_1) % 4294967296) * 1048576) % 4294967296)) % 4294967296) + ((((a0_2) % 4294967296) * 65536) % 4294967296)) % 4294967296) + ((a0_4) % 4294967296)) % 4294967296) + ((a0_3) % 4294967296)) % 4294967296, 0))) else (some (0, t287)))
set_option maxHeartbeats 8000000 in
set_option maxRecDepth 100000 in
theorem rotaref06_Encode.calls (a0_0 : Int) (a0_1 : Int) (a0_2 : Int) (a0_3 : Int) (a0_4 : Int) (r1 : Int) (r2 : Int) (w : World) (h : rotaref06_Encode.f a0_0 a0_1 a0_2 a0_3 a0_4 = some (r1, r2)) :
    Calls Try.prog 37 #[.agg #[.int .i64 a0_0, .int .i64 a0_1, .int .i64 a0_2, .int .i64 a0_3, .int .i64 a0_4]] w fun e w' => e = .returned (.tuple #[.int .u32 r1, .int .i64 r2]) ∧ Below w.heap.size w w' := by
  have hu37 := Try.underlying37
  have HB := Aside0.mk (Below.refl w.heap.size w)
  have H : ((rotaref06_Check.f a0_0 a0_1 a0_2 a0_3 a0_4).bind fun t287 => (if t287 = 0 then (if a0_4 < 0 then (some ((((((((((((a0_0) % 4294967296) * 16777216) % 4294967296) + ((((a0_1) % 4294967296) * 1048576) % 4294967296)) % 4294967296) + ((((a0_2) % 4294967296) * 65536) % 4294967296)) % 4294967296) + ((wrap64 (a0_4 + 65536)) % 4294967296)) % 4294967296) + ((a0_3) % 4294967296)) % 4294967296, 0)) else (some ((((((((((((a0_0) % 4294967296) * 16777216) % 4294967296) + ((((a0_1) % 4294967296) * 1048576) % 4294967296)) % 4294967296) + ((((a0_2) % 4294967296) * 65536) % 4294967296)) % 4294967296) + ((a0_4) % 4294967296)) % 4294967296) + ((a0_3) % 4294967296)) % 4294967296, 0))) else (some (0, t287)))) = some (r1, r2) := h
  clear h
  replace H := Option.bind_eq_some_iff.mp H
  obtain ⟨t287, A20, H⟩ := H
  replace H : (if t287 = 0 then (if a0_4 < 0 then (some ((((((((((((a0_0) % 4294967296) * 16777216) % 4294967296) + ((((a0_1) % 4294967296) * 1048576) % 4294967296)) % 4294967296) + ((((a0_2) % 4294967296) * 65536) % 4294967296)) % 4294967296) + ((wrap64 (a0_4 + 65536)) % 4294967296)) % 4294967296) + ((a0_3) % 4294967296)) % 4294967296, 0)) else (some ((((((((((((a0_0) % 4294967296) * 16777216) % 4294967296) + ((((a0_1) % 4294967296) * 1048576) % 4294967296)) % 4294967296) + ((((a0_2) % 4294967296) * 65536) % 4294967296)) % 4294967296) + ((a0_4) % 4294967296)) % 4294967296) + ((a0_3) % 4294967296)) % 4294967296, 0))) else (some (0, t287))) = some (r1, r2) := H
  have A2 := Aside0.mk A20
  clear A20
  by_cases c3 : t287 = 0
  · rw [if_pos c3] at H
    have c3b0 : (t287 == 0) = true := beq_iff_eq.mpr c3
    have c3b1 : (t287 != 0) = false := bne_eq_false_iff_eq.mpr c3
    clear c3
    by_cases c4 : a0_4 < 0
    · rw [if_pos c4] at H
      have c4b0 : decide (a0_4 < 0) = true := decide_eq_true c4
      clear c4
      simp only [Option.some.injEq, Prod.mk.injEq] at H
      obtain ⟨rfl, rfl⟩ := H
      go_enter Try.func37, Try.ntmps37
      go_wp2_with (first | ((with_reducible refine gate_dst (N := 1) rfl ?_); refine box_event ?hg (N := 1) ?hd (cs := #[.int .i64 a0_0, .int .i64 a0_1, .int .i64 a0_2, .int .i64 a0_3, .int .i64 a0_4]) (t := 37) ?hr ?_; (case hd => rfl); (case hg => rfl); (case hr => first | (go_simp; done) | (go_simp; rfl)); intro gb286 hg w5 hbox hb; have n0_ := Aside0.mk (below_step (by repeat (first | (with_reducible first | exact HB.out | apply below_alloc | apply pw_below_drewN | apply below_drew1) | exact HB.out)) hb); have n1_ := Aside0.mk (hbox); have n2_ := Aside0.mk ((by rw [hg]; exact (below_size (by repeat (first | (with_reducible first | exact HB.out | apply below_alloc | apply pw_below_drewN | apply below_drew1) | exact HB.out))) : w.heap.size ≤ gb286)); have n3_ := Aside0.mk ((by rw [hg]; exact (below_size (by repeat (first | (with_reducible first | exact HB.out | apply below_alloc | apply pw_below_drewN | apply below_drew1) | exact HB.out))) : w.heap.size ≤ gb286)); clear HB; have HB := n0_; have BK286 := n1_; have GW286 := n2_; have GE286 := n3_; clear n0_ n1_ n2_ n3_; clear hb hbox hg; have hcz6_0 : w5.cell? ⟨gb286, 0, none⟩ = some (.int .i64 a0_0) := (blk_cell BK286.out 0).trans rfl; have hcz6_1 : w5.cell? ⟨gb286, 1, none⟩ = some (.int .i64 a0_1) := (blk_cell BK286.out 1).trans rfl; have hcz6_2 : w5.cell? ⟨gb286, 2, none⟩ = some (.int .i64 a0_2) := (blk_cell BK286.out 2).trans rfl; have hcz6_3 : w5.cell? ⟨gb286, 3, none⟩ = some (.int .i64 a0_3) := (blk_cell BK286.out 3).trans rfl; have hcz6_4 : w5.cell? ⟨gb286, 4, none⟩ = some (.int .i64 a0_4) := (blk_cell BK286.out 4).trans rfl; have hfz6_0 := blk_frozen BK286.out 0; have hfz6_1 := blk_frozen BK286.out 1; have hfz6_2 := blk_frozen BK286.out 2; have hfz6_3 := blk_frozen BK286.out 3; have hfz6_4 := blk_frozen BK286.out 4) | ((with_reducible refine gate_callee (f := 43) rfl ?_); refine goesL_ (some 7) rfl rfl Try.func43 (by kernel_rfl) rfl #[.agg #[.int .i64 a0_0, .int .i64 a0_1, .int .i64 a0_2, .int .i64 a0_3, .int .i64 a0_4]] rfl (by (try simp only [List.map_toArray, List.map_cons, List.map_nil]); first | done | rfl | (simp only [List.length_drop, List.length_take]; rfl)) ?_; (with_reducible refine (rotaref06_Check.calls a0_0 a0_1 a0_2 a0_3 a0_4 t287 _ A2.out).mono ?_); rintro e w7 ⟨rfl, hb⟩; refine ⟨_, rfl, ?_⟩; have n0_ := Aside0.mk (blk_below (g := gb286) (o := .cells #[.int .i64 a0_0, .int .i64 a0_1, .int .i64 a0_2, .int .i64 a0_3, .int .i64 a0_4] 37 (0, 0)) (by (with_reducible repeat (first | refine blk_drewN ?_ _ | refine blk_drew ?_ | refine blk_alloc ?_ _)); exact BK286.out) hb); have n1_ := Aside0.mk (below_step (by repeat (first | (with_reducible first | exact HB.out | apply below_alloc | apply pw_below_drewN | apply below_drew1 | refine below_set ?_ GE286.out) | exact HB.out)) hb); clear BK286; clear HB; have BK286 := n0_; have HB := n1_; clear n0_ n1_; (try clear hb); (try clear hb2); (try clear hk); (try clear hi); have hcz8_0 : w7.cell? ⟨gb286, 0, none⟩ = some (.int .i64 a0_0) := (blk_cell BK286.out 0).trans rfl; have hcz8_1 : w7.cell? ⟨gb286, 1, none⟩ = some (.int .i64 a0_1) := (blk_cell BK286.out 1).trans rfl; have hcz8_2 : w7.cell? ⟨gb286, 2, none⟩ = some (.int .i64 a0_2) := (blk_cell BK286.out 2).trans rfl; have hcz8_3 : w7.cell? ⟨gb286, 3, none⟩ = some (.int .i64 a0_3) := (blk_cell BK286.out 3).trans rfl; have hcz8_4 : w7.cell? ⟨gb286, 4, none⟩ = some (.int .i64 a0_4) := (blk_cell BK286.out 4).trans rfl; have hfz8_0 := blk_frozen BK286.out 0; have hfz8_1 := blk_frozen BK286.out 1; have hfz8_2 := blk_frozen BK286.out 2; have hfz8_3 := blk_frozen BK286.out 3; have hfz8_4 := blk_frozen BK286.out 4))
      go_ret2
      exact ⟨by first | rfl | (simp [errW_none, errW_some] <;> rfl) | (simp [*, errW_none, errW_some] <;> rfl), by repeat (first | (with_reducible first | exact HB.out | apply below_alloc | apply pw_below_drewN | apply below_drew1 | refine below_set ?_ GE286.out) | exact HB.out)⟩
    · rw [if_neg c4] at H
      have c4b0 : decide (a0_4 < 0) = false := decide_eq_false c4
      clear c4
      simp only [Option.some.injEq, Prod.mk.injEq] at H
      obtain ⟨rfl, rfl⟩ := H
      go_enter Try.func37, Try.ntmps37
      go_wp2_with (first | ((with_reducible refine gate_dst (N := 1) rfl ?_); refine box_event ?hg (N := 1) ?hd (cs := #[.int .i64 a0_0, .int .i64 a0_1, .int .i64 a0_2, .int .i64 a0_3, .int .i64 a0_4]) (t := 37) ?hr ?_; (case hd => rfl); (case hg => rfl); (case hr => first | (go_simp; done) | (go_simp; rfl)); intro gb286 hg w9 hbox hb; have n0_ := Aside0.mk (below_step (by repeat (first | (with_reducible first | exact HB.out | apply below_alloc | apply pw_below_drewN | apply below_drew1) | exact HB.out)) hb); have n1_ := Aside0.mk (hbox); have n2_ := Aside0.mk ((by rw [hg]; exact (below_size (by repeat (first | (with_reducible first | exact HB.out | apply below_alloc | apply pw_below_drewN | apply below_drew1) | exact HB.out))) : w.heap.size ≤ gb286)); have n3_ := Aside0.mk ((by rw [hg]; exact (below_size (by repeat (first | (with_reducible first | exact HB.out | apply below_alloc | apply pw_below_drewN | apply below_drew1) | exact HB.out))) : w.heap.size ≤ gb286)); clear HB; have HB := n0_; have BK286 := n1_; have GW286 := n2_; have GE286 := n3_; clear n0_ n1_ n2_ n3_; clear hb hbox hg; have hcz10_0 : w9.cell? ⟨gb286, 0, none⟩ = some (.int .i64 a0_0) := (blk_cell BK286.out 0).trans rfl; have hcz10_1 : w9.cell? ⟨gb286, 1, none⟩ = some (.int .i64 a0_1) := (blk_cell BK286.out 1).trans rfl; have hcz10_2 : w9.cell? ⟨gb286, 2, none⟩ = some (.int .i64 a0_2) := (blk_cell BK286.out 2).trans rfl; have hcz10_3 : w9.cell? ⟨gb286, 3, none⟩ = some (.int .i64 a0_3) := (blk_cell BK286.out 3).trans rfl; have hcz10_4 : w9.cell? ⟨gb286, 4, none⟩ = some (.int .i64 a0_4) := (blk_cell BK286.out 4).trans rfl; have hfz10_0 := blk_frozen BK286.out 0; have hfz10_1 := blk_frozen BK286.out 1; have hfz10_2 := blk_frozen BK286.out 2; have hfz10_3 := blk_frozen BK286.out 3; have hfz10_4 := blk_frozen BK286.out 4) | ((with_reducible refine gate_callee (f := 43) rfl ?_); refine goesL_ (some 7) rfl rfl Try.func43 (by kernel_rfl) rfl #[.agg #[.int .i64 a0_0, .int .i64 a0_1, .int .i64 a0_2, .int .i64 a0_3, .int .i64 a0_4]] rfl (by (try simp only [List.map_toArray, List.map_cons, List.map_nil]); first | done | rfl | (simp only [List.length_drop, List.length_take]; rfl)) ?_; (with_reducible refine (rotaref06_Check.calls a0_0 a0_1 a0_2 a0_3 a0_4 t287 _ A2.out).mono ?_); rintro e w11 ⟨rfl, hb⟩; refine ⟨_, rfl, ?_⟩; have n0_ := Aside0.mk (blk_below (g := gb286) (o := .cells #[.int .i64 a0_0, .int .i64 a0_1, .int .i64 a0_2, .int .i64 a0_3, .int .i64 a0_4] 37 (0, 0)) (by (with_reducible repeat (first | refine blk_drewN ?_ _ | refine blk_drew ?_ | refine blk_alloc ?_ _)); exact BK286.out) hb); have n1_ := Aside0.mk (below_step (by repeat (first | (with_reducible first | exact HB.out | apply below_alloc | apply pw_below_drewN | apply below_drew1 | refine below_set ?_ GE286.out) | exact HB.out)) hb); clear BK286; clear HB; have BK286 := n0_; have HB := n1_; clear n0_ n1_; (try clear hb); (try clear hb2); (try clear hk); (try clear hi); have hcz12_0 : w11.cell? ⟨gb286, 0, none⟩ = some (.int .i64 a0_0) := (blk_cell BK286.out 0).trans rfl; have hcz12_1 : w11.cell? ⟨gb286, 1, none⟩ = some (.int .i64 a0_1) := (blk_cell BK286.out 1).trans rfl; have hcz12_2 : w11.cell? ⟨gb286, 2, none⟩ = some (.int .i64 a0_2) := (blk_cell BK286.out 2).trans rfl; have hcz12_3 : w11.cell? ⟨gb286, 3, none⟩ = some (.int .i64 a0_3) := (blk_cell BK286.out 3).trans rfl; have hcz12_4 : w11.cell? ⟨gb286, 4, none⟩ = some (.int .i64 a0_4) := (blk_cell BK286.out 4).trans rfl; have hfz12_0 := blk_frozen BK286.out 0; have hfz12_1 := blk_frozen BK286.out 1; have hfz12_2 := blk_frozen BK286.out 2; have hfz12_3 := blk_frozen BK286.out 3; have hfz12_4 := blk_frozen BK286.out 4))
      go_ret2
      exact ⟨by first | rfl | (simp [errW_none, errW_some] <;> rfl) | (simp [*, errW_none, errW_some] <;> rfl), by repeat (first | (with_reducible first | exact HB.out | apply below_alloc | apply pw_below_drewN | apply below_drew1 | refine below_set ?_ GE286.out) | exact HB.out)⟩
  · rw [if_neg c3] at H
    have c3b0 : (t287 == 0) = false := beq_eq_false_iff_ne.mpr c3
    have c3b1 : (t287 != 0) = true := bne_iff_ne.mpr c3
    simp only [Option.some.injEq, Prod.mk.injEq] at H
    obtain ⟨rfl, rfl⟩ := H
    go_enter Try.func37, Try.ntmps37
    go_wp2_with (first | ((with_reducible refine gate_dst (N := 1) rfl ?_); refine box_event ?hg (N := 1) ?hd (cs := #[.int .i64 a0_0, .int .i64 a0_1, .int .i64 a0_2, .int .i64 a0_3, .int .i64 a0_4]) (t := 37) ?hr ?_; (case hd => rfl); (case hg => rfl); (case hr => first | (go_simp; done) | (go_simp; rfl)); intro gb286 hg w13 hbox hb; have n0_ := Aside0.mk (below_step (by repeat (first | (with_reducible first | exact HB.out | apply below_alloc | apply pw_below_drewN | apply below_drew1) | exact HB.out)) hb); have n1_ := Aside0.mk (hbox); have n2_ := Aside0.mk ((by rw [hg]; exact (below_size (by repeat (first | (with_reducible first | exact HB.out | apply below_alloc | apply pw_below_drewN | apply below_drew1) | exact HB.out))) : w.heap.size ≤ gb286)); have n3_ := Aside0.mk ((by rw [hg]; exact (below_size (by repeat (first | (with_reducible first | exact HB.out | apply below_alloc | apply pw_below_drewN | apply below_drew1) | exact HB.out))) : w.heap.size ≤ gb286)); clear HB; have HB := n0_; have BK286 := n1_; have GW286 := n2_; have GE286 := n3_; clear n0_ n1_ n2_ n3_; clear hb hbox hg; have hcz14_0 : w13.cell? ⟨gb286, 0, none⟩ = some (.int .i64 a0_0) := (blk_cell BK286.out 0).trans rfl; have hcz14_1 : w13.cell? ⟨gb286, 1, none⟩ = some (.int .i64 a0_1) := (blk_cell BK286.out 1).trans rfl; have hcz14_2 : w13.cell? ⟨gb286, 2, none⟩ = some (.int .i64 a0_2) := (blk_cell BK286.out 2).trans rfl; have hcz14_3 : w13.cell? ⟨gb286, 3, none⟩ = some (.int .i64 a0_3) := (blk_cell BK286.out 3).trans rfl; have hcz14_4 : w13.cell? ⟨gb286, 4, none⟩ = some (.int .i64 a0_4) := (blk_cell BK286.out 4).trans rfl; have hfz14_0 := blk_frozen BK286.out 0; have hfz14_1 := blk_frozen BK286.out 1; have hfz14_2 := blk_frozen BK286.out 2; have hfz14_3 := blk_frozen BK286.out 3; have hfz14_4 := blk_frozen BK286.out 4) | ((with_reducible refine gate_callee (f := 43) rfl ?_); refine goesL_ (some 7) rfl rfl Try.func43 (by kernel_rfl) rfl #[.agg #[.int .i64 a0_0, .int .i64 a0_1, .int .i64 a0_2, .int .i64 a0_3, .int .i64 a0_4]] rfl (by (try simp only [List.map_toArray, List.map_cons, List.map_nil]); first | done | rfl | (simp only [List.length_drop, List.length_take]; rfl)) ?_; (with_reducible refine (rotaref06_Check.calls a0_0 a0_1 a0_2 a0_3 a0_4 t287 _ A2.out).mono ?_); rintro e w15 ⟨rfl, hb⟩; refine ⟨_, rfl, ?_⟩; have n0_ := Aside0.mk (blk_below (g := gb286) (o := .cells #[.int .i64 a0_0, .int .i64 a0_1, .int .i64 a0_2, .int .i64 a0_3, .int .i64 a0_4] 37 (0, 0)) (by (with_reducible repeat (first | refine blk_drewN ?_ _ | refine blk_drew ?_ | refine blk_alloc ?_ _)); exact BK286.out) hb); have n1_ := Aside0.mk (below_step (by repeat (first | (with_reducible first | exact HB.out | apply below_alloc | apply pw_below_drewN | apply below_drew1 | refine below_set ?_ GE286.out) | exact HB.out)) hb); clear BK286; clear HB; have BK286 := n0_; have HB := n1_; clear n0_ n1_; (try clear hb); (try clear hb2); (try clear hk); (try clear hi)))
    go_ret2
    exact ⟨by first | rfl | (simp [errW_none, errW_some] <;> rfl) | (simp [*, errW_none, errW_some] <;> rfl), by repeat (first | (with_reducible first | exact HB.out | apply below_alloc | apply pw_below_drewN | apply below_drew1 | refine below_set ?_ GE286.out) | exact HB.out)⟩

end Go.Proofs.Ythjfmlehkcccfaa.GA
end

section
/-
  rotalaw09.lives: true.
-/
set_option linter.unusedVariables false
set_option linter.unusedSimpArgs false
namespace Go.Proofs.Ythjfmlehkcccfaa.Hlives
open Go.RowKit Go.Proofs.YthjfmlehkcccfaaW.PrintWords Go.Proofs.YthjfmlehkcccfaaW.PrintLast Go.Proofs.YthjfmlehkcccfaaW.PrintMore GA Hctx Hsmall Hone Heq

theorem mem_fresh {e : TypeId} {w W : World} (hB : Below w.heap.size w W) : Mem e w W [] (.slice none 0 0) [] := ⟨hB, (fun x hx => by cases hx), List.Pairwise.nil, Kd.R_nil _ _ _ _ _⟩
theorem reps_one_ (w : World) (base : Nat) : Reps ((Kd.int .u32).M w base (fun _ => True)) (Kd.int .u32).sz [(36700167 : Int)] [Value.int .u32 36700167] := by
  exact Reps.one rfl (Reps.none _ _)

set_option maxHeartbeats 2000000 in
set_option maxRecDepth 100000 in
theorem lives_calls (w : World) : Calls Try.prog 14 #[] w fun e w' => e = .returned (.bool true) ∧ Below w.heap.size w w' := by
  have hg := Try.eqGuardType40
  have hq2 : ∀ W, (binOp .eql 40 (.agg want0) (.agg #[.int .i64 0, .int .i64 0, .int .i64 0, .int .i64 0, .int .i64 0, .int .i64 0, .int .i64 0, .int .i64 0, .int .i64 0, .int .i64 0, .int .i64 0])).run Try.prog W = .ok (.bool true) W := fun W => eq_want W 0 0 0 0 0 0 0 0 0 0 0
  have hq : ∀ W, (binOp .eql 40 (.agg want0) (.agg want0)).run Try.prog W = .ok (.bool true) W := fun W => eq_want W 0 0 0 0 0 0 0 0 0 0 0
  have hu40 := Try.underlying40
  have M0 := Aside0.mk (Mem.start 3 w)
  go_enter Try.func14, Try.ntmps14
  go_wp2_with fail
  refine (rotaref06_Encode.calls 2 3 0 0 7 36700167 0 _ (by kernel_rfl)).mono ?_
  rintro e W7 ⟨rfl, hb⟩
  have M1 := Aside0.mk (Mem.call M0.out hb)
  clear M0 hb
  go_wp2_with (first
    | ((with_reducible refine gate_dst (N := 12) rfl ?_); refine Kd.R_lit (Kd.int .u32) (w0 := w) w.heap.size 61 ?hg (N := 12) ?hd (xs := [36700167]) (inner := [.int .u32 36700167]) (ok := fun _ => True) (okp := fun _ => True) ?hr ?hp (fun _ hk => hk) trivial M1.out.below M1.out.below.size (by simp) ?_; (case hd => rfl); (case hg => rfl); (case hr => first | (go_simp; done) | (go_simp; rfl)); (case hp => exact reps_one_ _ _); intro v12 W12 hR hB hg _; obtain ⟨A12, c12, hv_⟩ := Kd.R_slice hR; simp only [List.length_cons, List.length_nil, Nat.zero_add] at hv_; subst hv_; have HC := Aside0.mk (Kd.R_reads' hR); have M2 := Aside0.mk (mem_fresh (e := 3) hB); clear M1 hR hB hg))
  refine (p_set [36700167] [] [] A12 none none c12 0 0 0 zeroR none 0 [] 0 0 0 _ HC.out.2.2 HC.out.2.1 (Kd.C_nil _ _) (Nat.le_refl _) (Kd.C_nil _ _) (Nat.le_refl _) (Kd.C_nil _ _) (Nat.le_refl _) (by decide) 3 0 0 7 (by decide) (by decide) (by decide) (by decide) (by decide) (by kernel_rfl)).mono ?_
  rintro e W16 ⟨v16, rfl, hR, hb⟩
  obtain ⟨A16, c16, hv_⟩ := Kd.R_slice hR
  simp only [List.length_nil] at hv_
  subst hv_
  have M3 := Aside0.mk (Mem.row M2.out hb hR)
  clear M2 hR hb
  skip
  go_wp2_with (first
    | ((with_reducible refine gate_dst (N := 3) rfl ?_); refine box_event ?hg (N := 3) ?hd (cs := (ctx 0 zeroR (.slice none 0 0))) (t := 30) ?hr ?_; (case hd => rfl); (case hg => rfl); (case hr => first | (go_simp; done) | (go_simp; rfl)); intro g3 hg w3 hbox hb; have M4 := Aside0.mk (Mem.box M3.out hg hbox hb (by decide)); clear M3 hg hbox hb)
    | ((with_reducible refine gate_dst (N := 4) rfl ?_); refine box_event ?hg (N := 4) ?hd (cs := want0) (t := 40) ?hr ?_; (case hd => rfl); (case hg => rfl); (case hr => first | (go_simp; done) | (go_simp; rfl)); intro g4 hg w4 hbox hb; have M5 := Aside0.mk (Mem.box M4.out hg hbox hb (by decide)); clear M4 hg hbox hb)
    | ((with_reducible refine gate_store (t := 30) (p := 3) rfl ?_); refine row_event (t := 30) (p := 3) (v := ?vo1) ?hg ?ho ?hn g3 (tb := 30) (ctx 0 zeroR (.slice none 0 0)) (ctx 1 (zeroR.set 3 7) (.slice A16 0 c16)) ?hp ?hv (M5.out.at 0 rfl) ?hi rfl (by kernel_rfl) ?_; (case ho => rfl); (case hg => rfl); (case hn => rfl); (case hp => rfl); (case hv => first | rfl | (go_simp; done) | (go_simp; rfl)); (case hi => kernel_rfl); intro w_M6 hn hk hb; have M6 := Aside0.mk (Mem.keep M5.out 0 rfl hn hk (hb w M5.out.below (M5.out.ge 0 rfl))); clear M5 hn hk hb)
    | ((with_reducible refine gate_store (t := 40) (p := 4) rfl ?_); refine row_event (t := 40) (p := 4) (v := ?vo2) ?hg ?ho ?hn g4 (tb := 40) want0 want0 ?hp ?hv (M6.out.at 1 rfl) ?hi rfl (by kernel_rfl) ?_; (case ho => rfl); (case hg => rfl); (case hn => rfl); (case hp => rfl); (case hv => first | rfl | (go_simp; done) | (go_simp; rfl)); (case hi => kernel_rfl); intro w_M7 hn hk hb; have M7 := Aside0.mk (Mem.keep M6.out 1 rfl hn hk (hb w M6.out.below (M6.out.ge 1 rfl))); clear M6 hn hk hb)
    | ((with_reducible refine gate_dst (N := 21) rfl ?_); refine load_event rfl (N := 21) rfl (t := 2) (p := 20) rfl ⟨g3, 4, none⟩ (.int .i64 7) ?hp (fun _ => by kernel_rfl) ((M7.out.cell 0 rfl 4).trans rfl) ?_; (case hp => first | rfl | (go_simp; done) | (go_simp; rfl)))
    | ((with_reducible refine gate_dst (N := 25) rfl ?_); (refine gate_guard (by rfl) ?_; dsimp only); refine load_event rfl (N := 25) rfl (t := 3) (p := 24) rfl ⟨g3, 0, none⟩ (.int .i64 1) ?hp (fun _ => by kernel_rfl) ((M7.out.cell 0 rfl 0).trans (rfl)) ?_; (case hp => first | rfl | (go_simp; done) | (go_simp; rfl)))
    | ((with_reducible refine gate_dst (N := 29) rfl ?_); (refine gate_guard (by rfl) ?_; dsimp only); refine wpList_load_row rfl 40 (.tmp 4) rfl g4 rfl 40 want0 (0, 0) _ (M7.out.at 1 rfl) hu40 rfl (by kernel_rfl) ?_))
  go_ret
  exact ⟨rfl, M7.out.below⟩
end Go.Proofs.Ythjfmlehkcccfaa.Hlives
end

section
/-
  A region that draws its order: a call of a Go function, where nothing else may come up.
-/
namespace Go.Proofs.Ythjfmlehkcccfaa
open Go.Proofs.YthjfmlehkcccfaaW.PrintLast
section
variable {P : Program} {md : Region.Mode} {ops : Array Oper} {Q : Exit → Act → World → Prop} {S : World → Prop}
/-- A call of a Go function, where nothing else may come up. -/
theorem anyH_call {i : Nat} {o : Oper} {N : Option Tmp} {fuel : Nat} {listed : Array Bool} {a : Act} {w : World} (hr : Region.ready md ops listed = [i]) (ho : ops[i]? = some o) (hw : Region.wanted o (yielded ops a.tmps) = true) (hN : o.dst = N)
    {f : FuncId} {fn : Func} {az : Array Operand} {ts : Array TypeId} (hf : P.funcs[f]? = some fn) (hname : (fn.name == "runtime.NumGoroutine") = false) (hb : fn.body.isSome = true) (args : Array Value)
    (hop : o.op = .call { callee := .value (.func f), args := az, argTypes := ts }) (hargs : az.map a.eval = args)
    (h : Calls P f args w fun e w' => ∃ v, e = .returned v ∧ S w' ∧ wpAnyH P md ops Q S fuel (listed.setIfInBounds i true) (a.put N v) w') : wpAnyH P md ops Q S (fuel + 1) listed a w := by
  refine wpAnyH_ready hr (by simp) ?_
  refine AllReadyH.cons ho (fun K hK => ?_) AllReadyH.nil
  subst hN
  refine goes_ hf hname hb args hw rfl hop hargs (h.mono ?_)
  rintro e w' ⟨v, rfl, hS, hh⟩
  exact ⟨v, rfl, hK.out _ _ hS (fun _ => hh)⟩
end
end Go.Proofs.Ythjfmlehkcccfaa
end

section
/-
  rotaref06.Decode and word.Decode answer the same at every word.
-/
set_option linter.unusedVariables false
set_option linter.unusedSimpArgs false
namespace Go.Proofs.Ythjfmlehkcccfaa.Pure
open Go.RowKit Go.Proofs.Ythjfmlehkcccfaa.GA Go.Proofs.YthjfmlehkcccfaaW.PrintWords Go.Proofs.YthjfmlehkcccfaaW.PrintLast

theorem ref_decode (w : Int) (h0 : 0 ≤ w) (h1 : w < 4294967296) : rotaref06_Decode.f w = word_Decode.f w := by
  unfold rotaref06_Decode.f Hdec.decF
  rw [if_pos ⟨h0, h1⟩]
  rcases Q.in_or (w / 16777216) with ⟨j, hj, ho⟩ | hn
  · rw [Q.word_decode j hj w h0 h1 ho, ho, Q.table_in j hj]
    obtain ⟨_, _, s0, s1⟩ := Q.cost_at hj
    generalize (Hfind.rowAt j).2.1 = s at *
    have a0 : 0 ≤ Q.dA w ∧ Q.dA w < 16 := by unfold Q.dA; omega
    have b0 : 0 ≤ Q.dB w ∧ Q.dB w < 16 := by unfold Q.dB; omega
    have m0 : 0 ≤ w % 65536 ∧ w % 65536 < 65536 ∧ 0 ≤ w % 16 ∧ w % 16 < 16 ∧ (w % 65536) % 16 = w % 16 := by omega
    simp only [Option.bind_some, if_true, Q.has_at]
    rw [show w / 1048576 % 16 = Q.dA w from rfl, show w / 65536 % 16 = Q.dB w from rfl]
    have hs : s = 0 ∨ s = 1 ∨ s = 2 ∨ s = 3 ∨ s = 4 ∨ s = 5 ∨ s = 6 := by omega
    clear ho
    rcases hs with rfl | rfl | rfl | rfl | rfl | rfl | rfl
    all_goals
      simp only [Hdec.fields, Hdec.bad, Hdec.fitB, Q.dC, Q.dM, Hfits.fitsB, Hfits.reg]
      simp
      generalize Q.dA w = a at *
      generalize Q.dB w = b at *
      generalize w % 16 = c at *
      generalize w % 65536 = m at *
      repeat' split
      all_goals first | rfl | omega | (simp; omega)
  · rw [Q.decode_else w h0 h1 hn, Q.table_else _ hn]
    simp
end Go.Proofs.Ythjfmlehkcccfaa.Pure
end

section
/-
  What 'next' finds, on both sides.
-/
set_option linter.unusedVariables false
set_option linter.unusedSimpArgs false
namespace Go.Proofs.Ythjfmlehkcccfaa.Qnext
open Go.RowKit Go.Proofs.YthjfmlehkcccfaaW.PrintWords Go.Proofs.YthjfmlehkcccfaaW.PrintLast Go.Proofs.YthjfmlehkcccfaaW.PrintMore GA Hctx Hsmall
theorem next_both (l0 : List Int) (l1 : List S75) (l2 : List S98) (pc : Int) (r : Regs) (l : List Int) (hw : ∀ x ∈ l0, 0 ≤ x ∧ x < 4294967296) :
    ∃ (op : Int) (a b c : Nat) (m : Int) (ok : Bool), step_next.f l0 l1 l2 pc r.r0 r.r1 r.r2 r.r3 r.r4 r.r5 r.r6 r.r7 r.r8 r.r9 r.r10 r.r11 r.r12 r.r13 r.r14 r.r15 l = some (op, (a : Int), (b : Int), (c : Int), m, ok) ∧
      rotaref09_next.f l0 l1 l2 pc r.r0 r.r1 r.r2 r.r3 r.r4 r.r5 r.r6 r.r7 r.r8 r.r9 r.r10 r.r11 r.r12 r.r13 r.r14 r.r15 l = some (op, (a : Int), (b : Int), (c : Int), m, ok) ∧
      a < 16 ∧ b < 16 ∧ c < 16 ∧ (ok = false → op = 0 ∧ a = 0 ∧ b = 0 ∧ c = 0 ∧ m = 0) ∧ (ok = true → 0 ≤ pc ∧ pc < l0.length ∧ 1 ≤ op ∧ op ≤ 58 ∧ (op ≠ 2 → 0 ≤ m)) := by
  unfold step_next.f rotaref09_next.f
  by_cases h1 : pc < 0
  · exact ⟨0, 0, 0, 0, 0, false, by rw [if_pos h1]; rfl, by rw [if_pos h1]; rfl, by omega, by omega, by omega, fun _ => ⟨rfl, rfl, rfl, rfl, rfl⟩, by simp⟩
  · by_cases h2 : pc ≥ (l0.length : Int)
    · exact ⟨0, 0, 0, 0, 0, false, by rw [if_neg h1, if_pos h2]; rfl, by rw [if_neg h1, if_pos h2]; rfl, by omega, by omega, by omega, fun _ => ⟨rfl, rfl, rfl, rfl, rfl⟩, by simp⟩
    · rw [if_neg h1, if_neg h2, if_pos (by omega), if_pos (by omega), if_neg h1, if_neg h2, if_pos (by omega), if_pos (by omega)]
      have hin : rd l0 pc ∈ l0 := by
        unfold rd
        rw [List.getD_eq_getElem?_getD, List.getElem?_eq_getElem (by omega)]
        exact List.getElem_mem _
      obtain ⟨b0, b1⟩ := hw _ hin
      generalize rd l0 pc = x at *
      rw [Pure.ref_decode x b0 b1]
      rcases Q.in_or (x / 16777216) with ⟨j, hj, ho⟩ | hn
      · rw [Q.word_decode j hj x b0 b1 ho]
        by_cases hf : Hfits.fitsB (Q.dA x) (Q.dB x) (Q.dC x (Hfind.rowAt j).2.1) (Q.dM x (Hfind.rowAt j).2.1) (Hfind.rowAt j).2.1 = true
        · rw [if_pos hf]
          obtain ⟨f1, f2, f3, f4, f5, f6, f7, f8, f9⟩ := Q.fits_bd hf
          refine ⟨(j : Int) + 1, (Q.dA x).toNat, (Q.dB x).toNat, (Q.dC x (Hfind.rowAt j).2.1).toNat, Q.dM x (Hfind.rowAt j).2.1, true, ?_, ?_, by omega, by omega, by omega, by simp, fun _ => ⟨by omega, by omega, by omega, by omega, fun hop => ?_⟩⟩
          · simp only [Option.bind_some]
            rw [Int.toNat_of_nonneg f1, Int.toNat_of_nonneg f3, Int.toNat_of_nonneg f5]; rfl
          · simp only [Option.bind_some]
            rw [Int.toNat_of_nonneg f1, Int.toNat_of_nonneg f3, Int.toNat_of_nonneg f5]; rfl
          · have hs : (Hfind.rowAt j).2.1 ≠ 6 := by
              have hall : ((List.range 58).all fun i => decide ((Hfind.rowAt i).2.1 = 6 → i = 1)) = true := by kernel_rfl
              have := List.all_eq_true.1 hall j (List.mem_range.2 hj)
              simp at this
              omega
            unfold Q.dM
            rw [if_neg hs]
            split <;> omega
        · rw [if_neg hf]
          exact ⟨0, 0, 0, 0, 0, false, rfl, rfl, by omega, by omega, by omega, fun _ => ⟨rfl, rfl, rfl, rfl, rfl⟩, by simp⟩
      · rw [Q.decode_else x b0 b1 hn]
        exact ⟨0, 0, 0, 0, 0, false, rfl, rfl, by omega, by omega, by omega, fun _ => ⟨rfl, rfl, rfl, rfl, rfl⟩, by simp⟩
end Go.Proofs.Ythjfmlehkcccfaa.Qnext
end

section
/-
  StepCosts, walked.
-/
set_option linter.unusedVariables false
set_option linter.unusedSimpArgs false
namespace Go.Proofs.Ythjfmlehkcccfaa.Hlaw5
open Go.RowKit Go.Proofs.YthjfmlehkcccfaaW.PrintWords Go.Proofs.YthjfmlehkcccfaaW.PrintLast Go.Proofs.YthjfmlehkcccfaaW.PrintMore GA Hctx Hsmall Qnext Hlives Hcost

theorem costs_all : ((List.range 58).all fun k => match word_Cost.f ((k : Int) + 1), rotaref06_Cost.f ((k : Int) + 1) with | some (v, _), some (u, _) => v == u | _, _ => false) = true := by kernel_rfl
theorem cost_at (op : Int) (h1 : 1 ≤ op) (h2 : op ≤ 58) : ∃ v e f, word_Cost.f op = some (v, e) ∧ rotaref06_Cost.f op = some (v, f) := by
  obtain ⟨k, rfl⟩ : ∃ k : Nat, op = (k : Int) + 1 := ⟨(op - 1).toNat, by omega⟩
  have := List.all_eq_true.1 costs_all k (List.mem_range.2 (by omega))
  revert this
  cases h : word_Cost.f ((k : Int) + 1) with
  | none => intro h; simp at h
  | some x =>
    cases h' : rotaref06_Cost.f ((k : Int) + 1) with
    | none => intro h; simp at h
    | some y => intro hh; simp at hh; exact ⟨x.1, x.2, y.2, rfl, by rw [hh]⟩
theorem cost_both (l0 : List Int) (l1 : List S75) (l2 : List S98) (pc : Int) (r : Regs) (l : List Int) (hw : ∀ x ∈ l0, 0 ≤ x ∧ x < 4294967296) (hlim : l.length < 17592186044416) : ∃ v : Int, (∀ (A0 A1 A2 : Option Addr) (c0 c1 c2 : Nat) (A : Option Addr) (c : Nat) (w : World), Kd.C (Kd.int .u32) w A0 l0.length l0 → l0.length ≤ c0 → Kd.C k75 w A1 l1.length l1 → l1.length ≤ c1 → Kd.C k98 w A2 l2.length l2 → l2.length ≤ c2 → Kd.C (Kd.int .i64) w A l.length l → l.length ≤ c → Calls Try.prog 18 #[.agg (#[.slice A0 l0.length c0, .slice A1 l1.length c1, .slice A2 l2.length c2] : Array Value), .agg (ctx pc r (.slice A l.length c))] w fun x w' => x = .returned (.int .i64 v) ∧ Below w.heap.size w w') ∧ (∀ (A0 A1 A2 : Option Addr) (c0 c1 c2 : Nat) (A : Option Addr) (c : Nat) (w : World), Kd.C (Kd.int .u32) w A0 l0.length l0 → l0.length ≤ c0 → Kd.C k75 w A1 l1.length l1 → l1.length ≤ c1 → Kd.C k98 w A2 l2.length l2 → l2.length ≤ c2 → Kd.C (Kd.int .i64) w A l.length l → l.length ≤ c → Calls Try.prog 19 #[.agg (#[.slice A0 l0.length c0, .slice A1 l1.length c1, .slice A2 l2.length c2] : Array Value), .agg (ctx pc r (.slice A l.length c))] w fun x w' => x = .returned (.int .i64 v) ∧ Below w.heap.size w w') := by
  obtain ⟨op, a, b, c', m, ok, n1, n2, ha, hb, hc, hz, hy⟩ := next_both l0 l1 l2 pc r l hw
  cases ok with
  | false =>
    obtain ⟨rfl, rfl, rfl, rfl, rfl⟩ := hz rfl
    exact ⟨1, fun A0 A1 A2 c0 c1 c2 A c w h0 k0 h1 k1 h2 k2 hl kl => cost18_bad l0 l1 l2 A0 A1 A2 c0 c1 c2 pc r A c l w h0 k0 h1 k1 h2 k2 hl kl hlim n1, fun A0 A1 A2 c0 c1 c2 A c w h0 k0 h1 k1 h2 k2 hl kl => cost19_bad l0 l1 l2 A0 A1 A2 c0 c1 c2 pc r A c l w h0 k0 h1 k1 h2 k2 hl kl hlim n2⟩
  | true =>
    obtain ⟨_, _, g1, g2, _⟩ := hy rfl
    obtain ⟨v, e, f, e1, e2⟩ := cost_at op g1 g2
    exact ⟨v, fun A0 A1 A2 c0 c1 c2 A c w h0 k0 h1 k1 h2 k2 hl kl => cost18_ok l0 l1 l2 A0 A1 A2 c0 c1 c2 pc r A c l w h0 k0 h1 k1 h2 k2 hl kl hlim op v e a b c' m e1 n1, fun A0 A1 A2 c0 c1 c2 A c w h0 k0 h1 k1 h2 k2 hl kl => cost19_ok l0 l1 l2 A0 A1 A2 c0 c1 c2 pc r A c l w h0 k0 h1 k1 h2 k2 hl kl hlim op v f a b c' m e2 n2⟩
set_option maxHeartbeats 2000000 in
set_option maxRecDepth 100000 in
theorem law_costs (l0 : List Int) (l1 : List S75) (l2 : List S98) (A0 A1 A2 : Option Addr) (c0 c1 c2 : Nat) (pc : Int) (r : Regs) (A : Option Addr) (c : Nat) (l : List Int) (w : World)
    (h0 : Kd.C (Kd.int .u32) w A0 l0.length l0) (k0 : l0.length ≤ c0) (h1 : Kd.C k75 w A1 l1.length l1) (k1 : l1.length ≤ c1) (h2 : Kd.C k98 w A2 l2.length l2) (k2 : l2.length ≤ c2) (hl : Kd.C (Kd.int .i64) w A l.length l) (kl : l.length ≤ c) (hlim : l.length < 17592186044416) (hw : ∀ x ∈ l0, 0 ≤ x ∧ x < 4294967296) :
    Calls Try.prog 5 #[.agg (#[.slice A0 l0.length c0, .slice A1 l1.length c1, .slice A2 l2.length c2] : Array Value), .agg (ctx pc r (.slice A l.length c))] w fun e w' => e = .returned (.bool true) ∧ Below w.heap.size w w' := by
  obtain ⟨v, c18, c19⟩ := cost_both l0 l1 l2 pc r l hw hlim
  have C18 := Lib.hid c18
  have C19 := Lib.hid c19
  clear c18 c19 hw
  have hu26 := Try.underlying26
  have hu30 := Try.underlying30
  have H0 := Aside0.mk h0
  clear h0
  have H1 := Aside0.mk h1
  clear h1
  have H2 := Aside0.mk h2
  clear h2
  have HL := Aside0.mk hl
  clear hl
  have M0 := Aside0.mk (Mem.start 3 w)
  go_enter Try.func5, Try.ntmps5
  go_wp2_with (first
    | ((with_reducible refine gate_dst (N := 2) rfl ?_); refine box_event ?hg (N := 2) ?hd (cs := (#[.slice A0 l0.length c0, .slice A1 l1.length c1, .slice A2 l2.length c2] : Array Value)) (t := 26) ?hr ?_; (case hd => rfl); (case hg => rfl); (case hr => first | (go_simp; done) | (go_simp; rfl)); intro g2 hg w2 hbox hb; have M1 := Aside0.mk (Mem.box M0.out hg hbox hb (by decide)); clear M0 hg hbox hb)
    | ((with_reducible refine gate_dst (N := 3) rfl ?_); refine box_event ?hg (N := 3) ?hd (cs := (ctx pc r (.slice A l.length c))) (t := 30) ?hr ?_; (case hd => rfl); (case hg => rfl); (case hr => first | (go_simp; done) | (go_simp; rfl)); intro g3 hg w3 hbox hb; have M2 := Aside0.mk (Mem.box M1.out hg hbox hb (by decide)); clear M1 hg hbox hb))
  have hi26_0 : (Try.prog.info? 26).map (·.size) = some (#[.slice A0 l0.length c0, .slice A1 l1.length c1, .slice A2 l2.length c2] : Array Value).toList.length := by kernel_rfl
  have hi30_1 : (Try.prog.info? 30).map (·.size) = some (ctx pc r (.slice A l.length c)).toList.length := by kernel_rfl
  refine wp_region_noPanic ?_
  have M3 := Aside0.mk (Mem.drew M2.out)
  refine wp_region_held_drew (S := fun w' => World.rangeAt w' g2 0 (#[.slice A0 l0.length c0, .slice A1 l1.length c1, .slice A2 l2.length c2] : Array Value).toList ∧ World.rangeAt w' g3 0 (ctx pc r (.slice A l.length c)).toList) (by kernel_rfl) (⟨M3.out.range 0 rfl, M3.out.range 1 rfl⟩) (fun hS => ?_)
  clear M2
  refine anyH_call (i := 0) (o := { dst := some 5, op := Op.call { callee := Callee.value (Operand.func 14), args := #[], argTypes := #[] }, type := 4, pos := "law.go:42", after := #[], guard := none }) (N := some 5) (by kernel_rfl) rfl (by rfl) rfl Try.func14 (by kernel_rfl) rfl #[] rfl (by first | (simp only [List.map_toArray, List.map_cons, List.map_nil]; done) | (simp only [List.map_toArray, List.map_cons, List.map_nil]; rfl) | simp) ?_
  refine (lives_calls _).mono ?_
  rintro e W5 ⟨rfl, hb⟩
  have M4 := Aside0.mk (Mem.call M3.out hb)
  clear M3 hb
  have hS_ : World.rangeAt W5 g2 0 (#[.slice A0 l0.length c0, .slice A1 l1.length c1, .slice A2 l2.length c2] : Array Value).toList ∧ World.rangeAt W5 g3 0 (ctx pc r (.slice A l.length c)).toList := ⟨M4.out.range 0 rfl, M4.out.range 1 rfl⟩
  clear hS
  have hS := hS_
  clear hS_
  refine ⟨Value.bool true, rfl, hS, ?_⟩
  simp only [Act.put, List.setIfInBounds_toArray, List.set_cons_zero, List.set_cons_succ]
  refine wpAnyH_take (i := 1) (oi := { dst := some 6, op := Op.move (Operand.tmp 5), type := 4, pos := "law.go:42", after := #[{ on := 0, ground := Ground.data }, { on := 0, ground := Ground.chain }], guard := none }) (v := Value.bool true) rfl (by kernel_rfl) (by kernel_rfl) (by kernel_rfl) (fun _ _ _ h => h) (Or.inl ⟨by rfl, fun wq hw => ?_⟩) hS ?_
  · clear hw; go_simp
  simp only [Act.put, List.setIfInBounds_toArray, List.set_cons_zero, List.set_cons_succ]
  refine wpAnyH_take (i := 2) (oi := { dst := some 7, op := Op.load 26 (Operand.tmp 2), type := 26, pos := "law.go:42", after := #[{ on := 1, ground := Ground.guard }], guard := some (1, true) }) (v := _) rfl (by kernel_rfl) (by kernel_rfl) (by kernel_rfl) (fun _ _ _ h => h) (yieldsIf_load_mid (by rfl) _ _ rfl _ _ rfl _ _ (fun wq hw => hw.1) hu26 rfl hi26_0) hS ?_
  simp only [Array.toArray_toList, Act.put, List.setIfInBounds_toArray, List.set_cons_zero, List.set_cons_succ]
  refine wpAnyH_take (i := 3) (oi := { dst := some 8, op := Op.load 30 (Operand.tmp 3), type := 30, pos := "law.go:42", after := #[{ on := 1, ground := Ground.guard }], guard := some (1, true) }) (v := _) rfl (by kernel_rfl) (by kernel_rfl) (by kernel_rfl) (fun _ _ _ h => h) (yieldsIf_load_mid (by rfl) _ _ rfl _ _ rfl _ _ (fun wq hw => hw.2) hu30 rfl hi30_1) hS ?_
  simp only [Array.toArray_toList, Act.put, List.setIfInBounds_toArray, List.set_cons_zero, List.set_cons_succ]
  refine wpAnyH_take (i := 6) (oi := { dst := some 11, op := Op.load 26 (Operand.tmp 2), type := 26, pos := "law.go:42", after := #[{ on := 1, ground := Ground.guard }], guard := some (1, true) }) (v := _) rfl (by kernel_rfl) (by kernel_rfl) (by kernel_rfl) (fun _ _ _ h => h) (yieldsIf_load_mid (by rfl) _ _ rfl _ _ rfl _ _ (fun wq hw => hw.1) hu26 rfl hi26_0) hS ?_
  simp only [Array.toArray_toList, Act.put, List.setIfInBounds_toArray, List.set_cons_zero, List.set_cons_succ]
  refine wpAnyH_take (i := 7) (oi := { dst := some 12, op := Op.load 30 (Operand.tmp 3), type := 30, pos := "law.go:42", after := #[{ on := 1, ground := Ground.guard }], guard := some (1, true) }) (v := _) rfl (by kernel_rfl) (by kernel_rfl) (by kernel_rfl) (fun _ _ _ h => h) (yieldsIf_load_mid (by rfl) _ _ rfl _ _ rfl _ _ (fun wq hw => hw.2) hu30 rfl hi30_1) hS ?_
  simp only [Array.toArray_toList, Act.put, List.setIfInBounds_toArray, List.set_cons_zero, List.set_cons_succ]
  refine anyH_call (i := 4) (o := { dst := some 9, op := Op.call { callee := Callee.value (Operand.func 12), args := #[Operand.tmp 8], argTypes := #[30] }, type := 30, pos := "law.go:42", after := #[{ on := 3, ground := Ground.data }, { on := 1, ground := Ground.chain }, { on := 1, ground := Ground.guard }], guard := some (1, true) }) (N := some 9) (by kernel_rfl) rfl (by rfl) rfl Try.func12 (by kernel_rfl) rfl #[.agg (ctx pc r (.slice A l.length c))] rfl (by first | (simp only [List.map_toArray, List.map_cons, List.map_nil]; done) | (simp only [List.map_toArray, List.map_cons, List.map_nil]; rfl) | simp) ?_
  refine (twin_calls pc r A c l _ (Kd.C_below HL.out M4.out.below) kl hlim).mono ?_
  rintro e W9 ⟨v9, rfl, hR, hb⟩
  obtain ⟨A9, c9, rfl⟩ := Kd.R_slice hR
  have M5 := Aside0.mk (Mem.row M4.out hb hR)
  clear M4 hb hR
  have hS_ : World.rangeAt W9 g2 0 (#[.slice A0 l0.length c0, .slice A1 l1.length c1, .slice A2 l2.length c2] : Array Value).toList ∧ World.rangeAt W9 g3 0 (ctx pc r (.slice A l.length c)).toList := ⟨M5.out.range 0 rfl, M5.out.range 1 rfl⟩
  clear hS
  have hS := hS_
  clear hS_
  refine ⟨Value.agg (ctx pc r (.slice A9 l.length c9)), rfl, hS, ?_⟩
  simp only [Act.put, List.setIfInBounds_toArray, List.set_cons_zero, List.set_cons_succ]
  refine anyH_call (i := 5) (o := { dst := some 10, op := Op.call { callee := Callee.value (Operand.func 18), args := #[Operand.tmp 7, Operand.tmp 9], argTypes := #[26, 30] }, type := 3, pos := "law.go:42", after := #[{ on := 2, ground := Ground.data }, { on := 4, ground := Ground.data }, { on := 4, ground := Ground.chain }, { on := 1, ground := Ground.guard }], guard := some (1, true) }) (N := some 10) (by kernel_rfl) rfl (by rfl) rfl Try.func18 (by kernel_rfl) rfl #[.agg (#[.slice A0 l0.length c0, .slice A1 l1.length c1, .slice A2 l2.length c2] : Array Value), .agg (ctx pc r (.slice A9 l.length c9))] rfl (by first | (simp only [List.map_toArray, List.map_cons, List.map_nil]; done) | (simp only [List.map_toArray, List.map_cons, List.map_nil]; rfl) | simp) ?_
  refine (C18.out A0 A1 A2 c0 c1 c2 A9 c9 _ (Kd.C_below H0.out M5.out.below) k0 (Kd.C_below H1.out M5.out.below) k1 (Kd.C_below H2.out M5.out.below) k2 (Kd.R_reads' M5.out.own).2.2 (Kd.R_reads' M5.out.own).2.1).mono ?_
  rintro e W10 ⟨rfl, hb⟩
  have M6 := Aside0.mk (Mem.call M5.out hb)
  clear M5 hb
  have hS_ : World.rangeAt W10 g2 0 (#[.slice A0 l0.length c0, .slice A1 l1.length c1, .slice A2 l2.length c2] : Array Value).toList ∧ World.rangeAt W10 g3 0 (ctx pc r (.slice A l.length c)).toList := ⟨M6.out.range 0 rfl, M6.out.range 1 rfl⟩
  clear hS
  have hS := hS_
  clear hS_
  refine ⟨Value.int .i64 v, rfl, hS, ?_⟩
  simp only [Act.put, List.setIfInBounds_toArray, List.set_cons_zero, List.set_cons_succ]
  refine anyH_call (i := 8) (o := { dst := some 13, op := Op.call { callee := Callee.value (Operand.func 19), args := #[Operand.tmp 11, Operand.tmp 12], argTypes := #[26, 30] }, type := 3, pos := "law.go:42", after := #[{ on := 6, ground := Ground.data }, { on := 7, ground := Ground.data }, { on := 5, ground := Ground.chain }, { on := 1, ground := Ground.guard }], guard := some (1, true) }) (N := some 13) (by kernel_rfl) rfl (by rfl) rfl Try.func19 (by kernel_rfl) rfl #[.agg (#[.slice A0 l0.length c0, .slice A1 l1.length c1, .slice A2 l2.length c2] : Array Value), .agg (ctx pc r (.slice A l.length c))] rfl (by first | (simp only [List.map_toArray, List.map_cons, List.map_nil]; done) | (simp only [List.map_toArray, List.map_cons, List.map_nil]; rfl) | simp) ?_
  refine (C19.out A0 A1 A2 c0 c1 c2 A c _ (Kd.C_below H0.out M6.out.below) k0 (Kd.C_below H1.out M6.out.below) k1 (Kd.C_below H2.out M6.out.below) k2 (Kd.C_below HL.out M6.out.below) kl).mono ?_
  rintro e W13 ⟨rfl, hb⟩
  have M7 := Aside0.mk (Mem.call M6.out hb)
  clear M6 hb
  have hS_ : World.rangeAt W13 g2 0 (#[.slice A0 l0.length c0, .slice A1 l1.length c1, .slice A2 l2.length c2] : Array Value).toList ∧ World.rangeAt W13 g3 0 (ctx pc r (.slice A l.length c)).toList := ⟨M7.out.range 0 rfl, M7.out.range 1 rfl⟩
  clear hS
  have hS := hS_
  clear hS_
  refine ⟨Value.int .i64 v, rfl, hS, ?_⟩
  simp only [Act.put, List.setIfInBounds_toArray, List.set_cons_zero, List.set_cons_succ]
  refine wpAnyH_take (i := 9) (oi := { dst := some 14, op := Op.binOp BinOp.eql 3 (Operand.tmp 10) (Operand.tmp 13) 3, type := 4, pos := "law.go:42", after := #[{ on := 5, ground := Ground.data }, { on := 8, ground := Ground.data }, { on := 1, ground := Ground.guard }], guard := some (1, true) }) (v := Value.bool true) rfl (by kernel_rfl) (by kernel_rfl) (by kernel_rfl) (fun _ _ _ h => h) (Or.inl ⟨by rfl, fun wq hw => ?_⟩) hS ?_
  · clear hw; go_simp
  simp only [Act.put, List.setIfInBounds_toArray, List.set_cons_zero, List.set_cons_succ]
  refine wpAnyH_take (i := 10) (oi := { dst := some 15, op := Op.pick (Operand.tmp 6) (Operand.tmp 14) (Operand.const (Value.bool false)), type := 4, pos := "law.go:42", after := #[{ on := 1, ground := Ground.data }, { on := 9, ground := Ground.data }], guard := none }) (v := Value.bool true) rfl (by kernel_rfl) (by kernel_rfl) (by kernel_rfl) (fun _ _ _ h => h) (Or.inl ⟨by rfl, fun wq hw => ?_⟩) hS ?_
  · clear hw; go_simp
  simp only [Act.put, List.setIfInBounds_toArray, List.set_cons_zero, List.set_cons_succ]
  refine wpAnyH_take (i := 11) (oi := { dst := some 4, op := Op.assign (Operand.tmp 15), type := 4, pos := "law.go:42", after := #[{ on := 10, ground := Ground.data }, { on := 8, ground := Ground.chain }, { on := 0, ground := Ground.phase }, { on := 1, ground := Ground.phase }, { on := 2, ground := Ground.phase }, { on := 3, ground := Ground.phase }, { on := 4, ground := Ground.phase }, { on := 5, ground := Ground.phase }, { on := 6, ground := Ground.phase }, { on := 7, ground := Ground.phase }, { on := 8, ground := Ground.phase }, { on := 9, ground := Ground.phase }, { on := 10, ground := Ground.phase }], guard := none }) (v := Value.bool true) rfl (by kernel_rfl) (by kernel_rfl) (by kernel_rfl) (fun _ _ _ h => h) (Or.inl ⟨by rfl, fun wq hw => ?_⟩) hS ?_
  · clear hw; go_simp
  simp only [Act.put, List.setIfInBounds_toArray, List.set_cons_zero, List.set_cons_succ]
  refine wpAnyH_done (by kernel_rfl) ?_ _
  refine NoPanic.normal ?_
  clear hS
  go_wp2_with fail
  go_ret
  exact ⟨rfl, M7.out.below⟩
end Go.Proofs.Ythjfmlehkcccfaa.Hlaw5
end

section
/-
  From what an argument reads as (the row's words) to the kinds in which the contracts speak: one law a make of type.
-/
set_option linter.unusedVariables false
set_option linter.unusedSimpArgs false
namespace Go.Proofs.Ythjfmlehkcccfaa.Opn
open Go.Proofs.YthjfmlehkcccfaaW.PrintWords

/-- Whatever reads as data at type t is of kind d, and G says what is known of its size. -/
structure Opens {α : Type} (P : Program) (t : TypeId) (d : Kd α) (G : α → Nat → Prop) : Prop where
  size : P.cellsOf t = d.sz
  mono : ∀ x m n, m ≤ n → G x m → G x n
  opens : ∀ {H : Type} (enc : TypeId × Value → H) (w : World) (base : Nat) (spare : Nat → Bool) (held : Bool) (fuel : Nat) (cs : List Value) (x : DataW H × List MemPlace),
    DataW.trod enc P w base spare held fuel t cs = some x → (∀ n ∈ x.1.weights P t, n ≤ reachBytes) → ∃ v, d.K w v cs ∧ G v (Rows.uptoBulk x.1)

variable {P : Program} {t e : TypeId}
def GInt (k : IntKind) (v : Int) (_ : Nat) : Prop := (Lit.int k v).wf = true
def GBool (_ : Bool) (_ : Nat) : Prop := True
def GStr (s : ByteArray) (n : Nat) : Prop := s.size ≤ 140737488351232 ∧ s.size < n
def GSl {α : Type} (B : Nat) (G : α → Nat → Prop) (xs : List α) (n : Nat) : Prop := xs.length * B ≤ 140737488351232 ∧ xs.length ≤ maxLen ∧ xs.length < n ∧ ∀ x ∈ xs, G x n

theorem opens_int {k : IntKind} (ht : P.underlying t = some (.int k)) (hc : P.cellsOf t = 1) : Opens P t (Kd.int k) (GInt k) where
  size := hc
  mono := fun _ _ _ _ h => h
  opens := by
    intro H enc w base spare held fuel cs x h _
    obtain ⟨n, rfl, rfl, hw⟩ := DataW.trod_int ht h
    exact ⟨n, rfl, hw⟩
theorem opens_bool (ht : P.underlying t = some .bool) (hc : P.cellsOf t = 1) : Opens P t Kd.bool GBool where
  size := hc
  mono := fun _ _ _ _ h => h
  opens := by
    intro H enc w base spare held fuel cs x h _
    obtain ⟨b, rfl, rfl⟩ := DataW.trod_bool ht h
    exact ⟨b, rfl, trivial⟩
theorem opens_string (ht : P.underlying t = some .string) (hc : P.cellsOf t = 1) : Opens P t Kd.string GStr where
  size := hc
  mono := fun _ _ _ hmn h => ⟨h.1, Nat.lt_of_lt_of_le h.2 hmn⟩
  opens := by
    intro H enc w base spare held fuel cs x h hw
    obtain ⟨s, rfl, rfl, _⟩ := DataW.trod_string ht h
    have h1 := hw s.data.toList.length (by simp [DataW.weights])
    refine ⟨s, rfl, ?_, ?_⟩
    · simpa [reachBytes] using h1
    · simp [Rows.uptoBulk]
theorem weights_all {H : Type} {P : Program} {e : TypeId} : ∀ {l : List (DataW H)} {d : DataW H}, d ∈ l → ∀ n ∈ d.weights P e, n ∈ DataW.weightsAll P e l
  | a :: l, d, hd, n, hn => by
    rw [DataW.weightsAll]
    rcases List.mem_cons.1 hd with rfl | hd
    · exact List.mem_append_left _ hn
    · exact List.mem_append_right _ (weights_all hd n hn)
theorem bulk_all {H : Type} : ∀ {l : List (DataW H)} {d : DataW H}, d ∈ l → Rows.uptoBulk d ≤ Rows.uptoBulkAll l
  | a :: l, d, hd => by
    rw [Rows.uptoBulkAll]
    rcases List.mem_cons.1 hd with rfl | hd
    · omega
    · have := bulk_all hd; omega
theorem bulk_pos {H : Type} (d : DataW H) : 1 ≤ Rows.uptoBulk d := by
  cases d with
  | lit l => cases l <;> simp [Rows.uptoBulk]
  | _ => simp [Rows.uptoBulk]
theorem bulk_len {H : Type} : ∀ l : List (DataW H), l.length ≤ Rows.uptoBulkAll l
  | [] => by simp
  | a :: l => by rw [Rows.uptoBulkAll]; have := bulk_len l; have := bulk_pos a; simp; omega
theorem choice_list {α : Type} {R : Nat → α → Prop} : ∀ (n : Nat), (∀ i < n, ∃ v, R i v) → ∃ l : List α, l.length = n ∧ ∀ i v, l[i]? = some v → R i v
  | 0, _ => ⟨[], rfl, fun i v h => by simp at h⟩
  | n + 1, h => by
    obtain ⟨l, hl, hr⟩ := choice_list n (fun i hi => h i (by omega))
    obtain ⟨v, hv⟩ := h n (by omega)
    refine ⟨l ++ [v], by simp [hl], fun i u hu => ?_⟩
    rcases Nat.lt_or_ge i l.length with hi | hi
    · rw [List.getElem?_append_left hi] at hu
      exact hr i u hu
    · rw [List.getElem?_append_right hi] at hu
      have h0 : i - l.length = 0 := by
        rcases Nat.eq_zero_or_pos (i - l.length) with h0 | h0
        · exact h0
        · rw [List.getElem?_eq_none (by simp; omega)] at hu; cases hu
      rw [h0] at hu
      obtain rfl : v = u := by simpa using hu
      obtain rfl : i = n := by omega
      exact hv
theorem opens_slice {α : Type} {d : Kd α} {G : α → Nat → Prop} {B : Nat} (he : Opens P e d G) (ht : P.underlying t = some (.slice e)) (hc : P.cellsOf t = 1) (hB : P.bytesOf e = B) : Opens P t (Kd.slice e d) (GSl B G) where
  size := hc
  mono := fun _ _ _ hmn h => ⟨h.1, h.2.1, Nat.lt_of_lt_of_le h.2.2.1 hmn, fun x hx => he.mono _ _ _ hmn (h.2.2.2 x hx)⟩
  opens := by
    intro H enc w base spare held fuel cs x h hw
    rcases DataW.trod_slice ht h with ⟨rfl, rfl⟩ | ⟨a, len, cap, elems, rest, n, rfl, rfl, rfl, hb, hl, hm, hlen, hel, _, _⟩
    · exact ⟨[], ⟨none, 0, rfl, Nat.le_refl _, Kd.C_nil d w⟩, by simp, by simp, by simp [Rows.uptoBulk], by simp⟩
    · simp only [DataW.weights, ht] at hw
      have hbulk : Rows.uptoBulkAll (elems.map (·.1)) < Rows.uptoBulk (DataW.slice (elems.map (·.1)) (rest.map (·.1))) := by rw [Rows.uptoBulk]; omega
      have each : ∀ i < len, ∃ v, ∃ c, d.K w v c ∧ G v (Rows.uptoBulk (DataW.slice (elems.map (·.1)) (rest.map (·.1)))) ∧ w.cells? base (a.add (i * P.cellsOf e)) (P.cellsOf e) = some c := by
        intro i hi
        have h1 := hel i hi
        rw [List.getElem?_eq_getElem (by omega)] at h1
        obtain ⟨c, hc1, hc2⟩ := Option.bind_eq_some_iff.1 h1
        have hmem : elems[i].1 ∈ elems.map (·.1) := List.mem_map.2 ⟨_, List.getElem_mem _, rfl⟩
        obtain ⟨v, hv1, hv2⟩ := he.opens enc w base spare held n c _ hc2 (fun q hq => hw q (List.mem_cons_of_mem _ (List.mem_append_left _ (weights_all hmem q hq))))
        exact ⟨v, c, hv1, he.mono _ _ _ (by have := bulk_all hmem; omega) hv2, hc1⟩
      obtain ⟨l, hl1, hl2⟩ := choice_list len each
      refine ⟨l, ⟨some a, cap, by rw [hl1], by omega, ?_⟩, ?_, by rw [hl1]; omega, ?_, ?_⟩
      · rw [hl1]
        refine ⟨hl1, by unfold maxLen at hm; omega, fun _ => ⟨a, rfl, fun j p hj => ?_⟩⟩
        obtain ⟨c, hc1, _, hc3⟩ := hl2 j p hj
        obtain ⟨_, hc4, hc5⟩ := World.cells?_some hc3
        refine ⟨c, by rw [hc4, he.size], hc1, fun i u hu => ?_⟩
        have hi : i < P.cellsOf e := by
          rcases Nat.lt_or_ge i c.length with h | h
          · omega
          · rw [List.getElem?_eq_none h] at hu; cases hu
        have := hc5 i hi
        rw [hu] at this
        rw [← this, ← he.size]
        rw [Addr.add_add]
      · have h1 := hw _ (List.mem_cons_self)
        rw [hl1, ← hB, ← hlen]
        have h2 : elems.length * P.bytesOf e ≤ ((elems.map (·.1)).length + (rest.map (·.1)).length) * P.bytesOf e := Nat.mul_le_mul_right _ (by simp)
        exact Nat.le_trans h2 (by simpa [reachBytes] using h1)
      · rw [hl1, ← hlen]
        have := bulk_len (elems.map (·.1))
        simp at this ⊢
        simp at hbulk
        omega
      · intro x hx
        obtain ⟨i, hi, rfl⟩ := List.getElem_of_mem hx
        exact (hl2 i _ (List.getElem?_eq_getElem hi)).choose_spec.2.1

/-! ### structs: their fields in line -/
structure OpensSeq {α : Type} (P : Program) (ts : List TypeId) (d : Kd α) (G : α → Nat → Prop) : Prop where
  size : (ts.map P.cellsOf).sum = d.sz
  mono : ∀ x m n, m ≤ n → G x m → G x n
  opens : ∀ {H : Type} (enc : TypeId × Value → H) (w : World) (base : Nat) (spare : Nat → Bool) (held : Bool) (fuel : Nat) (cs : List Value) (xs : List (DataW H × List MemPlace)),
    cs.length = d.sz → xs.length = ts.length →
    (∀ i t, ts[i]? = some t → ∃ y, xs[i]? = some y ∧ DataW.trod enc P w base spare held fuel t ((cs.drop ((ts.take i).map P.cellsOf).sum).take (P.cellsOf t)) = some y ∧ ∀ n ∈ y.1.weights P t, n ≤ reachBytes) →
    ∃ v, d.K w v cs ∧ G v (Rows.uptoBulkAll (xs.map (·.1)))
theorem seq_one {α : Type} {d : Kd α} {G : α → Nat → Prop} (h : Opens P t d G) : OpensSeq P [t] d G where
  size := by simp [h.size]
  mono := h.mono
  opens := by
    intro H enc w base spare held fuel cs xs hl hx hf
    obtain ⟨y, hy, ht, hw⟩ := hf 0 t rfl
    have e : (cs.drop 0).take (P.cellsOf t) = cs := by rw [List.drop_zero, List.take_of_length_le (by rw [hl, h.size]; exact Nat.le_refl _)]
    simp only [List.take_zero, List.map_nil, List.sum_nil] at ht
    rw [e] at ht
    obtain ⟨v, h1, h2⟩ := h.opens enc w base spare held fuel cs y ht hw
    exact ⟨v, h1, h.mono _ _ _ (bulk_all (List.mem_map.2 ⟨y, List.mem_of_getElem? hy, rfl⟩)) h2⟩
def GPair {α β : Type} (G : α → Nat → Prop) (G' : β → Nat → Prop) (x : α × β) (n : Nat) : Prop := G x.1 n ∧ G' x.2 n
theorem seq_cons {α β : Type} {d : Kd α} {G : α → Nat → Prop} {ts : List TypeId} {d' : Kd β} {G' : β → Nat → Prop} (h : Opens P t d G) (h' : OpensSeq P ts d' G') : OpensSeq P (t :: ts) (Kd.pair d d') (GPair G G') where
  size := by show _ = d.sz + d'.sz; simp [h.size, ← h'.size]
  mono := fun x m n hmn hx => ⟨h.mono _ _ _ hmn hx.1, h'.mono _ _ _ hmn hx.2⟩
  opens := by
    intro H enc w base spare held fuel cs xs hl hx hf
    replace hl : cs.length = d.sz + d'.sz := hl
    obtain ⟨y, hy, ht, hw⟩ := hf 0 t rfl
    simp only [List.take_zero, List.map_nil, List.sum_nil, List.drop_zero] at ht
    obtain ⟨v, h1, h2⟩ := h.opens enc w base spare held fuel _ y ht hw
    match xs, hx with
    | [], hx => simp at hx
    | x0 :: xs, hx =>
      obtain rfl : x0 = y := by simpa using hy
      obtain ⟨v', h3, h4⟩ := h'.opens enc w base spare held fuel (cs.drop (P.cellsOf t)) xs (by rw [List.length_drop, hl, h.size]; omega) (by simpa using hx) (fun i t' hi => by
        obtain ⟨y', hy', ht', hw'⟩ := hf (i + 1) t' (by simpa using hi)
        refine ⟨y', by simpa using hy', ?_, hw'⟩
        rw [List.drop_drop]
        simpa [List.take_succ_cons] using ht')
      refine ⟨(v, v'), ⟨cs.take (P.cellsOf t), cs.drop (P.cellsOf t), (List.take_append_drop _ _).symm, h1, h3⟩, ?_, ?_⟩
      · refine h.mono _ _ _ ?_ h2
        rw [List.map_cons, Rows.uptoBulkAll]; omega
      · refine h'.mono _ _ _ ?_ h4
        rw [List.map_cons, Rows.uptoBulkAll]; omega
def offsB (P : Program) : Nat → List Field → Bool
  | _, [] => true
  | o, f :: r => (f.offset == o) && offsB P (o + P.cellsOf f.type) r
theorem offs_at : ∀ {l : List Field} {o : Nat}, offsB P o l = true → ∀ i f, l[i]? = some f → f.offset = o + (((l.map (·.type)).take i).map P.cellsOf).sum
  | [], o, _, i, f, hf => by simp at hf
  | a :: l, o, h, i, f, hf => by
    simp only [offsB, Bool.and_eq_true, beq_iff_eq] at h
    cases i with
    | zero => obtain rfl : a = f := by simpa using hf
              simp [h.1]
    | succ i =>
      have := offs_at h.2 i f (by simpa using hf)
      rw [this]
      simp [List.take_succ_cons]; omega
theorem weights_each {H : Type} : ∀ {ts : List TypeId} {ds : List (DataW H)} {i : Nat} {t : TypeId} {d : DataW H}, ts[i]? = some t → ds[i]? = some d → ∀ n ∈ d.weights P t, n ∈ DataW.weightsEach P ts ds :=
  fun ht hd n hn => DataW.weights_mem_each ht hd n hn
theorem opens_struct {α β : Type} {d : Kd α} {G : α → Nat → Prop} {fs : Array Field} {ts : List TypeId} (h : OpensSeq P ts d G) (ht : P.underlying t = some (.struct fs)) (hts : fs.toList.map (·.type) = ts) (ho : offsB P 0 fs.toList = true)
    (hc : P.cellsOf t = d.sz) (f : β → α) (g : α → β) (hfg : ∀ a, f (g a) = a) : Opens P t (Kd.iso d f) (fun x n => G (f x) n) where
  size := hc
  mono := fun x m n hmn hx => h.mono _ _ _ hmn hx
  opens := by
    intro H enc w base spare held fuel cs x hx hw
    obtain ⟨xs, n, _, rfl, hl, hlen, hf⟩ := DataW.trod_struct ht hx
    have hlen2 : xs.length = ts.length := by rw [hlen, ← hts]; simp
    simp only [DataW.weights, ht, hts] at hw
    obtain ⟨v, h1, h2⟩ := h.opens enc w base spare held n cs xs (hl.trans hc) hlen2 (fun i t' hi => by
      have hi2 : i < ts.length := by
        rcases Nat.lt_or_ge i ts.length with h | h
        · exact h
        · rw [List.getElem?_eq_none h] at hi; cases hi
      have hfi : ∃ fi : Field, fs[i]? = some fi ∧ fi.type = t' := by
        rw [← hts, List.getElem?_map] at hi
        obtain ⟨fi, h3, h4⟩ := Option.map_eq_some_iff.1 hi
        exact ⟨fi, by simpa using h3, h4⟩
      obtain ⟨fi, hfi1, rfl⟩ := hfi
      have h5 := hf i fi hfi1
      refine ⟨xs[i], List.getElem?_eq_getElem (by omega), ?_, ?_⟩
      · rw [List.getElem?_eq_getElem (by omega)] at h5
        have := offs_at ho i fi (by simpa using hfi1)
        rw [hts, Nat.zero_add] at this
        rw [← this]
        exact h5
      · intro q hq
        exact hw q (weights_each hi (by rw [List.getElem?_map, List.getElem?_eq_getElem (by omega)]; rfl) q hq))
    refine ⟨g v, by show d.K w (f (g v)) cs; rw [hfg]; exact h1, ?_⟩
    show G (f (g v)) _
    rw [hfg]
    exact h.mono _ _ _ (by rw [Rows.uptoBulk]; omega) h2
/-! ### arrays: their elements in line -/
theorem okWide_array {w : World} {r : Reach} {base : Nat} {v : Value} {k : Nat} (ht : P.underlying t = some (.array k e)) (h : Value.okWide P w r base t v) : ∃ cs, v = .agg cs ∧ cs.size = P.cellsOf t := by
  simp only [Value.okWide, ht] at h
  obtain ⟨cs, h1, h2, _⟩ := h
  exact ⟨cs, h1, h2⟩
theorem opens_array {α β : Type} {d : Kd α} {G : α → Nat → Prop} {k : Nat} (h : OpensSeq P (List.replicate k e) d G) (ht : P.underlying t = some (.array k e)) (hc : P.cellsOf t = d.sz) (f : β → α) (g : α → β) (hfg : ∀ a, f (g a) = a) : Opens P t (Kd.iso d f) (fun x n => G (f x) n) where
  size := hc
  mono := fun x m n hmn hx => h.mono _ _ _ hmn hx
  opens := by
    intro H enc w base spare held fuel cs x hx hw
    obtain ⟨xs, m, _, rfl, hl, hlen, hf⟩ := DataW.trod_array ht hx
    simp only [DataW.weights, ht] at hw
    obtain ⟨v, h1, h2⟩ := h.opens enc w base spare held m cs xs (hl.trans hc) (by simp [hlen]) (fun i t' hi => by
      obtain ⟨hi2, rfl⟩ : i < k ∧ e = t' := by
        rw [List.getElem?_replicate] at hi
        split at hi
        · rename_i h0; exact ⟨h0, Option.some.inj hi⟩
        · cases hi
      have h5 := hf i hi2
      refine ⟨xs[i], List.getElem?_eq_getElem (by omega), ?_, ?_⟩
      · rw [List.getElem?_eq_getElem (by omega)] at h5
        have h6 : (((List.replicate k e).take i).map P.cellsOf).sum = i * P.cellsOf e := by
          rw [List.take_replicate, List.map_replicate, Nat.min_eq_left (by omega)]
          clear h5 hi2 hf hi
          induction i with
          | zero => simp
          | succ i ih => rw [List.replicate_succ, List.sum_cons, ih]; rw [Nat.succ_mul]; omega
        rw [h6]
        exact h5
      · intro q hq
        exact hw q (weights_all (List.mem_map.2 ⟨xs[i], List.getElem_mem _, rfl⟩) q hq))
    refine ⟨g v, by show d.K w (f (g v)) cs; rw [hfg]; exact h1, ?_⟩
    show G (f (g v)) _
    rw [hfg]
    exact h.mono _ _ _ (by rw [Rows.uptoBulk]; omega) h2
end Go.Proofs.Ythjfmlehkcccfaa.Opn
end

section
/-
  What the arguments' types open to: a program (words, marks, tables) and a context (place, registers, calls).
-/
namespace Go.Proofs.Ythjfmlehkcccfaa.Kinds
open Go.Proofs.YthjfmlehkcccfaaW.PrintWords Go.Proofs.Ythjfmlehkcccfaa.Opn Go.Proofs.Ythjfmlehkcccfaa.GA Go.Proofs.Ythjfmlehkcccfaa.Hctx
theorem o3 : Opens Try.prog 3 (Kd.int .i64) (GInt .i64) := opens_int Try.underlying3 (by kernel_rfl)
theorem o2 : Opens Try.prog 2 (Kd.int .i64) (GInt .i64) := opens_int Try.underlying2 (by kernel_rfl)
theorem o4 : Opens Try.prog 4 Kd.bool GBool := opens_bool Try.underlying4 (by kernel_rfl)
theorem oW : Opens Try.prog 61 (Kd.int .u32) (GInt .u32) := opens_int Try.underlying61 (by kernel_rfl)
def G75 (x : S75) (n : Nat) : Prop := GPair (GInt .i64) (GInt .i64) (x.f0, x.f1) n
theorem o75 : Opens Try.prog 75 k75 G75 :=
  opens_struct (seq_cons o3 (seq_one o3)) Try.underlying75 (by kernel_rfl) (by kernel_rfl) (by kernel_rfl) _ (fun a => ⟨a.1, a.2⟩) (fun _ => rfl)
def G106 (x : S106) (n : Nat) : Prop := GPair GBool (GPair (GInt .i64) (GPair (GInt .i64) (GInt .i64))) (x.f0, x.f1, x.f2, x.f3) n
theorem o106 : Opens Try.prog 106 k106 G106 :=
  opens_struct (seq_cons o4 (seq_cons o3 (seq_cons o3 (seq_one o3)))) Try.underlying106 (by kernel_rfl) (by kernel_rfl) (by kernel_rfl) _ (fun a => ⟨a.1, a.2.1, a.2.2.1, a.2.2.2⟩) (fun _ => rfl)
theorem o96 : Opens Try.prog 96 (Kd.slice 106 k106) (GSl 32 G106) := opens_slice o106 Try.underlying96 (by kernel_rfl) (B := 32) (by kernel_rfl)
def G98 (x : S98) (n : Nat) : Prop := GPair (GSl 32 G106) GBool (x.f0, x.f1) n
theorem o98 : Opens Try.prog 98 k98 G98 :=
  opens_struct (seq_cons o96 (seq_one o4)) Try.underlying98 (by kernel_rfl) (by kernel_rfl) (by kernel_rfl) _ (fun a => ⟨a.1, a.2⟩) (fun _ => rfl)
theorem o22 : Opens Try.prog 22 (Kd.slice 61 (Kd.int .u32)) (GSl 4 (GInt .u32)) := opens_slice oW Try.underlying22 (by kernel_rfl) (B := 4) (by kernel_rfl)
theorem o23 : Opens Try.prog 23 (Kd.slice 75 k75) (GSl 16 G75) := opens_slice o75 Try.underlying23 (by kernel_rfl) (B := 16) (by kernel_rfl)
theorem o24 : Opens Try.prog 24 (Kd.slice 98 k98) (GSl 32 G98) := opens_slice o98 Try.underlying24 (by kernel_rfl) (B := 32) (by kernel_rfl)
theorem o28 : Opens Try.prog 28 (Kd.slice 3 (Kd.int .i64)) (GSl 8 (GInt .i64)) := opens_slice o3 Try.underlying28 (by kernel_rfl) (B := 8) (by kernel_rfl)
structure PrgD where
  (l0 : List Int) (l1 : List S75) (l2 : List S98)
def kPrg : Kd PrgD := Kd.iso (Kd.pair (Kd.slice 61 (Kd.int .u32)) (Kd.pair (Kd.slice 75 k75) (Kd.slice 98 k98))) (fun x : PrgD => (x.l0, x.l1, x.l2))
def GPrg (x : PrgD) (n : Nat) : Prop := GPair (GSl 4 (GInt .u32)) (GPair (GSl 16 G75) (GSl 32 G98)) (x.l0, x.l1, x.l2) n
theorem o26 : Opens Try.prog 26 kPrg GPrg :=
  opens_struct (seq_cons o22 (seq_cons o23 (seq_one o24))) Try.underlying26 (by kernel_rfl) (by kernel_rfl) (by kernel_rfl) _ (fun a => ⟨a.1, a.2.1, a.2.2⟩) (fun _ => rfl)
theorem kPrg_open {w : World} {x : PrgD} {cs : List Value} (h : kPrg.K w x cs) : ∃ A0 c0 A1 c1 A2 c2, cs = [.slice A0 x.l0.length c0, .slice A1 x.l1.length c1, .slice A2 x.l2.length c2] ∧ x.l0.length ≤ c0 ∧ Kd.C (Kd.int .u32) w A0 x.l0.length x.l0 ∧ x.l1.length ≤ c1 ∧ Kd.C k75 w A1 x.l1.length x.l1 ∧ x.l2.length ≤ c2 ∧ Kd.C k98 w A2 x.l2.length x.l2 := by
  obtain ⟨_, _, rfl, ⟨A0, c0, rfl, g0, h0⟩, ⟨_, _, rfl, ⟨A1, c1, rfl, g1, h1⟩, ⟨A2, c2, rfl, g2, h2⟩⟩⟩ := h
  exact ⟨A0, c0, A1, c1, A2, c2, rfl, g0, h0, g1, h1, g2, h2⟩
def kRegs : Kd Regs := Kd.iso (Kd.pair (Kd.int .i64) (Kd.pair (Kd.int .i64) (Kd.pair (Kd.int .i64) (Kd.pair (Kd.int .i64) (Kd.pair (Kd.int .i64) (Kd.pair (Kd.int .i64) (Kd.pair (Kd.int .i64) (Kd.pair (Kd.int .i64) (Kd.pair (Kd.int .i64) (Kd.pair (Kd.int .i64) (Kd.pair (Kd.int .i64) (Kd.pair (Kd.int .i64) (Kd.pair (Kd.int .i64) (Kd.pair (Kd.int .i64) (Kd.pair (Kd.int .i64) (Kd.int .i64)))))))))))))))) (fun r : Regs => (r.r0, r.r1, r.r2, r.r3, r.r4, r.r5, r.r6, r.r7, r.r8, r.r9, r.r10, r.r11, r.r12, r.r13, r.r14, r.r15))
def GRegs (r : Regs) (n : Nat) : Prop := (GPair (GInt .i64) (GPair (GInt .i64) (GPair (GInt .i64) (GPair (GInt .i64) (GPair (GInt .i64) (GPair (GInt .i64) (GPair (GInt .i64) (GPair (GInt .i64) (GPair (GInt .i64) (GPair (GInt .i64) (GPair (GInt .i64) (GPair (GInt .i64) (GPair (GInt .i64) (GPair (GInt .i64) (GPair (GInt .i64) (GInt .i64)))))))))))))))) (r.r0, r.r1, r.r2, r.r3, r.r4, r.r5, r.r6, r.r7, r.r8, r.r9, r.r10, r.r11, r.r12, r.r13, r.r14, r.r15) n
theorem o27 : Opens Try.prog 27 kRegs GRegs :=
  opens_array (k := 16) (e := 2) (seq_cons o2 (seq_cons o2 (seq_cons o2 (seq_cons o2 (seq_cons o2 (seq_cons o2 (seq_cons o2 (seq_cons o2 (seq_cons o2 (seq_cons o2 (seq_cons o2 (seq_cons o2 (seq_cons o2 (seq_cons o2 (seq_cons o2 (seq_one o2)))))))))))))))) Try.underlying27 (by kernel_rfl) _ (fun a => ⟨a.1, a.2.1, a.2.2.1, a.2.2.2.1, a.2.2.2.2.1, a.2.2.2.2.2.1, a.2.2.2.2.2.2.1, a.2.2.2.2.2.2.2.1, a.2.2.2.2.2.2.2.2.1, a.2.2.2.2.2.2.2.2.2.1, a.2.2.2.2.2.2.2.2.2.2.1, a.2.2.2.2.2.2.2.2.2.2.2.1, a.2.2.2.2.2.2.2.2.2.2.2.2.1, a.2.2.2.2.2.2.2.2.2.2.2.2.2.1, a.2.2.2.2.2.2.2.2.2.2.2.2.2.2.1, a.2.2.2.2.2.2.2.2.2.2.2.2.2.2.2⟩) (fun _ => rfl)
theorem kRegs_open {w : World} {r : Regs} {cs : List Value} (h : kRegs.K w r cs) : cs = [.int .i64 r.r0, .int .i64 r.r1, .int .i64 r.r2, .int .i64 r.r3, .int .i64 r.r4, .int .i64 r.r5, .int .i64 r.r6, .int .i64 r.r7, .int .i64 r.r8, .int .i64 r.r9, .int .i64 r.r10, .int .i64 r.r11, .int .i64 r.r12, .int .i64 r.r13, .int .i64 r.r14, .int .i64 r.r15] := by
  obtain ⟨_, _, rfl, rfl, ⟨_, _, rfl, rfl, ⟨_, _, rfl, rfl, ⟨_, _, rfl, rfl, ⟨_, _, rfl, rfl, ⟨_, _, rfl, rfl, ⟨_, _, rfl, rfl, ⟨_, _, rfl, rfl, ⟨_, _, rfl, rfl, ⟨_, _, rfl, rfl, ⟨_, _, rfl, rfl, ⟨_, _, rfl, rfl, ⟨_, _, rfl, rfl, ⟨_, _, rfl, rfl, ⟨_, _, rfl, rfl, rfl⟩⟩⟩⟩⟩⟩⟩⟩⟩⟩⟩⟩⟩⟩⟩ := h
  exact rfl
structure CtxD where
  (pc : Int) (r : Regs) (l : List Int)
def kCtx : Kd CtxD := Kd.iso (Kd.pair (Kd.int .i64) (Kd.pair kRegs (Kd.slice 3 (Kd.int .i64)))) (fun x : CtxD => (x.pc, x.r, x.l))
def GCtx (x : CtxD) (n : Nat) : Prop := GPair (GInt .i64) (GPair GRegs (GSl 8 (GInt .i64))) (x.pc, x.r, x.l) n
theorem o30 : Opens Try.prog 30 kCtx GCtx :=
  opens_struct (seq_cons o3 (seq_cons o27 (seq_one o28))) Try.underlying30 (by kernel_rfl) (by kernel_rfl) (by kernel_rfl) _ (fun a => ⟨a.1, a.2.1, a.2.2⟩) (fun _ => rfl)
theorem kCtx_open {w : World} {x : CtxD} {cs : List Value} (h : kCtx.K w x cs) : ∃ A c, cs = (ctx x.pc x.r (.slice A x.l.length c)).toList ∧ x.l.length ≤ c ∧ Kd.C (Kd.int .i64) w A x.l.length x.l := by
  obtain ⟨_, _, rfl, rfl, ⟨_, _, rfl, hr, ⟨A, c, rfl, g, h⟩⟩⟩ := h
  obtain rfl := kRegs_open hr
  exact ⟨A, c, rfl, g, h⟩
theorem words_lt {l : List Int} {n : Nat} (h : GSl 4 (GInt .u32) l n) : ∀ x ∈ l, 0 ≤ x ∧ x < 4294967296 := by
  intro x hx
  have w0 : (Lit.int .u32 x).wf = true := h.2.2.2 x hx
  simp [Lit.wf, IntKind.min, IntKind.max, IntKind.signed, IntKind.bits] at w0
  omega
theorem calls_lt {l : List Int} {n : Nat} (h : GSl 8 (GInt .i64) l n) : l.length < 17592186044416 := by
  have := h.1
  omega
end Go.Proofs.Ythjfmlehkcccfaa.Kinds
end

section
/-
  Cost answers as its reference, whatever the program and the context.
-/
set_option linter.unusedVariables false
set_option linter.unusedSimpArgs false
namespace Go.Proofs.Ythjfmlehkcccfaa.stepCosts
open Go.ChangeShapes Go.WideShapes Go.ChangeAt Go.RowKit Go.Proofs.YthjfmlehkcccfaaW.PrintWords Go.Proofs.Ythjfmlehkcccfaa.Opn
open Go.ChangeMaps (open_string shut_string)
theorem own : ownKnob Try.prog.godebug = none := by kernel_rfl
theorem laidOut : laidOutB Try.prog = true := by kernel_rfl
set_option maxRecDepth 100000 in
theorem lifted (os : Os) (started : os.Started) (H : Type) (enc : TypeId × Value → H) :
    ReturnsInHanded {} Try.checked os 5 .any (Rows.stepCostsSpec.pre6 enc Try.prog Try.f5 Rows.stepCostsRow.domain false) (Rows.stepCostsSpec.post enc Try.prog Try.f5 false true false false) := by
  refine returnsInHanded_of_change_sized (C := Try.checked) own started (by kernel_rfl) Try.func5
    (ChangeSpec.witness6 (enc := enc) (C := Try.checked) false ⟨#[], #[.agg #[.slice none 0 0, .slice none 0 0, .slice none 0 0], .agg #[.int .i64 0, .int .i64 0, .int .i64 0, .int .i64 0, .int .i64 0, .int .i64 0, .int .i64 0, .int .i64 0, .int .i64 0, .int .i64 0, .int .i64 0, .int .i64 0, .int .i64 0, .int .i64 0, .int .i64 0, .int .i64 0, .int .i64 0, .slice none 0 0]], []⟩ 8 (by kernel_rfl) (by kernel_rfl) (by kernel_rfl) (by kernel_rfl)) ?_
  intro W base args ds gs before hval0 hW hcnd hsz0 _
  have hsz : (DataW.weightsEach Try.prog (Try.f5.params.toList ++ Rows.stepCostsSpec.plain.varTypes Try.prog) (ds ++ gs)).all (· ≤ reachBytes) = true := hsz0
  have hval : ∀ (j : Nat) t v, Try.f5.params[j]? = some t → args[j]? = some v → Value.okWide Try.prog W .any base t v := hval0
  have hW' := hW
  obtain ⟨p, q, hA0, hV, rfl, hfz, hnd⟩ := hW
  have hA : DataW.TrodAll enc Try.prog W 0 (fun _ => true) true Try.f5.params.toList args.toList ds p := hA0
  rw [Try.params5] at hA hval hsz
  obtain ⟨v0, vs0, d0, ds0, p0, q0, hargs, rfl, rfl, h0, r0⟩ := trodAll_cons hA
  obtain ⟨v1, vs1, d1, ds1, p1, q1, rfl, rfl, rfl, h1, r1⟩ := trodAll_cons r0
  obtain ⟨rfl, rfl, rfl⟩ := trodAll_nil r1
  obtain rfl : args = #[v0, v1] := by cases args; simp_all
  obtain ⟨rfl, rfl⟩ := trodVars_none hV
  have k0 := h0
  have lt0 : ∀ x ∈ p0, x.block < W.heap.size := by obtain ⟨m, hm⟩ := k0; exact DataW.trod_lt m _ _ _ hm
  have ws0 : ∀ n ∈ d0.weights Try.prog 26, n ≤ reachBytes := fun n hn => by simpa using List.all_eq_true.1 hsz n (DataW.weights_mem_each (j := 0) rfl rfl n hn)
  obtain ⟨x0, K0, G0⟩ : ∃ x, (Kinds.kPrg).K W x v0.cells.toList ∧ Kinds.GPrg x (Rows.uptoBulk d0) := by
    obtain ⟨fuel, hf⟩ := h0
    exact Kinds.o26.opens enc W 0 _ _ fuel _ _ hf ws0
  obtain ⟨cs0, rfl, _⟩ := Go.WideShapes.okWide_struct Try.underlying26 (hval 0 26 v0 rfl rfl)
  obtain ⟨A0, c0, A1, c1, A2, c2, E0, kk0, hh0, kk1, hh1, kk2, hh2⟩ := Kinds.kPrg_open K0
  obtain rfl := Array.toList_inj.1 (E0.trans (by rfl) : cs0.toList = (#[.slice A0 x0.l0.length c0, .slice A1 x0.l1.length c1, .slice A2 x0.l2.length c2] : Array Value).toList)
  have k1 := h1
  have lt1 : ∀ x ∈ p1, x.block < W.heap.size := by obtain ⟨m, hm⟩ := k1; exact DataW.trod_lt m _ _ _ hm
  have ws1 : ∀ n ∈ d1.weights Try.prog 30, n ≤ reachBytes := fun n hn => by simpa using List.all_eq_true.1 hsz n (DataW.weights_mem_each (j := 1) rfl rfl n hn)
  obtain ⟨x1, K1, G1⟩ : ∃ x, (Kinds.kCtx).K W x v1.cells.toList ∧ Kinds.GCtx x (Rows.uptoBulk d1) := by
    obtain ⟨fuel, hf⟩ := h1
    exact Kinds.o30.opens enc W 0 _ _ fuel _ _ hf ws1
  obtain ⟨cs1, rfl, _⟩ := Go.WideShapes.okWide_struct Try.underlying30 (hval 1 30 v1 rfl rfl)
  obtain ⟨A, c, E1, kk3, hh3⟩ := Kinds.kCtx_open K1
  obtain rfl := Array.toList_inj.1 E1
  clear hA0 hval hsz
  refine (Hlaw5.law_costs x0.l0 x0.l1 x0.l2 A0 A1 A2 c0 c1 c2 x1.pc x1.r A c x1.l W hh0 kk0 hh1 kk1 hh2 kk2 hh3 kk3 (Kinds.calls_lt G1.2.2) (Kinds.words_lt G0.1)).mono fun e W' ⟨he, bel⟩ => ?_
  subst he
  exact ⟨_, rfl, _, _, _, [], _, [], hW', trodAll_mk1 (shut_bool Try.underlying4 _), (trodAll_cons_mk (Below.trod laidOut (by kernel_rfl) (of_decide_eq_true (by kernel_rfl)) k0 bel lt0) (trodAll_cons_mk (Below.trod laidOut (by kernel_rfl) (of_decide_eq_true (by kernel_rfl)) k1 bel lt1) trodAll_mk0)), rfl, bel.frame _, fun h => by cases h⟩
theorem over : Rows.stepCostsRow.holds Try.pinned (OpenSpec.ofChange Rows.stepCostsSpec) :=
  OpenClaim.holds_of_wide 5 Try.f5 rfl rfl rfl rfl rfl rfl rfl ⟨rfl, rfl, rfl, rfl, rfl⟩ rfl rfl rfl rfl rfl (by kernel_rfl) Try.func5 (by kernel_rfl)
    (of_decide_eq_true (by kernel_rfl)) (by unfold Func.isWrapper; first | (rw [if_pos (by decide +kernel)]; kernel_rfl) | (rw [if_neg (by decide +kernel)]; exact ⟨rfl, rfl⟩))
    (fun os started H enc _ => lifted os started H enc)
theorem proved : Rows.StepCostsSaid := over
end Go.Proofs.Ythjfmlehkcccfaa.stepCosts
namespace Go.Proofs.Ythjfmlehkcccfaa
theorem stepCosts_holds : Rows.StepCostsSaid := stepCosts.proved
end Go.Proofs.Ythjfmlehkcccfaa
end
