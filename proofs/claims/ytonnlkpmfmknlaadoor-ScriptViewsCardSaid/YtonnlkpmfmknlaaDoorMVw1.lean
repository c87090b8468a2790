import Derived.Test.YtonnlkpmfmknlaaDoorMVw0
import Derived.IntWalk
import Derived.Test.YtonnlkpmfmknlaaDoorMB6
section
/-
  script.Agree (26) over slices.ContainsFunc (47) and IndexFunc (66), walked.
-/
set_option linter.unusedVariables false
set_option linter.unusedSimpArgs false
namespace Go.Proofs.YtonnlkpmfmknlaaDoor.Hof
open Go.RowKit Go.Proofs.YtonnlkpmfmknlaaDoorW.PrintWords Go.Proofs.YtonnlkpmfmknlaaDoorW.PrintLast Go.Proofs.YtonnlkpmfmknlaaDoorW.PrintMore Hctx GA
set_option maxHeartbeats 2000000 in
set_option maxRecDepth 100000 in
theorem index_calls (P : Int → Bool) (lb : Array Value) (A : Option Addr) (c : Nat) (l : List Int) (w : World) (hr : Kd.C (Kd.int .i64) w A l.length l)
    (hp : ∀ (W : World) (x : Int), x ∈ l → Below w.heap.size w W → Calls Tryd.prog 48 (#[.int .i64 x] ++ lb) W fun e W' => e = .returned (.bool (P x)) ∧ Below W.heap.size W W') :
    Calls Tryd.prog 66 #[.slice A l.length c, .func (.func 48) #[] lb] w fun e W' => ∃ r : Int, e = .returned (.int .i64 r) ∧ decide (r ≥ 0) = l.any P ∧ Below w.heap.size w W' := by
  have eg := enters_of (P := Tryd.prog) Tryd.func48 (by kernel_rfl) rfl
  have hlen : l.length ≤ 9223372036854775807 := by obtain ⟨_, h, _⟩ := hr; exact h
  have HR := Lib.hid hr
  have HP := Lib.hid hp
  clear hr hp
  go_enter Tryd.func66, Tryd.ntmps66
  go_wp2_with fail
  go_loopw [5, 8] (fun _ v8 wr => ∃ i : Nat, i ≤ l.length ∧ v8 = .int .i64 i ∧ Below w.heap.size w wr ∧ (l.take i).any P = false) (fun _ v8 _ => l.length - (intOf v8).toNat)
  case atStart => exact ⟨0, Nat.zero_le _, rfl, Below.refl _ _, rfl⟩
  obtain ⟨i, hi, rfl, hb, hany⟩ := hrel
  have HBB := Lib.hid hb
  have HANY := Lib.hid hany
  clear hb hany
  by_cases hir : i < l.length
  · obtain ⟨ad, rfl, hcell⟩ := Kd.at_int HR.out (i : Int) (by omega) (by omega)
    rw [Int.toNat_natCast] at hcell
    have x0 := (HBB.out.cell (World.block_lt_of_cell? _ _ hcell)).trans hcell
    have hx : rd l (i : Int) = l[i]'hir := by unfold rd; rw [Int.toNat_natCast, List.getD_eq_getElem?_getD, List.getElem?_eq_getElem hir]; rfl
    have HC := Lib.hid (HP.out wr (rd l (i : Int)) (by rw [hx]; exact List.getElem_mem hir) HBB.out)
    have HT := Lib.hid (show (l.take (i + 1)).any P = P (rd l (i : Int)) by
      rw [List.take_add_one, List.getElem?_eq_getElem hir, List.any_append, HANY.out, hx]; simp)
    have HIR := Lib.hid hir
    have q2 : (i : Int) < (l.length : Int) := by omega
    have W1 := Lib.hid (show wrap64 ((i : Int) + 1) = ((i + 1 : Nat) : Int) by rw [Int.natCast_add]; exact IntWalk.wrap64_in _ (by omega))
    clear hcell hx hir
    cases hv : P (rd l (i : Int)) with
    | true =>
      rw [hv] at HC HT
      have HV := Lib.hid hv
      clear hv
      go_wp2_with fail
      refine HC.out.mono ?_
      rintro e w' ⟨rfl, hb'⟩
      have HB2 := Lib.hid hb'
      clear hb'
      go_wp2
      go_ret
      refine ⟨(i : Int), rfl, ?_, below_step HBB.out HB2.out⟩
      have h1 : l.any P = true := by
        rw [← List.take_append_drop (i + 1) l, List.any_append, HT.out]; rfl
      rw [h1]; exact decide_eq_true (by omega)
    | false =>
      rw [hv] at HC HT
      have HV := Lib.hid hv
      clear hv
      go_wp2_with fail
      refine HC.out.mono ?_
      rintro e w' ⟨rfl, hb'⟩
      have HB2 := Lib.hid hb'
      clear hb'
      go_wp2
      go_roundw
      case rel => exact ⟨i + 1, HIR.out, congrArg _ (by omega), below_step HBB.out HB2.out, HT.out⟩
      case measure =>
        have h1 := HIR.out
        show l.length - ((i : Int) + 1).toNat < l.length - ((i : Int)).toNat
        omega
  · obtain rfl : i = l.length := by omega
    have HT := Lib.hid (show l.any P = false by have := HANY.out; rwa [List.take_length] at this)
    clear hir
    go_wp2
    go_ret
    exact ⟨-1, rfl, by rw [HT.out]; rfl, HBB.out⟩
set_option maxHeartbeats 2000000 in
set_option maxRecDepth 100000 in
theorem contains_calls (P : Int → Bool) (lb : Array Value) (A : Option Addr) (c : Nat) (l : List Int) (w : World) (hr : Kd.C (Kd.int .i64) w A l.length l)
    (hp : ∀ (W : World) (x : Int), x ∈ l → Below w.heap.size w W → Calls Tryd.prog 48 (#[.int .i64 x] ++ lb) W fun e W' => e = .returned (.bool (P x)) ∧ Below W.heap.size W W') :
    Calls Tryd.prog 47 #[.slice A l.length c, .func (.func 48) #[] lb] w fun e W' => e = .returned (.bool (l.any P)) ∧ Below w.heap.size w W' := by
  have HI := Lib.hid (index_calls P lb A c l w hr hp)
  clear hr hp
  go_enter Tryd.func47, Tryd.ntmps47
  go_wp2_with fail
  refine HI.out.mono ?_
  rintro e w' ⟨r, rfl, hd, hb⟩
  have HD := Lib.hid hd
  have HB := Lib.hid hb
  clear hd hb
  go_wp2
  go_ret
  exact ⟨congrArg Ending.returned (congrArg Value.bool HD.out), HB.out⟩
set_option maxHeartbeats 2000000 in
set_option maxRecDepth 100000 in
theorem agree_calls (A : Option Addr) (ca : Nat) (la : List S32) (B : Option Addr) (cb : Nat) (lb : List S32) (C : Option Addr) (co : Nat) (lo : List Int) (w : World)
    (hrA : Kd.C k32 w A la.length la) (hcA : la.length ≤ ca) (hrB : Kd.C k32 w B lb.length lb) (hcB : lb.length ≤ cb) (hrC : Kd.C (Kd.int .i64) w C lo.length lo) :
    Calls Tryd.prog 26 #[.slice A la.length ca, .slice B lb.length cb, .slice C lo.length co] w fun e W' => e = .returned (.bool (!(lo.any (otherAt la lb)))) ∧ Below w.heap.size w W' := by
  have HA := Lib.hid hrA
  have HB := Lib.hid hrB
  have HC := Lib.hid hrC
  have M0 := Aside0.mk (Mem.start [] w)
  clear hrA hrB hrC
  go_enter Tryd.func26, Tryd.ntmps26
  go_wp2_with (first
    | (refine eB M0 3 #[.slice A la.length ca] 22 ?_; clear M0; intro g3 w3 M1)
    | (refine eB M1 4 #[.slice B lb.length cb] 22 ?_; clear M1; intro g4 w4 M2)
    | fail)
  refine (contains_calls (otherAt la lb) #[.pointer (some ⟨g3, 0, none⟩), .pointer (some ⟨g4, 0, none⟩)] C co lo w4 (Kd.C_below HC.out M2.out.below) (fun W x _ hW => ?_)).mono ?_
  · have M3 := M2.out.call hW
    exact lit_calls g3 g4 A ca la B cb lb x W (M3.cell 0 rfl 0) (M3.cell 1 rfl 0) (Kd.C_below HA.out M3.below) hcA (Kd.C_below HB.out M3.below) hcB
  · rintro e w9 ⟨rfl, hb⟩
    have HBB := Lib.hid (below_step M2.out.below hb)
    clear hb
    go_wp2
    go_ret
    exact ⟨rfl, HBB.out⟩
end Go.Proofs.YtonnlkpmfmknlaaDoor.Hof
end

section
-- laid by a program of this session (wip/gp.sh)
namespace Go.Proofs.YtonnlkpmfmknlaaDoor.GA
open Go.RowKit Go.Proofs.YtonnlkpmfmknlaaDoorW.PrintWords Go.Proofs.YtonnlkpmfmknlaaDoorW.PrintLast Go.Proofs.YtonnlkpmfmknlaaDoorW.PrintMore
attribute [local go_sem] max2_int min2_int max_two min_two max_three min_three max_four min_four   -- for this text's walks alone
set_option linter.unusedVariables false
set_option linter.unusedSimpArgs false

/-! ### script_Agree: function 26 (its contract: by hand) -/
-- NEEDS Derived.Test.YtonnlkpmfmknlaaDoorHagr
-- its type: def script_Agree.f (l0 : List (S32)) (l1 : List (S32)) (l2 : List Int) : Option (Bool)
def script_Agree.f (l0 : List (S32)) (l1 : List (S32)) (l2 : List Int) : Option Bool := some (!(l2.any (Hof.otherAt l0 l1)))
set_option maxHeartbeats 8000000 in
set_option maxRecDepth 100000 in
theorem script_Agree.calls (A0 : Option Addr) (c0 : Nat) (l0 : List (S32)) (A1 : Option Addr) (c1 : Nat) (l1 : List (S32)) (A2 : Option Addr) (c2 : Nat) (l2 : List Int) (r : Bool) (w : World) (hr0 : Kd.C k32 w A0 l0.length l0) (hc0 : l0.length ≤ c0) (hr1 : Kd.C k32 w A1 l1.length l1) (hc1 : l1.length ≤ c1) (hr2 : Kd.C (Kd.int .i64) w A2 l2.length l2) (hc2 : l2.length ≤ c2) (h : script_Agree.f l0 l1 l2 = some r) :
    Calls Tryd.prog 26 #[.slice A0 l0.length c0, .slice A1 l1.length c1, .slice A2 l2.length c2] w fun e w' => e = .returned (.bool r) ∧ Below w.heap.size w w' := by
  unfold script_Agree.f at h
  obtain rfl := Option.some.inj h
  exact Hof.agree_calls A0 c0 l0 A1 c1 l1 A2 c2 l2 w hr0 hc0 hr1 hc1 hr2

end Go.Proofs.YtonnlkpmfmknlaaDoor.GA
end

section
-- laid by a program of this session (wip/gp.sh)
namespace Go.Proofs.YtonnlkpmfmknlaaDoor.GA
open Go.RowKit Go.Proofs.YtonnlkpmfmknlaaDoorW.PrintWords Go.Proofs.YtonnlkpmfmknlaaDoorW.PrintLast Go.Proofs.YtonnlkpmfmknlaaDoorW.PrintMore
attribute [local go_sem] max2_int min2_int max_two min_two max_three min_three max_four min_four   -- for this text's walks alone
set_option linter.unusedVariables false
set_option linter.unusedSimpArgs false

/-! ### rotaref19_one: function 52 -/
def rotaref19_one.f (l0 : List (S32)) (a1 : Int) : Option (List Int × List Int) := if a1 < 0 then (some (([] : List Int), ([] : List Int))) else (if a1 ≥ (l0.length : Int) then (some (([] : List Int), ([] : List Int))) else (if 0 ≤ a1 then (if a1 < (l0.length : Int) then (some ((rd_T32 l0 a1).f0, (rd_T32 l0 a1).f1)) else (none)) else (none)))
set_option maxHeartbeats 8000000 in
set_option maxRecDepth 100000 in
theorem rotaref19_one.calls (P0_ : Nat → Prop) (A0 : Option Addr) (c0 : Nat) (l0 : List (S32)) (a1 : Int) (r1 : List Int) (r2 : List Int) (w : World) (hs0 : Kd.V k32 32 w w.heap.size (fun k_ => P0_ k_) (.slice A0 l0.length c0) l0) (h : rotaref19_one.f l0 a1 = some (r1, r2)) :
    Calls Tryd.prog 52 #[.slice A0 l0.length c0, .int .i64 a1] w fun e w' => ∃ v0_ v1_ : Value, e = .returned (.agg #[v0_, v1_]) ∧ Kd.V (Kd.int .u32) 36 w' w.heap.size (fun k_ => (P0_ k_ ∨ w.heap.size ≤ k_)) v0_ r1 ∧ Kd.V (Kd.int .i64) 2 w' w.heap.size (fun k_ => (P0_ k_ ∨ w.heap.size ≤ k_)) v1_ r2 ∧ Below w.heap.size w w' := by
  have hu32 := Tryd.underlying32
  have HO0 := Aside0.mk (show Kd.V k32 32 w w.heap.size (fun k_ => (P0_ k_ ∨ w.heap.size ≤ k_)) (.slice A0 l0.length c0) l0 from Kd.V_mono hs0 (fun k_ hk => .inl hk))
  have HB := Aside0.mk (Below.refl w.heap.size w)
  have H : (if a1 < 0 then (some (([] : List Int), ([] : List Int))) else (if a1 ≥ (l0.length : Int) then (some (([] : List Int), ([] : List Int))) else (if 0 ≤ a1 then (if a1 < (l0.length : Int) then (some ((rd_T32 l0 a1).f0, (rd_T32 l0 a1).f1)) else (none)) else (none)))) = some (r1, r2) := h
  clear h
  by_cases c3 : a1 < 0
  · rw [if_pos c3] at H
    have c3b0 : decide (a1 < 0) = true := decide_eq_true c3
    clear c3
    simp only [Option.some.injEq, Prod.mk.injEq] at H
    obtain ⟨rfl, rfl⟩ := H
    go_enter Tryd.func52, Tryd.ntmps52
    go_wp2_with (first | ((with_reducible refine gate_dst (N := 4) rfl ?_); (try (refine gate_guard (by rfl) ?_; dsimp only)); refine box_event ?hg (N := 4) ?hd (cs := #[.slice none 0 0, .slice none 0 0]) (t := 32) ?hr ?_; (case hd => rfl); (case hg => rfl); (case hr => first | (go_simp; done) | (go_simp; rfl)); intro gb383 hg w4 hbox hb; have n0_ := Aside0.mk (Kd.V_below (Kd.V_elderB (by (with_reducible repeat (first | apply Kd.V_alloc | apply Kd.V_drewN | apply Kd.V_drew)); exact HO0.out) gb383 (Nat.le_of_eq hg.symm)) hb); have n1_ := Aside0.mk (below_step (by repeat (first | (with_reducible first | exact HB.out | apply below_alloc | apply pw_below_drewN | apply below_drew1) | exact HB.out)) hb); have n2_ := Aside0.mk (hbox); have n3_ := Aside0.mk ((by rw [hg]; exact (below_size (by repeat (first | (with_reducible first | exact HB.out | apply below_alloc | apply pw_below_drewN | apply below_drew1) | exact HB.out))) : w.heap.size ≤ gb383)); have n4_ := Aside0.mk ((by rw [hg]; exact (below_size (by repeat (first | (with_reducible first | exact HB.out | apply below_alloc | apply pw_below_drewN | apply below_drew1) | exact HB.out))) : w.heap.size ≤ gb383)); clear HO0; clear HB; have HO0 := n0_; have HB := n1_; have BK383 := n2_; have GW383 := n3_; have GE383 := n4_; clear n0_ n1_ n2_ n3_ n4_; clear hb hbox hg; have hcz5_0 : w4.cell? ⟨gb383, 0, none⟩ = some (.slice none 0 0) := (blk_cell BK383.out 0).trans rfl; have hcz5_1 : w4.cell? ⟨gb383, 1, none⟩ = some (.slice none 0 0) := (blk_cell BK383.out 1).trans rfl; have hfz5_0 := blk_frozen BK383.out 0; have hfz5_1 := blk_frozen BK383.out 1))
    refine bodyPost_ret (results_cell_row rfl _ _ gb383 32 #[.slice none 0 0, .slice none 0 0] (0, 0) _ rfl (by (with_reducible repeat (first | refine blk_drewN ?_ _ | refine blk_drew ?_ | refine blk_alloc ?_ _)); refine blk_put (cs := #[.slice none 0 0, .slice none 0 0]) ?_ 1 _ rfl; (with_reducible repeat (first | refine blk_drewN ?_ _ | refine blk_drew ?_ | refine blk_alloc ?_ _)); refine blk_put (cs := #[.slice none 0 0, .slice none 0 0]) ?_ 0 _ rfl; (with_reducible repeat (first | refine blk_drewN ?_ _ | refine blk_drew ?_ | refine blk_alloc ?_ _)); exact BK383.out) Tryd.underlying32 rfl (by kernel_rfl)) rfl ?_
    exact ⟨_, _, by first | rfl | (simp [errW_none, errW_some] <;> rfl) | (simp [*, errW_none, errW_some] <;> rfl), Kd.V_mono (Kd.R_V (by first | exact Kd.R_nil _ _ _ w.heap.size (fun k_ => w.heap.size ≤ k_) | exact Kd.N_nil _ _ _ _ _ | exact Kd.V_nil _ _ _ _ _ | exact Kd.Q_nil _ _ _ _ _ | exact Kd.R_nil _ _ _ w.heap.size (fun k_ => w.heap.size ≤ k_))) (fun k_ hk => by first | exact ⟨(.inr (hk.1)), hk.2⟩ | exact (.inr (hk))), Kd.V_mono (Kd.R_V (by first | exact Kd.R_nil _ _ _ w.heap.size (fun k_ => w.heap.size ≤ k_) | exact Kd.N_nil _ _ _ _ _ | exact Kd.V_nil _ _ _ _ _ | exact Kd.Q_nil _ _ _ _ _ | exact Kd.R_nil _ _ _ w.heap.size (fun k_ => w.heap.size ≤ k_))) (fun k_ hk => by first | exact ⟨(.inr (hk.1)), hk.2⟩ | exact (.inr (hk))), by repeat (first | (with_reducible first | exact HB.out | apply below_alloc | apply pw_below_drewN | apply below_drew1 | refine below_set ?_ GE383.out) | exact HB.out)⟩
  · rw [if_neg c3] at H
    have c3b0 : decide (a1 < 0) = false := decide_eq_false c3
    clear c3
    by_cases c6 : a1 ≥ (l0.length : Int)
    · rw [if_pos c6] at H
      have c6b0 : decide ((l0.length : Int) ≤ a1) = true := decide_eq_true c6
      clear c6
      simp only [Option.some.injEq, Prod.mk.injEq] at H
      obtain ⟨rfl, rfl⟩ := H
      go_enter Tryd.func52, Tryd.ntmps52
      go_wp2_with (first | ((with_reducible refine gate_dst (N := 4) rfl ?_); (try (refine gate_guard (by rfl) ?_; dsimp only)); refine box_event ?hg (N := 4) ?hd (cs := #[.slice none 0 0, .slice none 0 0]) (t := 32) ?hr ?_; (case hd => rfl); (case hg => rfl); (case hr => first | (go_simp; done) | (go_simp; rfl)); intro gb383 hg w7 hbox hb; have n0_ := Aside0.mk (Kd.V_below (Kd.V_elderB (by (with_reducible repeat (first | apply Kd.V_alloc | apply Kd.V_drewN | apply Kd.V_drew)); exact HO0.out) gb383 (Nat.le_of_eq hg.symm)) hb); have n1_ := Aside0.mk (below_step (by repeat (first | (with_reducible first | exact HB.out | apply below_alloc | apply pw_below_drewN | apply below_drew1) | exact HB.out)) hb); have n2_ := Aside0.mk (hbox); have n3_ := Aside0.mk ((by rw [hg]; exact (below_size (by repeat (first | (with_reducible first | exact HB.out | apply below_alloc | apply pw_below_drewN | apply below_drew1) | exact HB.out))) : w.heap.size ≤ gb383)); have n4_ := Aside0.mk ((by rw [hg]; exact (below_size (by repeat (first | (with_reducible first | exact HB.out | apply below_alloc | apply pw_below_drewN | apply below_drew1) | exact HB.out))) : w.heap.size ≤ gb383)); clear HO0; clear HB; have HO0 := n0_; have HB := n1_; have BK383 := n2_; have GW383 := n3_; have GE383 := n4_; clear n0_ n1_ n2_ n3_ n4_; clear hb hbox hg; have hcz8_0 : w7.cell? ⟨gb383, 0, none⟩ = some (.slice none 0 0) := (blk_cell BK383.out 0).trans rfl; have hcz8_1 : w7.cell? ⟨gb383, 1, none⟩ = some (.slice none 0 0) := (blk_cell BK383.out 1).trans rfl; have hfz8_0 := blk_frozen BK383.out 0; have hfz8_1 := blk_frozen BK383.out 1))
      refine bodyPost_ret (results_cell_row rfl _ _ gb383 32 #[.slice none 0 0, .slice none 0 0] (0, 0) _ rfl (by (with_reducible repeat (first | refine blk_drewN ?_ _ | refine blk_drew ?_ | refine blk_alloc ?_ _)); refine blk_put (cs := #[.slice none 0 0, .slice none 0 0]) ?_ 1 _ rfl; (with_reducible repeat (first | refine blk_drewN ?_ _ | refine blk_drew ?_ | refine blk_alloc ?_ _)); refine blk_put (cs := #[.slice none 0 0, .slice none 0 0]) ?_ 0 _ rfl; (with_reducible repeat (first | refine blk_drewN ?_ _ | refine blk_drew ?_ | refine blk_alloc ?_ _)); exact BK383.out) Tryd.underlying32 rfl (by kernel_rfl)) rfl ?_
      exact ⟨_, _, by first | rfl | (simp [errW_none, errW_some] <;> rfl) | (simp [*, errW_none, errW_some] <;> rfl), Kd.V_mono (Kd.R_V (by first | exact Kd.R_nil _ _ _ w.heap.size (fun k_ => w.heap.size ≤ k_) | exact Kd.N_nil _ _ _ _ _ | exact Kd.V_nil _ _ _ _ _ | exact Kd.Q_nil _ _ _ _ _ | exact Kd.R_nil _ _ _ w.heap.size (fun k_ => w.heap.size ≤ k_))) (fun k_ hk => by first | exact ⟨(.inr (hk.1)), hk.2⟩ | exact (.inr (hk))), Kd.V_mono (Kd.R_V (by first | exact Kd.R_nil _ _ _ w.heap.size (fun k_ => w.heap.size ≤ k_) | exact Kd.N_nil _ _ _ _ _ | exact Kd.V_nil _ _ _ _ _ | exact Kd.Q_nil _ _ _ _ _ | exact Kd.R_nil _ _ _ w.heap.size (fun k_ => w.heap.size ≤ k_))) (fun k_ hk => by first | exact ⟨(.inr (hk.1)), hk.2⟩ | exact (.inr (hk))), by repeat (first | (with_reducible first | exact HB.out | apply below_alloc | apply pw_below_drewN | apply below_drew1 | refine below_set ?_ GE383.out) | exact HB.out)⟩
    · rw [if_neg c6] at H
      have c6b0 : decide ((l0.length : Int) ≤ a1) = false := decide_eq_false c6
      clear c6
      by_cases c9 : 0 ≤ a1
      · rw [if_pos c9] at H
        have c9b0 : decide (0 ≤ a1) = true := decide_eq_true c9
        clear c9
        by_cases c10 : a1 < (l0.length : Int)
        · rw [if_pos c10] at H
          have c10b0 : decide (a1 < (l0.length : Int)) = true := decide_eq_true c10
          clear c10
          simp only [Option.some.injEq, Prod.mk.injEq] at H
          obtain ⟨rfl, rfl⟩ := H
          go_enter Tryd.func52, Tryd.ntmps52
          go_wp2_with (first | ((with_reducible refine gate_dst (N := 4) rfl ?_); (try (refine gate_guard (by rfl) ?_; dsimp only)); refine box_event ?hg (N := 4) ?hd (cs := #[.slice none 0 0, .slice none 0 0]) (t := 32) ?hr ?_; (case hd => rfl); (case hg => rfl); (case hr => first | (go_simp; done) | (go_simp; rfl)); intro gb383 hg w11 hbox hb; have n0_ := Aside0.mk (Kd.V_below (Kd.V_elderB (by (with_reducible repeat (first | apply Kd.V_alloc | apply Kd.V_drewN | apply Kd.V_drew)); exact HO0.out) gb383 (Nat.le_of_eq hg.symm)) hb); have n1_ := Aside0.mk (below_step (by repeat (first | (with_reducible first | exact HB.out | apply below_alloc | apply pw_below_drewN | apply below_drew1) | exact HB.out)) hb); have n2_ := Aside0.mk (hbox); have n3_ := Aside0.mk ((by rw [hg]; exact (below_size (by repeat (first | (with_reducible first | exact HB.out | apply below_alloc | apply pw_below_drewN | apply below_drew1) | exact HB.out))) : w.heap.size ≤ gb383)); have n4_ := Aside0.mk ((by rw [hg]; exact (below_size (by repeat (first | (with_reducible first | exact HB.out | apply below_alloc | apply pw_below_drewN | apply below_drew1) | exact HB.out))) : w.heap.size ≤ gb383)); clear HO0; clear HB; have HO0 := n0_; have HB := n1_; have BK383 := n2_; have GW383 := n3_; have GE383 := n4_; clear n0_ n1_ n2_ n3_ n4_; clear hb hbox hg; have p384 : 0 ≤ (a1 : Int) := of_decide_eq_true (by first | (with_reducible assumption) | assumption); have q384 : a1 < (l0.length : Int) := of_decide_eq_true (by first | (with_reducible assumption) | assumption); obtain ⟨ad384, A384_0, c384_0, A384_1, c384_1, e384, hx384_0, hx384_1, hl384_0, hi384_0, hl384_1, hi384_1⟩ := at_T32 (Kd.V_reads' HO0.out).2.2 a1 p384 q384; cases e384; obtain ⟨ce384, hce384, hMe384, hcc384⟩ := Kd.V_get HO0.out z32 a1 p384 (by first | exact q384 | exact of_decide_eq_true (by first | (with_reducible assumption) | assumption) | (have e_ := (Kd.V_reads' HO0.out).1; omega)); obtain ⟨ua384_0, uc384_0, ua384_1, uc384_1, rfl, ul384_0, ge384_0, ul384_1, ge384_1⟩ := k32_openF hMe384; have hv384_0 := hcc384 0 _ rfl; rw [Nat.add_zero] at hv384_0; replace hv384_0 := Option.some.inj (hv384_0.symm.trans hx384_0); injection hv384_0 with hva_ hvn_ hvc_; rw [hva_] at ge384_0; rw [hvc_] at ul384_0; have HL384_0 := Aside0.mk (show Kd.V (Kd.int .u32) 36 _ w.heap.size _ _ ((rd_T32 l0 a1).f0) from Kd.V_mk ul384_0 ge384_0); clear hva_ hvn_ hvc_ ge384_0 ul384_0; have hv384_1 := hcc384 1 _ rfl; rw [add_field _ _ 1 (by omega)] at hv384_1; replace hv384_1 := Option.some.inj (hv384_1.symm.trans hx384_1); injection hv384_1 with hva_ hvn_ hvc_; rw [hva_] at ge384_1; rw [hvc_] at ul384_1; have HL384_1 := Aside0.mk (show Kd.V (Kd.int .i64) 2 _ w.heap.size _ _ ((rd_T32 l0 a1).f1) from Kd.V_mk ul384_1 ge384_1); clear hva_ hvn_ hvc_ ge384_1 ul384_1; clear hcc384 hce384; have HR384_0 := Aside0.mk hi384_0; have HC384_0 := Aside0.mk hl384_0; clear hi384_0 hl384_0; have HR384_1 := Aside0.mk hi384_1; have HC384_1 := Aside0.mk hl384_1; clear hi384_1 hl384_1; replace p384 := eq_true p384; replace q384 := eq_true q384; have hcz12_0 : w11.cell? ⟨gb383, 0, none⟩ = some (.slice none 0 0) := (blk_cell BK383.out 0).trans rfl; have hcz12_1 : w11.cell? ⟨gb383, 1, none⟩ = some (.slice none 0 0) := (blk_cell BK383.out 1).trans rfl; have hfz12_0 := blk_frozen BK383.out 0; have hfz12_1 := blk_frozen BK383.out 1))
          refine bodyPost_ret (results_cell_row rfl _ _ gb383 32 #[.slice A384_0 ((rd_T32 l0 a1).f0).length c384_0, .slice A384_1 ((rd_T32 l0 a1).f1).length c384_1] (0, 0) _ rfl (by (with_reducible repeat (first | refine blk_drewN ?_ _ | refine blk_drew ?_ | refine blk_alloc ?_ _)); refine blk_put (cs := #[.slice A384_0 ((rd_T32 l0 a1).f0).length c384_0, .slice none 0 0]) ?_ 1 _ rfl; (with_reducible repeat (first | refine blk_drewN ?_ _ | refine blk_drew ?_ | refine blk_alloc ?_ _)); refine blk_put (cs := #[.slice none 0 0, .slice none 0 0]) ?_ 0 _ rfl; (with_reducible repeat (first | refine blk_drewN ?_ _ | refine blk_drew ?_ | refine blk_alloc ?_ _)); exact BK383.out) Tryd.underlying32 rfl (by kernel_rfl)) rfl ?_
          exact ⟨_, _, by first | rfl | (simp [errW_none, errW_some] <;> rfl) | (simp [*, errW_none, errW_some] <;> rfl), by (with_reducible repeat (first | apply Kd.V_alloc | apply Kd.V_drewN | apply Kd.V_drew)); exact Kd.V_mono (Kd.V_far (p := ⟨gb383, 1, none⟩) (Kd.V_far (p := ⟨gb383, 0, none⟩) (Kd.V_mono HL384_0.out (fun k_ hk => (⟨hk, hk.2⟩ : _ ∧ k_ ≠ gb383))) (fun _ hk => hk.2) (.slice A384_0 ((rd_T32 l0 a1).f0).length c384_0)) (fun _ hk => hk.2) (.slice A384_1 ((rd_T32 l0 a1).f1).length c384_1)) (fun _ hk => hk.1.1), by (with_reducible repeat (first | apply Kd.V_alloc | apply Kd.V_drewN | apply Kd.V_drew)); exact Kd.V_mono (Kd.V_far (p := ⟨gb383, 1, none⟩) (Kd.V_far (p := ⟨gb383, 0, none⟩) (Kd.V_mono HL384_1.out (fun k_ hk => (⟨hk, hk.2⟩ : _ ∧ k_ ≠ gb383))) (fun _ hk => hk.2) (.slice A384_0 ((rd_T32 l0 a1).f0).length c384_0)) (fun _ hk => hk.2) (.slice A384_1 ((rd_T32 l0 a1).f1).length c384_1)) (fun _ hk => hk.1.1), by repeat (first | (with_reducible first | exact HB.out | apply below_alloc | apply pw_below_drewN | apply below_drew1 | refine below_set ?_ GE383.out) | exact HB.out)⟩
        · rw [if_neg c10] at H
          exact absurd H (by simp)
      · rw [if_neg c9] at H
        exact absurd H (by simp)

end Go.Proofs.YtonnlkpmfmknlaaDoor.GA
end
