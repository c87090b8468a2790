import Derived.Test.YtonnlkpmfmknlaaDoorMAg0
import Derived.IntWalk
import Derived.Test.YtonnlkpmfmknlaaDoorMB6
section
/-
  script.Agree (26) over slices.ContainsFunc (47) and IndexFunc (66), walked.
-/
set_option linter.unusedVariables false
set_option linter.unusedSimpArgs false
namespace Go.Proofs.YtonnlkpmfmknlaaDoor.Hof
open Go.RowKit Go.Proofs.YtonnlkpmfmknlaaDoorW.PrintWords Go.Proofs.YtonnlkpmfmknlaaDoorW.PrintLast Go.Proofs.YtonnlkpmfmknlaaDoorW.PrintMore Hctx GA
set_option maxHeartbeats 2000000 in
set_option maxRecDepth 100000 in
theorem index_calls (P : Int → Bool) (lb : Array Value) (A : Option Addr) (c : Nat) (l : List Int) (w : World) (hr : Kd.C (Kd.int .i64) w A l.length l)
    (hp : ∀ (W : World) (x : Int), x ∈ l → Below w.heap.size w W → Calls Tryd.prog 48 (#[.int .i64 x] ++ lb) W fun e W' => e = .returned (.bool (P x)) ∧ Below W.heap.size W W') :
    Calls Tryd.prog 66 #[.slice A l.length c, .func (.func 48) #[] lb] w fun e W' => ∃ r : Int, e = .returned (.int .i64 r) ∧ decide (r ≥ 0) = l.any P ∧ Below w.heap.size w W' := by
  have eg := enters_of (P := Tryd.prog) Tryd.func48 (by kernel_rfl) rfl
  have hlen : l.length ≤ 9223372036854775807 := by obtain ⟨_, h, _⟩ := hr; exact h
  have HR := Lib.hid hr
  have HP := Lib.hid hp
  clear hr hp
  go_enter Tryd.func66, Tryd.ntmps66
  go_wp2_with fail
  go_loopw [5, 8] (fun _ v8 wr => ∃ i : Nat, i ≤ l.length ∧ v8 = .int .i64 i ∧ Below w.heap.size w wr ∧ (l.take i).any P = false) (fun _ v8 _ => l.length - (intOf v8).toNat)
  case atStart => exact ⟨0, Nat.zero_le _, rfl, Below.refl _ _, rfl⟩
  obtain ⟨i, hi, rfl, hb, hany⟩ := hrel
  have HBB := Lib.hid hb
  have HANY := Lib.hid hany
  clear hb hany
  by_cases hir : i < l.length
  · obtain ⟨ad, rfl, hcell⟩ := Kd.at_int HR.out (i : Int) (by omega) (by omega)
    rw [Int.toNat_natCast] at hcell
    have x0 := (HBB.out.cell (World.block_lt_of_cell? _ _ hcell)).trans hcell
    have hx : rd l (i : Int) = l[i]'hir := by unfold rd; rw [Int.toNat_natCast, List.getD_eq_getElem?_getD, List.getElem?_eq_getElem hir]; rfl
    have HC := Lib.hid (HP.out wr (rd l (i : Int)) (by rw [hx]; exact List.getElem_mem hir) HBB.out)
    have HT := Lib.hid (show (l.take (i + 1)).any P = P (rd l (i : Int)) by
      rw [List.take_add_one, List.getElem?_eq_getElem hir, List.any_append, HANY.out, hx]; simp)
    have HIR := Lib.hid hir
    have q2 : (i : Int) < (l.length : Int) := by omega
    have W1 := Lib.hid (show wrap64 ((i : Int) + 1) = ((i + 1 : Nat) : Int) by rw [Int.natCast_add]; exact IntWalk.wrap64_in _ (by omega))
    clear hcell hx hir
    cases hv : P (rd l (i : Int)) with
    | true =>
      rw [hv] at HC HT
      have HV := Lib.hid hv
      clear hv
      go_wp2_with fail
      refine HC.out.mono ?_
      rintro e w' ⟨rfl, hb'⟩
      have HB2 := Lib.hid hb'
      clear hb'
      go_wp2
      go_ret
      refine ⟨(i : Int), rfl, ?_, below_step HBB.out HB2.out⟩
      have h1 : l.any P = true := by
        rw [← List.take_append_drop (i + 1) l, List.any_append, HT.out]; rfl
      rw [h1]; exact decide_eq_true (by omega)
    | false =>
      rw [hv] at HC HT
      have HV := Lib.hid hv
      clear hv
      go_wp2_with fail
      refine HC.out.mono ?_
      rintro e w' ⟨rfl, hb'⟩
      have HB2 := Lib.hid hb'
      clear hb'
      go_wp2
      go_roundw
      case rel => exact ⟨i + 1, HIR.out, congrArg _ (by omega), below_step HBB.out HB2.out, HT.out⟩
      case measure =>
        have h1 := HIR.out
        show l.length - ((i : Int) + 1).toNat < l.length - ((i : Int)).toNat
        omega
  · obtain rfl : i = l.length := by omega
    have HT := Lib.hid (show l.any P = false by have := HANY.out; rwa [List.take_length] at this)
    clear hir
    go_wp2
    go_ret
    exact ⟨-1, rfl, by rw [HT.out]; rfl, HBB.out⟩
set_option maxHeartbeats 2000000 in
set_option maxRecDepth 100000 in
theorem contains_calls (P : Int → Bool) (lb : Array Value) (A : Option Addr) (c : Nat) (l : List Int) (w : World) (hr : Kd.C (Kd.int .i64) w A l.length l)
    (hp : ∀ (W : World) (x : Int), x ∈ l → Below w.heap.size w W → Calls Tryd.prog 48 (#[.int .i64 x] ++ lb) W fun e W' => e = .returned (.bool (P x)) ∧ Below W.heap.size W W') :
    Calls Tryd.prog 47 #[.slice A l.length c, .func (.func 48) #[] lb] w fun e W' => e = .returned (.bool (l.any P)) ∧ Below w.heap.size w W' := by
  have HI := Lib.hid (index_calls P lb A c l w hr hp)
  clear hr hp
  go_enter Tryd.func47, Tryd.ntmps47
  go_wp2_with fail
  refine HI.out.mono ?_
  rintro e w' ⟨r, rfl, hd, hb⟩
  have HD := Lib.hid hd
  have HB := Lib.hid hb
  clear hd hb
  go_wp2
  go_ret
  exact ⟨congrArg Ending.returned (congrArg Value.bool HD.out), HB.out⟩
set_option maxHeartbeats 2000000 in
set_option maxRecDepth 100000 in
theorem agree_calls (A : Option Addr) (ca : Nat) (la : List S32) (B : Option Addr) (cb : Nat) (lb : List S32) (C : Option Addr) (co : Nat) (lo : List Int) (w : World)
    (hrA : Kd.C k32 w A la.length la) (hcA : la.length ≤ ca) (hrB : Kd.C k32 w B lb.length lb) (hcB : lb.length ≤ cb) (hrC : Kd.C (Kd.int .i64) w C lo.length lo) :
    Calls Tryd.prog 26 #[.slice A la.length ca, .slice B lb.length cb, .slice C lo.length co] w fun e W' => e = .returned (.bool (!(lo.any (otherAt la lb)))) ∧ Below w.heap.size w W' := by
  have HA := Lib.hid hrA
  have HB := Lib.hid hrB
  have HC := Lib.hid hrC
  have M0 := Aside0.mk (Mem.start [] w)
  clear hrA hrB hrC
  go_enter Tryd.func26, Tryd.ntmps26
  go_wp2_with (first
    | (refine eB M0 3 #[.slice A la.length ca] 22 ?_; clear M0; intro g3 w3 M1)
    | (refine eB M1 4 #[.slice B lb.length cb] 22 ?_; clear M1; intro g4 w4 M2)
    | fail)
  refine (contains_calls (otherAt la lb) #[.pointer (some ⟨g3, 0, none⟩), .pointer (some ⟨g4, 0, none⟩)] C co lo w4 (Kd.C_below HC.out M2.out.below) (fun W x _ hW => ?_)).mono ?_
  · have M3 := M2.out.call hW
    exact lit_calls g3 g4 A ca la B cb lb x W (M3.cell 0 rfl 0) (M3.cell 1 rfl 0) (Kd.C_below HA.out M3.below) hcA (Kd.C_below HB.out M3.below) hcB
  · rintro e w9 ⟨rfl, hb⟩
    have HBB := Lib.hid (below_step M2.out.below hb)
    clear hb
    go_wp2
    go_ret
    exact ⟨rfl, HBB.out⟩
end Go.Proofs.YtonnlkpmfmknlaaDoor.Hof
end

section
-- laid by a program of this session (wip/gp.sh)
namespace Go.Proofs.YtonnlkpmfmknlaaDoor.GA
open Go.RowKit Go.Proofs.YtonnlkpmfmknlaaDoorW.PrintWords Go.Proofs.YtonnlkpmfmknlaaDoorW.PrintLast Go.Proofs.YtonnlkpmfmknlaaDoorW.PrintMore
attribute [local go_sem] max2_int min2_int max_two min_two max_three min_three max_four min_four   -- for this text's walks alone
set_option linter.unusedVariables false
set_option linter.unusedSimpArgs false

/-! ### script_Agree: function 26 (its contract: by hand) -/
-- NEEDS Derived.Test.YtonnlkpmfmknlaaDoorHagr
-- its type: def script_Agree.f (l0 : List (S32)) (l1 : List (S32)) (l2 : List Int) : Option (Bool)
def script_Agree.f (l0 : List (S32)) (l1 : List (S32)) (l2 : List Int) : Option Bool := some (!(l2.any (Hof.otherAt l0 l1)))
set_option maxHeartbeats 8000000 in
set_option maxRecDepth 100000 in
theorem script_Agree.calls (A0 : Option Addr) (c0 : Nat) (l0 : List (S32)) (A1 : Option Addr) (c1 : Nat) (l1 : List (S32)) (A2 : Option Addr) (c2 : Nat) (l2 : List Int) (r : Bool) (w : World) (hr0 : Kd.C k32 w A0 l0.length l0) (hc0 : l0.length ≤ c0) (hr1 : Kd.C k32 w A1 l1.length l1) (hc1 : l1.length ≤ c1) (hr2 : Kd.C (Kd.int .i64) w A2 l2.length l2) (hc2 : l2.length ≤ c2) (h : script_Agree.f l0 l1 l2 = some r) :
    Calls Tryd.prog 26 #[.slice A0 l0.length c0, .slice A1 l1.length c1, .slice A2 l2.length c2] w fun e w' => e = .returned (.bool r) ∧ Below w.heap.size w w' := by
  unfold script_Agree.f at h
  obtain rfl := Option.some.inj h
  exact Hof.agree_calls A0 c0 l0 A1 c1 l1 A2 c2 l2 w hr0 hc0 hr1 hc1 hr2

end Go.Proofs.YtonnlkpmfmknlaaDoor.GA
end
