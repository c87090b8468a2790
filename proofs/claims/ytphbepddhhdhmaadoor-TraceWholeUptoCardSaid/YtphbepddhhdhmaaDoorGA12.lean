-- laid by a program of this session (wip/gp.sh)
import Derived.Test.YtphbepddhhdhmaaDoorGA0
import Derived.Test.YtphbepddhhdhmaaDoorHname
namespace Go.Proofs.YtphbepddhhdhmaaDoor.GA
open Go.RowKit Go.Proofs.YtphbepddhhdhmaaDoorW.PrintWords Go.Proofs.YtphbepddhhdhmaaDoorW.PrintLast Go.Proofs.YtphbepddhhdhmaaDoorW.PrintMore
attribute [local go_sem] max2_int min2_int max_two min_two max_three min_three max_four min_four   -- for this text's walks alone
set_option linter.unusedVariables false
set_option linter.unusedSimpArgs false

/-! ### trace_Name: function 12 (its contract: by hand) -/
-- NEEDS Derived.Test.YtphbepddhhdhmaaDoorHname
-- its type: def trace_Name.f (a0 : Int) : Option (ByteArray × Int)
def trace_Name.f (a0 : Int) : Option (ByteArray × Int) := if 1 ≤ a0 ∧ a0 ≤ 36 then some (Laid.nameAt (a0 - 1).toNat, 0) else some (⟨#[]⟩, 250)
set_option maxHeartbeats 8000000 in
set_option maxRecDepth 100000 in
theorem trace_Name.calls (a0 : Int) (r1 : ByteArray) (r2 : Int) (w : World) (hLLaidNames : Laid.LaidNames w) (h : trace_Name.f a0 = some (r1, r2)) :
    Calls Tryd.prog 12 #[.int .i64 a0] w fun e w' => e = .returned (.tuple #[.string r1, .int .i64 r2]) ∧ Drawn0 w w' := by
  unfold trace_Name.f at h
  split at h
  · rename_i hr
    obtain ⟨k, hk⟩ : ∃ k : Nat, a0 - 1 = (k : Int) := ⟨(a0 - 1).toNat, by omega⟩
    obtain rfl : a0 = (k : Int) + 1 := by omega
    rw [hk, Int.toNat_natCast] at h
    simp only [Option.some.injEq, Prod.mk.injEq] at h
    obtain ⟨rfl, rfl⟩ := h
    exact Hname.name_in k (by omega) w hLLaidNames
  · rename_i hr
    simp only [Option.some.injEq, Prod.mk.injEq] at h
    obtain ⟨rfl, rfl⟩ := h
    exact Hname.name_out a0 (by omega) w

end Go.Proofs.YtphbepddhhdhmaaDoor.GA
