/-
  What the arguments' types open to: instructions, slices of instructions and of words.
-/
import Derived.Test.YteggfenbifpkkaaOpn
import Derived.Test.YteggfenbifpkkaaGA0
namespace Go.Proofs.Yteggfenbifpkkaa.Kinds
open Go.Proofs.YteggfenbifpkkaaW.PrintWords Go.Proofs.Yteggfenbifpkkaa.Opn Go.Proofs.Yteggfenbifpkkaa.GA
theorem o3 : Opens Try.prog 3 (Kd.int .i64) (GInt .i64) := opens_int Try.underlying3 (by kernel_rfl)
theorem o23 : Opens Try.prog 23 (Kd.int .u32) (GInt .u32) := opens_int Try.underlying23 (by kernel_rfl)
def G28 (x : S28) (n : Nat) : Prop := GPair (GInt .i64) (GPair (GInt .i64) (GPair (GInt .i64) (GPair (GInt .i64) (GInt .i64)))) (x.f0, x.f1, x.f2, x.f3, x.f4) n
theorem o28 : Opens Try.prog 28 k28 G28 :=
  opens_struct (seq_cons o3 (seq_cons o3 (seq_cons o3 (seq_cons o3 (seq_one o3))))) Try.underlying28 (by kernel_rfl) (by kernel_rfl) (by kernel_rfl) _ (fun a => ⟨a.1, a.2.1, a.2.2.1, a.2.2.2.1, a.2.2.2.2⟩) (fun _ => rfl)
theorem o22 : Opens Try.prog 22 (Kd.slice 28 k28) (GSl 40 G28) := opens_slice o28 Try.underlying22 (by kernel_rfl) (B := 40) (by kernel_rfl)
theorem o39 : Opens Try.prog 39 (Kd.slice 23 (Kd.int .u32)) (GSl 4 (GInt .u32)) := opens_slice o23 Try.underlying39 (by kernel_rfl) (B := 4) (by kernel_rfl)
end Go.Proofs.Yteggfenbifpkkaa.Kinds
