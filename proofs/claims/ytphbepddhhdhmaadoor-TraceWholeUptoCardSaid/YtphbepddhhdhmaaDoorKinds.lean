/-
  What the arguments' types open to: events and slices of them.
-/
import Derived.Test.YtphbepddhhdhmaaDoorOpn
import Derived.Test.YtphbepddhhdhmaaDoorGA0
namespace Go.Proofs.YtphbepddhhdhmaaDoor.Kinds
open Go.Proofs.YtphbepddhhdhmaaDoorW.PrintWords Go.Proofs.YtphbepddhhdhmaaDoor.Opn Go.Proofs.YtphbepddhhdhmaaDoor.GA
theorem o3 : Opens Tryd.prog 3 (Kd.int .i64) (GInt .i64) := opens_int Tryd.underlying3 (by kernel_rfl)
theorem o2 : Opens Tryd.prog 2 (Kd.int .i64) (GInt .i64) := opens_int Tryd.underlying2 (by kernel_rfl)
theorem o34 : Opens Tryd.prog 34 (Kd.int .u64) (GInt .u64) := opens_int Tryd.underlying34 (by kernel_rfl)
def G33 (x : S33) (n : Nat) : Prop := GPair (GInt .i64) (GInt .i64) (x.f0, x.f1) n
theorem o33 : Opens Tryd.prog 33 k33 G33 :=
  opens_struct (seq_cons o3 (seq_one o3)) Tryd.underlying33 (by kernel_rfl) (by kernel_rfl) (by kernel_rfl) _ (fun a => ⟨a.1, a.2⟩) (fun _ => rfl)
def G36 (x : S36) (n : Nat) : Prop := GPair (GInt .u64) (GPair (GInt .i64) (GPair G33 (GPair (GInt .i64) (GPair (GInt .i64) (GPair (GInt .i64) (GInt .i64)))))) (x.f0, x.f1, x.f2, x.f3, x.f4, x.f5, x.f6) n
theorem o36 : Opens Tryd.prog 36 k36 G36 :=
  opens_struct (seq_cons o34 (seq_cons o3 (seq_cons o33 (seq_cons o3 (seq_cons o2 (seq_cons o2 (seq_one o2))))))) Tryd.underlying36 (by kernel_rfl) (by kernel_rfl) (by kernel_rfl) _ (fun a => ⟨a.1, a.2.1, a.2.2.1, a.2.2.2.1, a.2.2.2.2.1, a.2.2.2.2.2.1, a.2.2.2.2.2.2⟩) (fun _ => rfl)
theorem o22 : Opens Tryd.prog 22 (Kd.slice 36 k36) (GSl 64 G36) := opens_slice o36 Tryd.underlying22 (by kernel_rfl) (B := 64) (by kernel_rfl)
end Go.Proofs.YtphbepddhhdhmaaDoor.Kinds
