/-
  What trace.Name comes to, where the table of names holds its texts.
-/
import Derived.Test.YtphbepddhhdhmaaDoorLaid
import Derived.WalkKit
import Derived.WalkLawsBesides
import Derived.Outline
set_option linter.unusedVariables false
namespace Go.Proofs.YtphbepddhhdhmaaDoor.Hname
open Go.RowKit Go.Proofs.YtphbepddhhdhmaaDoorW.PrintWords

set_option maxHeartbeats 1000000 in
set_option maxRecDepth 100000 in
theorem name_in (k : Nat) (hk : k < 36) (w : World) (hL : Laid.LaidNames w) :
    Calls Tryd.prog 12 #[.int .i64 (k + 1)] w fun e w' => e = .returned (.tuple #[.string (Laid.nameAt k), .int .i64 0]) ∧ Drawn0 w w' := by
  have hc := hL k hk
  have g0 : (0 : Int) ≤ k := by omega
  have g1 : (k : Int) < 36 := by omega
  clear hL
  generalize Laid.nameAt k = s at hc ⊢
  go_enter Tryd.func12, Tryd.ntmps12
  go_wp2
  go_ret2
  exact ⟨rfl, by repeat (first | exact Drawn0.refl _ | apply Drawn0.step)⟩
set_option maxHeartbeats 1000000 in
set_option maxRecDepth 100000 in
theorem name_out (n : Int) (h : n < 1 ∨ 36 < n) (w : World) :
    Calls Tryd.prog 12 #[.int .i64 n] w fun e w' => e = .returned (.tuple #[.string ⟨#[]⟩, .int .i64 250]) ∧ Drawn0 w w' := by
  rcases h with h | h
  all_goals
    go_enter Tryd.func12, Tryd.ntmps12
    go_wp2
    go_ret2
    exact ⟨rfl, by repeat (first | exact Drawn0.refl _ | apply Drawn0.step)⟩
end Go.Proofs.YtphbepddhhdhmaaDoor.Hname
