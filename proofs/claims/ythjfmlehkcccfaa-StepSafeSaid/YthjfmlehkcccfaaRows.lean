/-
  No cell of these rows narrows 'for every input' (looked for: loops, veiled, ifaces, maps, wideKeys, modest, calm, conditions, laid).
  DERIVED. THE GIVEN ROWS OF THIS SEAT. 8 by the template 'for every input the law returns true; each argument reads behind the call as it read before'; 0 by the template 'total and deterministic' (their statements: YthjfmlehkcccfaaTotals.lean).
  GIVEN WITH THE SEED: the statements are not yours to turn. If you find one false, say at which input.
  Laid BY PROGRAM, IN A SANDBOX (cutbox-rows.mjs): the forced cells as the released guide's own fill.sh prints them over the translation b109675301c0ed59… (all of the seat's roots in one cut). By AI agents, Wed Nov 11 2026. No macro, syntax, notation, axiom, sorry.
-/
import Derived.Test.YthjfmlehkcccfaaChecked
import GoSem.Claim
import GoSem.ClaimJoined
import GoSem.ClaimMapViews
import Derived.JoinedTies
import Derived.KernelRfl
namespace Go.Proofs.Ythjfmlehkcccfaa
/- THE CELL 'sum', in the pinned program and in every row, IS THE sha256 OF THE DUMP (.gsa) THAT YthjfmlehkcccfaaProg.lean LOADS. Nothing in Lean hashes anything: it is a label: what it is worth is what the hold of that sum in a sandbox is worth. -/
noncomputable def Try.pinned : Pinned := { name := "ythjfmlehkcccfaa", sum := "b109675301c0ed5957ccf245e2fbf620ae87fa14fc92a1f155bec075866010c0", checked := Try.checked }
namespace Rows
def none {H : Type} : Left H := { results := [], args := [] }

/-- 'rotalaw09.StepDoes': WHATEVER THE INPUT: true; the input reads as it did. -/
def stepDoesSpec : ChangeSpec := { name := "stepDoes", fn := fun _ => fun
  | [d1, d2, d3] => { results := [.lit (.bool true)], args := [d1, d2, d3] }
  | _ => none }
def stepDoesRow : OpenClaim := { program := "ythjfmlehkcccfaa", sum := "b109675301c0ed5957ccf245e2fbf620ae87fa14fc92a1f155bec075866010c0", func := "rota/rotalaw09.StepDoes", spec := "stepDoes", apart := false }
def StepDoesSaid : Prop := stepDoesRow.holds Try.pinned (OpenSpec.ofChange stepDoesSpec)

/-- ITS FALSE NEIGHBOUR: 'it returns false'. Refute it at one input. -/
def stepDoesWrong : ChangeSpec := { name := "stepDoes", fn := fun _ => fun
  | [d1, d2, d3] => { results := [.lit (.bool false)], args := [d1, d2, d3] }
  | _ => none }
def StepDoesWrongFalsely : Prop := stepDoesRow.holds Try.pinned (OpenSpec.ofChange stepDoesWrong)

/-- 'rotalaw09.StepBegins': WHATEVER THE INPUT: true; the input reads as it did. -/
def stepBeginsSpec : ChangeSpec := { name := "stepBegins", fn := fun _ => fun
  | [d1, d2, d3] => { results := [.lit (.bool true)], args := [d1, d2, d3] }
  | _ => none }
def stepBeginsRow : OpenClaim := { program := "ythjfmlehkcccfaa", sum := "b109675301c0ed5957ccf245e2fbf620ae87fa14fc92a1f155bec075866010c0", func := "rota/rotalaw09.StepBegins", spec := "stepBegins", apart := false }
def StepBeginsSaid : Prop := stepBeginsRow.holds Try.pinned (OpenSpec.ofChange stepBeginsSpec)

/-- ITS FALSE NEIGHBOUR: 'it returns false'. Refute it at one input. -/
def stepBeginsWrong : ChangeSpec := { name := "stepBegins", fn := fun _ => fun
  | [d1, d2, d3] => { results := [.lit (.bool false)], args := [d1, d2, d3] }
  | _ => none }
def StepBeginsWrongFalsely : Prop := stepBeginsRow.holds Try.pinned (OpenSpec.ofChange stepBeginsWrong)

/-- 'rotalaw09.StepCosts': WHATEVER THE INPUT: true; the input reads as it did. -/
def stepCostsSpec : ChangeSpec := { name := "stepCosts", fn := fun _ => fun
  | [d1, d2] => { results := [.lit (.bool true)], args := [d1, d2] }
  | _ => none }
def stepCostsRow : OpenClaim := { program := "ythjfmlehkcccfaa", sum := "b109675301c0ed5957ccf245e2fbf620ae87fa14fc92a1f155bec075866010c0", func := "rota/rotalaw09.StepCosts", spec := "stepCosts", apart := false }
def StepCostsSaid : Prop := stepCostsRow.holds Try.pinned (OpenSpec.ofChange stepCostsSpec)

/-- ITS FALSE NEIGHBOUR: 'it returns false'. Refute it at one input. -/
def stepCostsWrong : ChangeSpec := { name := "stepCosts", fn := fun _ => fun
  | [d1, d2] => { results := [.lit (.bool false)], args := [d1, d2] }
  | _ => none }
def StepCostsWrongFalsely : Prop := stepCostsRow.holds Try.pinned (OpenSpec.ofChange stepCostsWrong)

/-- 'rotalaw09.StepAnswers': WHATEVER THE INPUT: true; the input reads as it did. -/
def stepAnswersSpec : ChangeSpec := { name := "stepAnswers", fn := fun _ => fun
  | [d1, d2] => { results := [.lit (.bool true)], args := [d1, d2] }
  | _ => none }
def stepAnswersRow : OpenClaim := { program := "ythjfmlehkcccfaa", sum := "b109675301c0ed5957ccf245e2fbf620ae87fa14fc92a1f155bec075866010c0", func := "rota/rotalaw09.StepAnswers", spec := "stepAnswers", apart := false }
def StepAnswersSaid : Prop := stepAnswersRow.holds Try.pinned (OpenSpec.ofChange stepAnswersSpec)

/-- ITS FALSE NEIGHBOUR: 'it returns false'. Refute it at one input. -/
def stepAnswersWrong : ChangeSpec := { name := "stepAnswers", fn := fun _ => fun
  | [d1, d2] => { results := [.lit (.bool false)], args := [d1, d2] }
  | _ => none }
def StepAnswersWrongFalsely : Prop := stepAnswersRow.holds Try.pinned (OpenSpec.ofChange stepAnswersWrong)

/-- 'rotalaw09.StepRuns': WHATEVER THE INPUT: true; the input reads as it did. -/
def stepRunsSpec : ChangeSpec := { name := "stepRuns", fn := fun _ => fun
  | [d1, d2, d3] => { results := [.lit (.bool true)], args := [d1, d2, d3] }
  | _ => none }
def stepRunsRow : OpenClaim := { program := "ythjfmlehkcccfaa", sum := "b109675301c0ed5957ccf245e2fbf620ae87fa14fc92a1f155bec075866010c0", func := "rota/rotalaw09.StepRuns", spec := "stepRuns", apart := false }
def StepRunsSaid : Prop := stepRunsRow.holds Try.pinned (OpenSpec.ofChange stepRunsSpec)

/-- ITS FALSE NEIGHBOUR: 'it returns false'. Refute it at one input. -/
def stepRunsWrong : ChangeSpec := { name := "stepRuns", fn := fun _ => fun
  | [d1, d2, d3] => { results := [.lit (.bool false)], args := [d1, d2, d3] }
  | _ => none }
def StepRunsWrongFalsely : Prop := stepRunsRow.holds Try.pinned (OpenSpec.ofChange stepRunsWrong)

/-- 'rotalaw09.StepWrites': WHATEVER THE INPUT: true; the input reads as it did. -/
def stepWritesSpec : ChangeSpec := { name := "stepWrites", fn := fun _ => fun
  | [d1, d2, d3] => { results := [.lit (.bool true)], args := [d1, d2, d3] }
  | _ => none }
def stepWritesRow : OpenClaim := { program := "ythjfmlehkcccfaa", sum := "b109675301c0ed5957ccf245e2fbf620ae87fa14fc92a1f155bec075866010c0", func := "rota/rotalaw09.StepWrites", spec := "stepWrites", apart := false }
def StepWritesSaid : Prop := stepWritesRow.holds Try.pinned (OpenSpec.ofChange stepWritesSpec)

/-- ITS FALSE NEIGHBOUR: 'it returns false'. Refute it at one input. -/
def stepWritesWrong : ChangeSpec := { name := "stepWrites", fn := fun _ => fun
  | [d1, d2, d3] => { results := [.lit (.bool false)], args := [d1, d2, d3] }
  | _ => none }
def StepWritesWrongFalsely : Prop := stepWritesRow.holds Try.pinned (OpenSpec.ofChange stepWritesWrong)

/-- 'rotalaw09.StepOwn': WHATEVER THE INPUT: true; the input reads as it did. -/
def stepOwnSpec : ChangeSpec := { name := "stepOwn", fn := fun _ => fun
  | [d1, d2, d3] => { results := [.lit (.bool true)], args := [d1, d2, d3] }
  | _ => none }
def stepOwnRow : OpenClaim := { program := "ythjfmlehkcccfaa", sum := "b109675301c0ed5957ccf245e2fbf620ae87fa14fc92a1f155bec075866010c0", func := "rota/rotalaw09.StepOwn", spec := "stepOwn", apart := false }
def StepOwnSaid : Prop := stepOwnRow.holds Try.pinned (OpenSpec.ofChange stepOwnSpec)

/-- ITS FALSE NEIGHBOUR: 'it returns false'. Refute it at one input. -/
def stepOwnWrong : ChangeSpec := { name := "stepOwn", fn := fun _ => fun
  | [d1, d2, d3] => { results := [.lit (.bool false)], args := [d1, d2, d3] }
  | _ => none }
def StepOwnWrongFalsely : Prop := stepOwnRow.holds Try.pinned (OpenSpec.ofChange stepOwnWrong)

/-- 'rotalaw09.StepSafe': WHATEVER THE INPUT: true; the input reads as it did. -/
def stepSafeSpec : ChangeSpec := { name := "stepSafe", fn := fun _ => fun
  | [d1, d2, d3] => { results := [.lit (.bool true)], args := [d1, d2, d3] }
  | _ => none }
def stepSafeRow : OpenClaim := { program := "ythjfmlehkcccfaa", sum := "b109675301c0ed5957ccf245e2fbf620ae87fa14fc92a1f155bec075866010c0", func := "rota/rotalaw09.StepSafe", spec := "stepSafe", apart := false }
def StepSafeSaid : Prop := stepSafeRow.holds Try.pinned (OpenSpec.ofChange stepSafeSpec)

/-- ITS FALSE NEIGHBOUR: 'it returns false'. Refute it at one input. -/
def stepSafeWrong : ChangeSpec := { name := "stepSafe", fn := fun _ => fun
  | [d1, d2, d3] => { results := [.lit (.bool false)], args := [d1, d2, d3] }
  | _ => none }
def StepSafeWrongFalsely : Prop := stepSafeRow.holds Try.pinned (OpenSpec.ofChange stepSafeWrong)

/- THE SECOND FORM. 'bulk': how many values and letters a reading holds, each counted each time it is reached (what is shared counts as often as it is met; a slice's spare places count too). A statement '..UptoSaid' is the law's where the arguments, and the package variables that the reading takes, are together of bulk at most 1048576: NARROWER than '..Said'. Prove '..Said' where nothing that the law and all that it calls make is longer than what came in: it says more and counts as full. Else prove '..UptoSaid'. A law counts once. -/
mutual
def uptoBulk {H : Type} : DataW H → Nat
  | .lit (.string bytes) => bytes.length + 1
  | .lit _ => 1
  | .nil => 1
  | .ptr d => uptoBulk d + 1
  | .slice elems spare => uptoBulkAll elems + uptoBulkAll spare + 1
  | .agg parts => uptoBulkAll parts + 1
  | .iface _ d => uptoBulk d + 1
  | .map entries => uptoBulkEntries entries + 1
  | .held _ => 1
def uptoBulkAll {H : Type} : List (DataW H) → Nat
  | [] => 0
  | d :: r => uptoBulk d + uptoBulkAll r
def uptoBulkEntries {H : Type} : List (Lit × DataW H) → Nat
  | [] => 0
  | x :: r => uptoBulkEntry x + uptoBulkEntries r
def uptoBulkEntry {H : Type} : Lit × DataW H → Nat
  | (.string bytes, d) => bytes.length + uptoBulk d + 1
  | (_, d) => uptoBulk d + 1
 end
def uptoSmall : (H : Type) → List (DataW H) → Bool := fun _ ds => decide (uptoBulkAll ds ≤ 1048576)
def OpenSpec.upto (s : _root_.Go.ChangeSpec) : _root_.Go.OpenSpec := { _root_.Go.OpenSpec.ofChange s with cond := some uptoSmall }

/-- 'rotalaw09.StepDoes', WHERE WHAT IT READS IS OF BULK AT MOST 1048576: true; the input reads as it did. -/
def stepDoesUptoRow : OpenClaim := { program := "ythjfmlehkcccfaa", sum := "b109675301c0ed5957ccf245e2fbf620ae87fa14fc92a1f155bec075866010c0", func := "rota/rotalaw09.StepDoes", spec := "stepDoes", apart := false, narrowed := true }
def StepDoesUptoSaid : Prop := stepDoesUptoRow.holds Try.pinned (OpenSpec.upto stepDoesSpec)

/-- 'rotalaw09.StepBegins', WHERE WHAT IT READS IS OF BULK AT MOST 1048576: true; the input reads as it did. -/
def stepBeginsUptoRow : OpenClaim := { program := "ythjfmlehkcccfaa", sum := "b109675301c0ed5957ccf245e2fbf620ae87fa14fc92a1f155bec075866010c0", func := "rota/rotalaw09.StepBegins", spec := "stepBegins", apart := false, narrowed := true }
def StepBeginsUptoSaid : Prop := stepBeginsUptoRow.holds Try.pinned (OpenSpec.upto stepBeginsSpec)

/-- 'rotalaw09.StepCosts', WHERE WHAT IT READS IS OF BULK AT MOST 1048576: true; the input reads as it did. -/
def stepCostsUptoRow : OpenClaim := { program := "ythjfmlehkcccfaa", sum := "b109675301c0ed5957ccf245e2fbf620ae87fa14fc92a1f155bec075866010c0", func := "rota/rotalaw09.StepCosts", spec := "stepCosts", apart := false, narrowed := true }
def StepCostsUptoSaid : Prop := stepCostsUptoRow.holds Try.pinned (OpenSpec.upto stepCostsSpec)

/-- 'rotalaw09.StepAnswers', WHERE WHAT IT READS IS OF BULK AT MOST 1048576: true; the input reads as it did. -/
def stepAnswersUptoRow : OpenClaim := { program := "ythjfmlehkcccfaa", sum := "b109675301c0ed5957ccf245e2fbf620ae87fa14fc92a1f155bec075866010c0", func := "rota/rotalaw09.StepAnswers", spec := "stepAnswers", apart := false, narrowed := true }
def StepAnswersUptoSaid : Prop := stepAnswersUptoRow.holds Try.pinned (OpenSpec.upto stepAnswersSpec)

/-- 'rotalaw09.StepRuns', WHERE WHAT IT READS IS OF BULK AT MOST 1048576: true; the input reads as it did. -/
def stepRunsUptoRow : OpenClaim := { program := "ythjfmlehkcccfaa", sum := "b109675301c0ed5957ccf245e2fbf620ae87fa14fc92a1f155bec075866010c0", func := "rota/rotalaw09.StepRuns", spec := "stepRuns", apart := false, narrowed := true }
def StepRunsUptoSaid : Prop := stepRunsUptoRow.holds Try.pinned (OpenSpec.upto stepRunsSpec)

/-- 'rotalaw09.StepWrites', WHERE WHAT IT READS IS OF BULK AT MOST 1048576: true; the input reads as it did. -/
def stepWritesUptoRow : OpenClaim := { program := "ythjfmlehkcccfaa", sum := "b109675301c0ed5957ccf245e2fbf620ae87fa14fc92a1f155bec075866010c0", func := "rota/rotalaw09.StepWrites", spec := "stepWrites", apart := false, narrowed := true }
def StepWritesUptoSaid : Prop := stepWritesUptoRow.holds Try.pinned (OpenSpec.upto stepWritesSpec)

/-- 'rotalaw09.StepOwn', WHERE WHAT IT READS IS OF BULK AT MOST 1048576: true; the input reads as it did. -/
def stepOwnUptoRow : OpenClaim := { program := "ythjfmlehkcccfaa", sum := "b109675301c0ed5957ccf245e2fbf620ae87fa14fc92a1f155bec075866010c0", func := "rota/rotalaw09.StepOwn", spec := "stepOwn", apart := false, narrowed := true }
def StepOwnUptoSaid : Prop := stepOwnUptoRow.holds Try.pinned (OpenSpec.upto stepOwnSpec)

/-- 'rotalaw09.StepSafe', WHERE WHAT IT READS IS OF BULK AT MOST 1048576: true; the input reads as it did. -/
def stepSafeUptoRow : OpenClaim := { program := "ythjfmlehkcccfaa", sum := "b109675301c0ed5957ccf245e2fbf620ae87fa14fc92a1f155bec075866010c0", func := "rota/rotalaw09.StepSafe", spec := "stepSafe", apart := false, narrowed := true }
def StepSafeUptoSaid : Prop := stepSafeUptoRow.holds Try.pinned (OpenSpec.upto stepSafeSpec)

end Rows
end Go.Proofs.Ythjfmlehkcccfaa
