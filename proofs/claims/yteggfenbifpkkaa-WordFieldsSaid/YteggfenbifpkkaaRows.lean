/-
  No cell of these rows narrows 'for every input' (looked for: loops, veiled, ifaces, maps, wideKeys, modest, calm, conditions, laid).
  DERIVED. THE GIVEN ROWS OF THIS SEAT. 10 by the template 'for every input the law returns true; each argument reads behind the call as it read before'; 0 by the template 'total and deterministic' (their statements: YteggfenbifpkkaaTotals.lean).
  GIVEN WITH THE SEED: the statements are not yours to turn. If you find one false, say at which input.
  Laid BY PROGRAM, IN A SANDBOX (cutbox-rows.mjs): the forced cells as the released guide's own fill.sh prints them over the translation faa5c6eb7d6841e0… (all of the seat's roots in one cut). By AI agents, Wed Nov 11 2026. No macro, syntax, notation, axiom, sorry.
-/
import Derived.Test.YteggfenbifpkkaaChecked
import GoSem.Claim
import GoSem.ClaimJoined
import GoSem.ClaimMapViews
import Derived.JoinedTies
import Derived.KernelRfl
namespace Go.Proofs.Yteggfenbifpkkaa
/- THE CELL 'sum', in the pinned program and in every row, IS THE sha256 OF THE DUMP (.gsa) THAT YteggfenbifpkkaaProg.lean LOADS. Nothing in Lean hashes anything: it is a label: what it is worth is what the hold of that sum in a sandbox is worth. -/
noncomputable def Try.pinned : Pinned := { name := "yteggfenbifpkkaa", sum := "faa5c6eb7d6841e0b848f04f1a54acf3f67af8744d62783080c95f30fd3833d2", checked := Try.checked }
namespace Rows
def none {H : Type} : Left H := { results := [], args := [] }

/-- 'rotalaw06.WordEncodes': WHATEVER THE INPUT: true; the input reads as it did. -/
def wordEncodesSpec : ChangeSpec := { name := "wordEncodes", fn := fun _ => fun
  | [d] => { results := [.lit (.bool true)], args := [d] }
  | _ => none }
def wordEncodesRow : OpenClaim := { program := "yteggfenbifpkkaa", sum := "faa5c6eb7d6841e0b848f04f1a54acf3f67af8744d62783080c95f30fd3833d2", func := "rota/rotalaw06.WordEncodes", spec := "wordEncodes", apart := false }
def WordEncodesSaid : Prop := wordEncodesRow.holds Try.pinned (OpenSpec.ofChange wordEncodesSpec)

/-- ITS FALSE NEIGHBOUR: 'it returns false'. Refute it at one input. -/
def wordEncodesWrong : ChangeSpec := { name := "wordEncodes", fn := fun _ => fun
  | [d] => { results := [.lit (.bool false)], args := [d] }
  | _ => none }
def WordEncodesWrongFalsely : Prop := wordEncodesRow.holds Try.pinned (OpenSpec.ofChange wordEncodesWrong)

/-- 'rotalaw06.WordNames': WHATEVER THE INPUT: true; the input reads as it did. -/
def wordNamesSpec : ChangeSpec := { name := "wordNames", fn := fun _ => fun
  | [d1, d2] => { results := [.lit (.bool true)], args := [d1, d2] }
  | _ => none }
def wordNamesRow : OpenClaim := { program := "yteggfenbifpkkaa", sum := "faa5c6eb7d6841e0b848f04f1a54acf3f67af8744d62783080c95f30fd3833d2", func := "rota/rotalaw06.WordNames", spec := "wordNames", apart := false }
def WordNamesSaid : Prop := wordNamesRow.holds Try.pinned (OpenSpec.ofChange wordNamesSpec)

/-- ITS FALSE NEIGHBOUR: 'it returns false'. Refute it at one input. -/
def wordNamesWrong : ChangeSpec := { name := "wordNames", fn := fun _ => fun
  | [d1, d2] => { results := [.lit (.bool false)], args := [d1, d2] }
  | _ => none }
def WordNamesWrongFalsely : Prop := wordNamesRow.holds Try.pinned (OpenSpec.ofChange wordNamesWrong)

/-- 'rotalaw06.WordFinds': WHATEVER THE INPUT: true; the input reads as it did. -/
def wordFindsSpec : ChangeSpec := { name := "wordFinds", fn := fun _ => fun
  | [d] => { results := [.lit (.bool true)], args := [d] }
  | _ => none }
def wordFindsRow : OpenClaim := { program := "yteggfenbifpkkaa", sum := "faa5c6eb7d6841e0b848f04f1a54acf3f67af8744d62783080c95f30fd3833d2", func := "rota/rotalaw06.WordFinds", spec := "wordFinds", apart := false }
def WordFindsSaid : Prop := wordFindsRow.holds Try.pinned (OpenSpec.ofChange wordFindsSpec)

/-- ITS FALSE NEIGHBOUR: 'it returns false'. Refute it at one input. -/
def wordFindsWrong : ChangeSpec := { name := "wordFinds", fn := fun _ => fun
  | [d] => { results := [.lit (.bool false)], args := [d] }
  | _ => none }
def WordFindsWrongFalsely : Prop := wordFindsRow.holds Try.pinned (OpenSpec.ofChange wordFindsWrong)

/-- 'rotalaw06.WordTells': WHATEVER THE INPUT: true; the input reads as it did. -/
def wordTellsSpec : ChangeSpec := { name := "wordTells", fn := fun _ => fun
  | [d] => { results := [.lit (.bool true)], args := [d] }
  | _ => none }
def wordTellsRow : OpenClaim := { program := "yteggfenbifpkkaa", sum := "faa5c6eb7d6841e0b848f04f1a54acf3f67af8744d62783080c95f30fd3833d2", func := "rota/rotalaw06.WordTells", spec := "wordTells", apart := false }
def WordTellsSaid : Prop := wordTellsRow.holds Try.pinned (OpenSpec.ofChange wordTellsSpec)

/-- ITS FALSE NEIGHBOUR: 'it returns false'. Refute it at one input. -/
def wordTellsWrong : ChangeSpec := { name := "wordTells", fn := fun _ => fun
  | [d] => { results := [.lit (.bool false)], args := [d] }
  | _ => none }
def WordTellsWrongFalsely : Prop := wordTellsRow.holds Try.pinned (OpenSpec.ofChange wordTellsWrong)

/-- 'rotalaw06.WordCosts': WHATEVER THE INPUT: true; the input reads as it did. -/
def wordCostsSpec : ChangeSpec := { name := "wordCosts", fn := fun _ => fun
  | [d] => { results := [.lit (.bool true)], args := [d] }
  | _ => none }
def wordCostsRow : OpenClaim := { program := "yteggfenbifpkkaa", sum := "faa5c6eb7d6841e0b848f04f1a54acf3f67af8744d62783080c95f30fd3833d2", func := "rota/rotalaw06.WordCosts", spec := "wordCosts", apart := false }
def WordCostsSaid : Prop := wordCostsRow.holds Try.pinned (OpenSpec.ofChange wordCostsSpec)

/-- ITS FALSE NEIGHBOUR: 'it returns false'. Refute it at one input. -/
def wordCostsWrong : ChangeSpec := { name := "wordCosts", fn := fun _ => fun
  | [d] => { results := [.lit (.bool false)], args := [d] }
  | _ => none }
def WordCostsWrongFalsely : Prop := wordCostsRow.holds Try.pinned (OpenSpec.ofChange wordCostsWrong)

/-- 'rotalaw06.WordDecodes': WHATEVER THE INPUT: true; the input reads as it did. -/
def wordDecodesSpec : ChangeSpec := { name := "wordDecodes", fn := fun _ => fun
  | [d] => { results := [.lit (.bool true)], args := [d] }
  | _ => none }
def wordDecodesRow : OpenClaim := { program := "yteggfenbifpkkaa", sum := "faa5c6eb7d6841e0b848f04f1a54acf3f67af8744d62783080c95f30fd3833d2", func := "rota/rotalaw06.WordDecodes", spec := "wordDecodes", apart := false }
def WordDecodesSaid : Prop := wordDecodesRow.holds Try.pinned (OpenSpec.ofChange wordDecodesSpec)

/-- ITS FALSE NEIGHBOUR: 'it returns false'. Refute it at one input. -/
def wordDecodesWrong : ChangeSpec := { name := "wordDecodes", fn := fun _ => fun
  | [d] => { results := [.lit (.bool false)], args := [d] }
  | _ => none }
def WordDecodesWrongFalsely : Prop := wordDecodesRow.holds Try.pinned (OpenSpec.ofChange wordDecodesWrong)

/-- 'rotalaw06.WordOne': WHATEVER THE INPUT: true; the input reads as it did. -/
def wordOneSpec : ChangeSpec := { name := "wordOne", fn := fun _ => fun
  | [d] => { results := [.lit (.bool true)], args := [d] }
  | _ => none }
def wordOneRow : OpenClaim := { program := "yteggfenbifpkkaa", sum := "faa5c6eb7d6841e0b848f04f1a54acf3f67af8744d62783080c95f30fd3833d2", func := "rota/rotalaw06.WordOne", spec := "wordOne", apart := false }
def WordOneSaid : Prop := wordOneRow.holds Try.pinned (OpenSpec.ofChange wordOneSpec)

/-- ITS FALSE NEIGHBOUR: 'it returns false'. Refute it at one input. -/
def wordOneWrong : ChangeSpec := { name := "wordOne", fn := fun _ => fun
  | [d] => { results := [.lit (.bool false)], args := [d] }
  | _ => none }
def WordOneWrongFalsely : Prop := wordOneRow.holds Try.pinned (OpenSpec.ofChange wordOneWrong)

/-- 'rotalaw06.WordFields': WHATEVER THE INPUT: true; the input reads as it did. -/
def wordFieldsSpec : ChangeSpec := { name := "wordFields", fn := fun _ => fun
  | [d1, d2] => { results := [.lit (.bool true)], args := [d1, d2] }
  | _ => none }
def wordFieldsRow : OpenClaim := { program := "yteggfenbifpkkaa", sum := "faa5c6eb7d6841e0b848f04f1a54acf3f67af8744d62783080c95f30fd3833d2", func := "rota/rotalaw06.WordFields", spec := "wordFields", apart := false }
def WordFieldsSaid : Prop := wordFieldsRow.holds Try.pinned (OpenSpec.ofChange wordFieldsSpec)

/-- ITS FALSE NEIGHBOUR: 'it returns false'. Refute it at one input. -/
def wordFieldsWrong : ChangeSpec := { name := "wordFields", fn := fun _ => fun
  | [d1, d2] => { results := [.lit (.bool false)], args := [d1, d2] }
  | _ => none }
def WordFieldsWrongFalsely : Prop := wordFieldsRow.holds Try.pinned (OpenSpec.ofChange wordFieldsWrong)

/-- 'rotalaw06.WordUses': WHATEVER THE INPUT: true; the input reads as it did. -/
def wordUsesSpec : ChangeSpec := { name := "wordUses", fn := fun _ => fun
  | [d] => { results := [.lit (.bool true)], args := [d] }
  | _ => none }
def wordUsesRow : OpenClaim := { program := "yteggfenbifpkkaa", sum := "faa5c6eb7d6841e0b848f04f1a54acf3f67af8744d62783080c95f30fd3833d2", func := "rota/rotalaw06.WordUses", spec := "wordUses", apart := false }
def WordUsesSaid : Prop := wordUsesRow.holds Try.pinned (OpenSpec.ofChange wordUsesSpec)

/-- ITS FALSE NEIGHBOUR: 'it returns false'. Refute it at one input. -/
def wordUsesWrong : ChangeSpec := { name := "wordUses", fn := fun _ => fun
  | [d] => { results := [.lit (.bool false)], args := [d] }
  | _ => none }
def WordUsesWrongFalsely : Prop := wordUsesRow.holds Try.pinned (OpenSpec.ofChange wordUsesWrong)

/-- 'rotalaw06.WordBack': WHATEVER THE INPUT: true; the input reads as it did. -/
def wordBackSpec : ChangeSpec := { name := "wordBack", fn := fun _ => fun
  | [d] => { results := [.lit (.bool true)], args := [d] }
  | _ => none }
def wordBackRow : OpenClaim := { program := "yteggfenbifpkkaa", sum := "faa5c6eb7d6841e0b848f04f1a54acf3f67af8744d62783080c95f30fd3833d2", func := "rota/rotalaw06.WordBack", spec := "wordBack", apart := false }
def WordBackSaid : Prop := wordBackRow.holds Try.pinned (OpenSpec.ofChange wordBackSpec)

/-- ITS FALSE NEIGHBOUR: 'it returns false'. Refute it at one input. -/
def wordBackWrong : ChangeSpec := { name := "wordBack", fn := fun _ => fun
  | [d] => { results := [.lit (.bool false)], args := [d] }
  | _ => none }
def WordBackWrongFalsely : Prop := wordBackRow.holds Try.pinned (OpenSpec.ofChange wordBackWrong)

/- THE SECOND FORM. 'bulk': how many values and letters a reading holds, each counted each time it is reached (what is shared counts as often as it is met; a slice's spare places count too). A statement '..UptoSaid' is the law's where the arguments, and the package variables that the reading takes, are together of bulk at most 1048576: NARROWER than '..Said'. Prove '..Said' where nothing that the law and all that it calls make is longer than what came in: it says more and counts as full. Else prove '..UptoSaid'. A law counts once. -/
mutual
def uptoBulk {H : Type} : DataW H → Nat
  | .lit (.string bytes) => bytes.length + 1
  | .lit _ => 1
  | .nil => 1
  | .ptr d => uptoBulk d + 1
  | .slice elems spare => uptoBulkAll elems + uptoBulkAll spare + 1
  | .agg parts => uptoBulkAll parts + 1
  | .iface _ d => uptoBulk d + 1
  | .map entries => uptoBulkEntries entries + 1
  | .held _ => 1
def uptoBulkAll {H : Type} : List (DataW H) → Nat
  | [] => 0
  | d :: r => uptoBulk d + uptoBulkAll r
def uptoBulkEntries {H : Type} : List (Lit × DataW H) → Nat
  | [] => 0
  | x :: r => uptoBulkEntry x + uptoBulkEntries r
def uptoBulkEntry {H : Type} : Lit × DataW H → Nat
  | (.string bytes, d) => bytes.length + uptoBulk d + 1
  | (_, d) => uptoBulk d + 1
 end
def uptoSmall : (H : Type) → List (DataW H) → Bool := fun _ ds => decide (uptoBulkAll ds ≤ 1048576)
def OpenSpec.upto (s : _root_.Go.ChangeSpec) : _root_.Go.OpenSpec := { _root_.Go.OpenSpec.ofChange s with cond := some uptoSmall }

/-- 'rotalaw06.WordEncodes', WHERE WHAT IT READS IS OF BULK AT MOST 1048576: true; the input reads as it did. -/
def wordEncodesUptoRow : OpenClaim := { program := "yteggfenbifpkkaa", sum := "faa5c6eb7d6841e0b848f04f1a54acf3f67af8744d62783080c95f30fd3833d2", func := "rota/rotalaw06.WordEncodes", spec := "wordEncodes", apart := false, narrowed := true }
def WordEncodesUptoSaid : Prop := wordEncodesUptoRow.holds Try.pinned (OpenSpec.upto wordEncodesSpec)

/-- 'rotalaw06.WordNames', WHERE WHAT IT READS IS OF BULK AT MOST 1048576: true; the input reads as it did. -/
def wordNamesUptoRow : OpenClaim := { program := "yteggfenbifpkkaa", sum := "faa5c6eb7d6841e0b848f04f1a54acf3f67af8744d62783080c95f30fd3833d2", func := "rota/rotalaw06.WordNames", spec := "wordNames", apart := false, narrowed := true }
def WordNamesUptoSaid : Prop := wordNamesUptoRow.holds Try.pinned (OpenSpec.upto wordNamesSpec)

/-- 'rotalaw06.WordFinds', WHERE WHAT IT READS IS OF BULK AT MOST 1048576: true; the input reads as it did. -/
def wordFindsUptoRow : OpenClaim := { program := "yteggfenbifpkkaa", sum := "faa5c6eb7d6841e0b848f04f1a54acf3f67af8744d62783080c95f30fd3833d2", func := "rota/rotalaw06.WordFinds", spec := "wordFinds", apart := false, narrowed := true }
def WordFindsUptoSaid : Prop := wordFindsUptoRow.holds Try.pinned (OpenSpec.upto wordFindsSpec)

/-- 'rotalaw06.WordTells', WHERE WHAT IT READS IS OF BULK AT MOST 1048576: true; the input reads as it did. -/
def wordTellsUptoRow : OpenClaim := { program := "yteggfenbifpkkaa", sum := "faa5c6eb7d6841e0b848f04f1a54acf3f67af8744d62783080c95f30fd3833d2", func := "rota/rotalaw06.WordTells", spec := "wordTells", apart := false, narrowed := true }
def WordTellsUptoSaid : Prop := wordTellsUptoRow.holds Try.pinned (OpenSpec.upto wordTellsSpec)

/-- 'rotalaw06.WordCosts', WHERE WHAT IT READS IS OF BULK AT MOST 1048576: true; the input reads as it did. -/
def wordCostsUptoRow : OpenClaim := { program := "yteggfenbifpkkaa", sum := "faa5c6eb7d6841e0b848f04f1a54acf3f67af8744d62783080c95f30fd3833d2", func := "rota/rotalaw06.WordCosts", spec := "wordCosts", apart := false, narrowed := true }
def WordCostsUptoSaid : Prop := wordCostsUptoRow.holds Try.pinned (OpenSpec.upto wordCostsSpec)

/-- 'rotalaw06.WordDecodes', WHERE WHAT IT READS IS OF BULK AT MOST 1048576: true; the input reads as it did. -/
def wordDecodesUptoRow : OpenClaim := { program := "yteggfenbifpkkaa", sum := "faa5c6eb7d6841e0b848f04f1a54acf3f67af8744d62783080c95f30fd3833d2", func := "rota/rotalaw06.WordDecodes", spec := "wordDecodes", apart := false, narrowed := true }
def WordDecodesUptoSaid : Prop := wordDecodesUptoRow.holds Try.pinned (OpenSpec.upto wordDecodesSpec)

/-- 'rotalaw06.WordOne', WHERE WHAT IT READS IS OF BULK AT MOST 1048576: true; the input reads as it did. -/
def wordOneUptoRow : OpenClaim := { program := "yteggfenbifpkkaa", sum := "faa5c6eb7d6841e0b848f04f1a54acf3f67af8744d62783080c95f30fd3833d2", func := "rota/rotalaw06.WordOne", spec := "wordOne", apart := false, narrowed := true }
def WordOneUptoSaid : Prop := wordOneUptoRow.holds Try.pinned (OpenSpec.upto wordOneSpec)

/-- 'rotalaw06.WordFields', WHERE WHAT IT READS IS OF BULK AT MOST 1048576: true; the input reads as it did. -/
def wordFieldsUptoRow : OpenClaim := { program := "yteggfenbifpkkaa", sum := "faa5c6eb7d6841e0b848f04f1a54acf3f67af8744d62783080c95f30fd3833d2", func := "rota/rotalaw06.WordFields", spec := "wordFields", apart := false, narrowed := true }
def WordFieldsUptoSaid : Prop := wordFieldsUptoRow.holds Try.pinned (OpenSpec.upto wordFieldsSpec)

/-- 'rotalaw06.WordUses', WHERE WHAT IT READS IS OF BULK AT MOST 1048576: true; the input reads as it did. -/
def wordUsesUptoRow : OpenClaim := { program := "yteggfenbifpkkaa", sum := "faa5c6eb7d6841e0b848f04f1a54acf3f67af8744d62783080c95f30fd3833d2", func := "rota/rotalaw06.WordUses", spec := "wordUses", apart := false, narrowed := true }
def WordUsesUptoSaid : Prop := wordUsesUptoRow.holds Try.pinned (OpenSpec.upto wordUsesSpec)

/-- 'rotalaw06.WordBack', WHERE WHAT IT READS IS OF BULK AT MOST 1048576: true; the input reads as it did. -/
def wordBackUptoRow : OpenClaim := { program := "yteggfenbifpkkaa", sum := "faa5c6eb7d6841e0b848f04f1a54acf3f67af8744d62783080c95f30fd3833d2", func := "rota/rotalaw06.WordBack", spec := "wordBack", apart := false, narrowed := true }
def WordBackUptoSaid : Prop := wordBackUptoRow.holds Try.pinned (OpenSpec.upto wordBackSpec)

end Rows
end Go.Proofs.Yteggfenbifpkkaa
