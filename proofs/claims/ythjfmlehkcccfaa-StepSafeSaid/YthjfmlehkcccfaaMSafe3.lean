import Derived.Test.YthjfmlehkcccfaaProg
import Derived.WalkKit
import Derived.WalkLawsBesides
import Derived.Below
import Derived.IntWalk
import Derived.Laws.Tables
import Derived.Laws.Rows
import Derived.Laws.CopyOwn
import Derived.Outline
import Derived.Test.YthjfmlehkcccfaaWMore
import Derived.Lib.Hide
import Derived.Test.YthjfmlehkcccfaaMSafe1
section
/-
  The table of package word as plain data; the calls of word.table come to it; laws for a run of pure operations at once.
-/
namespace Go.Proofs.Ythjfmlehkcccfaa.Htab
open Go.RowKit

/-! ### operations that neither read nor write memory, a whole list of them at once -/
def quiet {α : Type} (P : Program) : Sem α → Option α
  | .pure a => some a
  | .program k => quiet P (k P)
  | .mark _ k => quiet P k
  | _ => none
theorem quiet_run {α : Type} {P : Program} : ∀ {s : Sem α} {a : α}, quiet P s = some a → ∀ w, s.run P w = .ok a w
  | .pure _, _, h, w => by simp only [quiet, Option.some.injEq] at h; subst h; rfl
  | .program k, _, h, w => by simp only [quiet] at h; exact quiet_run (s := k P) h w
  | .mark _ k, _, h, w => by simp only [quiet] at h; exact quiet_run (s := k) h w
def quietOps (P : Program) : List Oper → Act → Option Act
  | [], a => some a
  | o :: rest, a => match o.guard with
    | some _ => none
    | none => match quiet P (execOp a.eval o) with
      | some (.value v) => quietOps P rest (a.put o.dst v)
      | _ => none
theorem wpList_quiet {P : Program} {ops : Array Oper} {Q : Exit → Act → World → Prop} {rest : List Oper} {a' : Act} {w : World} :
    ∀ (os : List Oper) (a : Act), quietOps P os a = some a' → wpList P ops Q rest a' w → wpList P ops Q (os ++ rest) a w
  | [], a, h, k => by simp only [quietOps, Option.some.injEq] at h; subst h; exact k
  | o :: os, a, h, k => by
    simp only [quietOps] at h
    split at h
    · cases h
    · rename_i hg
      split at h
      · rename_i v hv
        refine wpList_plain hg fun K hK => ?_
        unfold Oper.wp
        rw [quiet_run hv w, Oper.upon_value]
        exact hK _ _ (wpList_quiet os _ h k)
      · cases h

def rows : List (ByteArray × Int × Int × ByteArray × ByteArray) :=
  [(⟨#[110, 111, 112]⟩, 0, 1, ⟨#[]⟩, ⟨#[]⟩),
   (⟨#[115, 101, 116]⟩, 6, 1, ⟨#[]⟩, ⟨#[97]⟩),
   (⟨#[104, 105, 103, 104]⟩, 5, 1, ⟨#[97]⟩, ⟨#[97]⟩),
   (⟨#[109, 111, 118, 101]⟩, 2, 1, ⟨#[98]⟩, ⟨#[97]⟩),
   (⟨#[97, 100, 100]⟩, 3, 1, ⟨#[98, 99]⟩, ⟨#[97]⟩),
   (⟨#[115, 117, 98]⟩, 3, 1, ⟨#[98, 99]⟩, ⟨#[97]⟩),
   (⟨#[109, 117, 108]⟩, 3, 3, ⟨#[98, 99]⟩, ⟨#[97]⟩),
   (⟨#[100, 105, 118]⟩, 3, 8, ⟨#[98, 99]⟩, ⟨#[97]⟩),
   (⟨#[114, 101, 109]⟩, 3, 8, ⟨#[98, 99]⟩, ⟨#[97]⟩),
   (⟨#[97, 110, 100]⟩, 3, 1, ⟨#[98, 99]⟩, ⟨#[97]⟩),
   (⟨#[111, 114]⟩, 3, 1, ⟨#[98, 99]⟩, ⟨#[97]⟩),
   (⟨#[120, 111, 114]⟩, 3, 1, ⟨#[98, 99]⟩, ⟨#[97]⟩),
   (⟨#[115, 104, 108]⟩, 3, 1, ⟨#[98, 99]⟩, ⟨#[97]⟩),
   (⟨#[115, 104, 114]⟩, 3, 1, ⟨#[98, 99]⟩, ⟨#[97]⟩),
   (⟨#[108, 101, 115, 115]⟩, 3, 1, ⟨#[98, 99]⟩, ⟨#[97]⟩),
   (⟨#[101, 113, 117, 97, 108]⟩, 3, 1, ⟨#[98, 99]⟩, ⟨#[97]⟩),
   (⟨#[106, 117, 109, 112]⟩, 4, 1, ⟨#[]⟩, ⟨#[]⟩),
   (⟨#[122, 101, 114, 111]⟩, 5, 1, ⟨#[97]⟩, ⟨#[]⟩),
   (⟨#[115, 111, 109, 101]⟩, 5, 1, ⟨#[97]⟩, ⟨#[]⟩),
   (⟨#[99, 97, 108, 108]⟩, 4, 2, ⟨#[]⟩, ⟨#[]⟩),
   (⟨#[114, 101, 116]⟩, 0, 2, ⟨#[]⟩, ⟨#[]⟩),
   (⟨#[115, 112, 97, 119, 110]⟩, 5, 4, ⟨#[97, 108, 108]⟩, ⟨#[97]⟩),
   (⟨#[121, 105, 101, 108, 100]⟩, 0, 1, ⟨#[]⟩, ⟨#[]⟩),
   (⟨#[101, 120, 105, 116]⟩, 0, 1, ⟨#[]⟩, ⟨#[]⟩),
   (⟨#[115, 101, 108, 102]⟩, 1, 1, ⟨#[]⟩, ⟨#[97]⟩),
   (⟨#[110, 111, 119]⟩, 1, 1, ⟨#[]⟩, ⟨#[97]⟩),
   (⟨#[115, 108, 101, 101, 112]⟩, 1, 1, ⟨#[97]⟩, ⟨#[]⟩),
   (⟨#[109, 97, 107, 101]⟩, 2, 4, ⟨#[98]⟩, ⟨#[97]⟩),
   (⟨#[115, 101, 110, 100]⟩, 2, 2, ⟨#[97, 98]⟩, ⟨#[]⟩),
   (⟨#[114, 101, 99, 118]⟩, 3, 2, ⟨#[99]⟩, ⟨#[97, 98]⟩),
   (⟨#[99, 108, 111, 115, 101]⟩, 1, 2, ⟨#[97]⟩, ⟨#[]⟩),
   (⟨#[108, 101, 110]⟩, 2, 1, ⟨#[98]⟩, ⟨#[97]⟩),
   (⟨#[99, 97, 112]⟩, 2, 1, ⟨#[98]⟩, ⟨#[97]⟩),
   (⟨#[115, 101, 108, 101, 99, 116]⟩, 5, 4, ⟨#[97, 108, 108]⟩, ⟨#[97, 108, 108]⟩),
   (⟨#[108, 111, 99, 107]⟩, 1, 2, ⟨#[97]⟩, ⟨#[]⟩),
   (⟨#[117, 110, 108, 111, 99, 107]⟩, 1, 2, ⟨#[97]⟩, ⟨#[]⟩),
   (⟨#[114, 108, 111, 99, 107]⟩, 1, 2, ⟨#[97]⟩, ⟨#[]⟩),
   (⟨#[114, 117, 110, 108, 111, 99, 107]⟩, 1, 2, ⟨#[97]⟩, ⟨#[]⟩),
   (⟨#[119, 97, 100, 100]⟩, 2, 2, ⟨#[97, 98]⟩, ⟨#[]⟩),
   (⟨#[119, 100, 111, 110, 101]⟩, 1, 2, ⟨#[97]⟩, ⟨#[]⟩),
   (⟨#[119, 119, 97, 105, 116]⟩, 1, 2, ⟨#[97]⟩, ⟨#[]⟩),
   (⟨#[99, 119, 97, 105, 116]⟩, 2, 3, ⟨#[97, 98]⟩, ⟨#[]⟩),
   (⟨#[115, 105, 103, 110, 97, 108]⟩, 1, 2, ⟨#[97]⟩, ⟨#[]⟩),
   (⟨#[98, 114, 111, 97, 100, 99, 97, 115, 116]⟩, 1, 3, ⟨#[97]⟩, ⟨#[]⟩),
   (⟨#[97, 99, 113, 117, 105, 114, 101]⟩, 1, 2, ⟨#[97]⟩, ⟨#[]⟩),
   (⟨#[114, 101, 108, 101, 97, 115, 101]⟩, 1, 2, ⟨#[97]⟩, ⟨#[]⟩),
   (⟨#[108, 111, 97, 100]⟩, 2, 2, ⟨#[98]⟩, ⟨#[97]⟩),
   (⟨#[115, 116, 111, 114, 101]⟩, 2, 2, ⟨#[97, 98]⟩, ⟨#[]⟩),
   (⟨#[115, 119, 97, 112]⟩, 3, 3, ⟨#[97, 98, 99]⟩, ⟨#[97]⟩),
   (⟨#[102, 101, 116, 99, 104]⟩, 3, 3, ⟨#[98, 99]⟩, ⟨#[97]⟩),
   (⟨#[105, 110, 112, 117, 116]⟩, 2, 2, ⟨#[]⟩, ⟨#[97, 98]⟩),
   (⟨#[111, 117, 116, 112, 117, 116]⟩, 1, 2, ⟨#[97]⟩, ⟨#[]⟩),
   (⟨#[112, 117, 116]⟩, 3, 2, ⟨#[97, 98]⟩, ⟨#[99]⟩),
   (⟨#[103, 101, 116]⟩, 3, 2, ⟨#[99]⟩, ⟨#[97, 98]⟩),
   (⟨#[97, 102, 116, 101, 114]⟩, 3, 3, ⟨#[98, 99]⟩, ⟨#[97]⟩),
   (⟨#[101, 118, 101, 114, 121]⟩, 3, 3, ⟨#[98, 99]⟩, ⟨#[97]⟩),
   (⟨#[115, 116, 111, 112]⟩, 2, 2, ⟨#[98]⟩, ⟨#[97]⟩),
   (⟨#[116, 114, 97, 112]⟩, 4, 1, ⟨#[]⟩, ⟨#[]⟩)]
def T58 : Array Value :=
  #[.string ⟨#[110, 111, 112]⟩, .int .i64 0, .int .i64 1, .string ⟨#[]⟩, .string ⟨#[]⟩,
    .string ⟨#[115, 101, 116]⟩, .int .i64 6, .int .i64 1, .string ⟨#[]⟩, .string ⟨#[97]⟩,
    .string ⟨#[104, 105, 103, 104]⟩, .int .i64 5, .int .i64 1, .string ⟨#[97]⟩, .string ⟨#[97]⟩,
    .string ⟨#[109, 111, 118, 101]⟩, .int .i64 2, .int .i64 1, .string ⟨#[98]⟩, .string ⟨#[97]⟩,
    .string ⟨#[97, 100, 100]⟩, .int .i64 3, .int .i64 1, .string ⟨#[98, 99]⟩, .string ⟨#[97]⟩,
    .string ⟨#[115, 117, 98]⟩, .int .i64 3, .int .i64 1, .string ⟨#[98, 99]⟩, .string ⟨#[97]⟩,
    .string ⟨#[109, 117, 108]⟩, .int .i64 3, .int .i64 3, .string ⟨#[98, 99]⟩, .string ⟨#[97]⟩,
    .string ⟨#[100, 105, 118]⟩, .int .i64 3, .int .i64 8, .string ⟨#[98, 99]⟩, .string ⟨#[97]⟩,
    .string ⟨#[114, 101, 109]⟩, .int .i64 3, .int .i64 8, .string ⟨#[98, 99]⟩, .string ⟨#[97]⟩,
    .string ⟨#[97, 110, 100]⟩, .int .i64 3, .int .i64 1, .string ⟨#[98, 99]⟩, .string ⟨#[97]⟩,
    .string ⟨#[111, 114]⟩, .int .i64 3, .int .i64 1, .string ⟨#[98, 99]⟩, .string ⟨#[97]⟩,
    .string ⟨#[120, 111, 114]⟩, .int .i64 3, .int .i64 1, .string ⟨#[98, 99]⟩, .string ⟨#[97]⟩,
    .string ⟨#[115, 104, 108]⟩, .int .i64 3, .int .i64 1, .string ⟨#[98, 99]⟩, .string ⟨#[97]⟩,
    .string ⟨#[115, 104, 114]⟩, .int .i64 3, .int .i64 1, .string ⟨#[98, 99]⟩, .string ⟨#[97]⟩,
    .string ⟨#[108, 101, 115, 115]⟩, .int .i64 3, .int .i64 1, .string ⟨#[98, 99]⟩, .string ⟨#[97]⟩,
    .string ⟨#[101, 113, 117, 97, 108]⟩, .int .i64 3, .int .i64 1, .string ⟨#[98, 99]⟩, .string ⟨#[97]⟩,
    .string ⟨#[106, 117, 109, 112]⟩, .int .i64 4, .int .i64 1, .string ⟨#[]⟩, .string ⟨#[]⟩,
    .string ⟨#[122, 101, 114, 111]⟩, .int .i64 5, .int .i64 1, .string ⟨#[97]⟩, .string ⟨#[]⟩,
    .string ⟨#[115, 111, 109, 101]⟩, .int .i64 5, .int .i64 1, .string ⟨#[97]⟩, .string ⟨#[]⟩,
    .string ⟨#[99, 97, 108, 108]⟩, .int .i64 4, .int .i64 2, .string ⟨#[]⟩, .string ⟨#[]⟩,
    .string ⟨#[114, 101, 116]⟩, .int .i64 0, .int .i64 2, .string ⟨#[]⟩, .string ⟨#[]⟩,
    .string ⟨#[115, 112, 97, 119, 110]⟩, .int .i64 5, .int .i64 4, .string ⟨#[97, 108, 108]⟩, .string ⟨#[97]⟩,
    .string ⟨#[121, 105, 101, 108, 100]⟩, .int .i64 0, .int .i64 1, .string ⟨#[]⟩, .string ⟨#[]⟩,
    .string ⟨#[101, 120, 105, 116]⟩, .int .i64 0, .int .i64 1, .string ⟨#[]⟩, .string ⟨#[]⟩,
    .string ⟨#[115, 101, 108, 102]⟩, .int .i64 1, .int .i64 1, .string ⟨#[]⟩, .string ⟨#[97]⟩,
    .string ⟨#[110, 111, 119]⟩, .int .i64 1, .int .i64 1, .string ⟨#[]⟩, .string ⟨#[97]⟩,
    .string ⟨#[115, 108, 101, 101, 112]⟩, .int .i64 1, .int .i64 1, .string ⟨#[97]⟩, .string ⟨#[]⟩,
    .string ⟨#[109, 97, 107, 101]⟩, .int .i64 2, .int .i64 4, .string ⟨#[98]⟩, .string ⟨#[97]⟩,
    .string ⟨#[115, 101, 110, 100]⟩, .int .i64 2, .int .i64 2, .string ⟨#[97, 98]⟩, .string ⟨#[]⟩,
    .string ⟨#[114, 101, 99, 118]⟩, .int .i64 3, .int .i64 2, .string ⟨#[99]⟩, .string ⟨#[97, 98]⟩,
    .string ⟨#[99, 108, 111, 115, 101]⟩, .int .i64 1, .int .i64 2, .string ⟨#[97]⟩, .string ⟨#[]⟩,
    .string ⟨#[108, 101, 110]⟩, .int .i64 2, .int .i64 1, .string ⟨#[98]⟩, .string ⟨#[97]⟩,
    .string ⟨#[99, 97, 112]⟩, .int .i64 2, .int .i64 1, .string ⟨#[98]⟩, .string ⟨#[97]⟩,
    .string ⟨#[115, 101, 108, 101, 99, 116]⟩, .int .i64 5, .int .i64 4, .string ⟨#[97, 108, 108]⟩, .string ⟨#[97, 108, 108]⟩,
    .string ⟨#[108, 111, 99, 107]⟩, .int .i64 1, .int .i64 2, .string ⟨#[97]⟩, .string ⟨#[]⟩,
    .string ⟨#[117, 110, 108, 111, 99, 107]⟩, .int .i64 1, .int .i64 2, .string ⟨#[97]⟩, .string ⟨#[]⟩,
    .string ⟨#[114, 108, 111, 99, 107]⟩, .int .i64 1, .int .i64 2, .string ⟨#[97]⟩, .string ⟨#[]⟩,
    .string ⟨#[114, 117, 110, 108, 111, 99, 107]⟩, .int .i64 1, .int .i64 2, .string ⟨#[97]⟩, .string ⟨#[]⟩,
    .string ⟨#[119, 97, 100, 100]⟩, .int .i64 2, .int .i64 2, .string ⟨#[97, 98]⟩, .string ⟨#[]⟩,
    .string ⟨#[119, 100, 111, 110, 101]⟩, .int .i64 1, .int .i64 2, .string ⟨#[97]⟩, .string ⟨#[]⟩,
    .string ⟨#[119, 119, 97, 105, 116]⟩, .int .i64 1, .int .i64 2, .string ⟨#[97]⟩, .string ⟨#[]⟩,
    .string ⟨#[99, 119, 97, 105, 116]⟩, .int .i64 2, .int .i64 3, .string ⟨#[97, 98]⟩, .string ⟨#[]⟩,
    .string ⟨#[115, 105, 103, 110, 97, 108]⟩, .int .i64 1, .int .i64 2, .string ⟨#[97]⟩, .string ⟨#[]⟩,
    .string ⟨#[98, 114, 111, 97, 100, 99, 97, 115, 116]⟩, .int .i64 1, .int .i64 3, .string ⟨#[97]⟩, .string ⟨#[]⟩,
    .string ⟨#[97, 99, 113, 117, 105, 114, 101]⟩, .int .i64 1, .int .i64 2, .string ⟨#[97]⟩, .string ⟨#[]⟩,
    .string ⟨#[114, 101, 108, 101, 97, 115, 101]⟩, .int .i64 1, .int .i64 2, .string ⟨#[97]⟩, .string ⟨#[]⟩,
    .string ⟨#[108, 111, 97, 100]⟩, .int .i64 2, .int .i64 2, .string ⟨#[98]⟩, .string ⟨#[97]⟩,
    .string ⟨#[115, 116, 111, 114, 101]⟩, .int .i64 2, .int .i64 2, .string ⟨#[97, 98]⟩, .string ⟨#[]⟩,
    .string ⟨#[115, 119, 97, 112]⟩, .int .i64 3, .int .i64 3, .string ⟨#[97, 98, 99]⟩, .string ⟨#[97]⟩,
    .string ⟨#[102, 101, 116, 99, 104]⟩, .int .i64 3, .int .i64 3, .string ⟨#[98, 99]⟩, .string ⟨#[97]⟩,
    .string ⟨#[105, 110, 112, 117, 116]⟩, .int .i64 2, .int .i64 2, .string ⟨#[]⟩, .string ⟨#[97, 98]⟩,
    .string ⟨#[111, 117, 116, 112, 117, 116]⟩, .int .i64 1, .int .i64 2, .string ⟨#[97]⟩, .string ⟨#[]⟩,
    .string ⟨#[112, 117, 116]⟩, .int .i64 3, .int .i64 2, .string ⟨#[97, 98]⟩, .string ⟨#[99]⟩,
    .string ⟨#[103, 101, 116]⟩, .int .i64 3, .int .i64 2, .string ⟨#[99]⟩, .string ⟨#[97, 98]⟩,
    .string ⟨#[97, 102, 116, 101, 114]⟩, .int .i64 3, .int .i64 3, .string ⟨#[98, 99]⟩, .string ⟨#[97]⟩,
    .string ⟨#[101, 118, 101, 114, 121]⟩, .int .i64 3, .int .i64 3, .string ⟨#[98, 99]⟩, .string ⟨#[97]⟩,
    .string ⟨#[115, 116, 111, 112]⟩, .int .i64 2, .int .i64 2, .string ⟨#[98]⟩, .string ⟨#[97]⟩,
    .string ⟨#[116, 114, 97, 112]⟩, .int .i64 4, .int .i64 1, .string ⟨#[]⟩, .string ⟨#[]⟩]
def Z58 : Array Value := (Array.replicate 58 #[.string ⟨#[]⟩, .int .i64 0, .int .i64 0, .string ⟨#[]⟩, .string ⟨#[]⟩]).flatten
def opsOfRegion : Code → List Oper
  | .region _ ops _ => ops.toList
  | _ => []
def first : Code → Code
  | .seq a _ => a
  | c => c
def second : Code → Code
  | .seq _ b => b
  | c => c
noncomputable def bodyTable : Code := Try.f58.body.getD .skip
noncomputable def opsA : List Oper := opsOfRegion (first bodyTable)
noncomputable def opsB : List Oper := opsOfRegion (first (second bodyTable))
noncomputable def act0 : Act := { tmps := Array.replicate 60 undef, defers := [] }
noncomputable def actA (B : Nat) : Act := act0.put (some 0) (.pointer (some ⟨B, 0, none⟩))
noncomputable def actB (B : Nat) : Act := (quietOps Try.prog (opsB.take 59) (actA B)).getD act0

set_option maxHeartbeats 1000000 in
set_option maxRecDepth 100000 in
theorem table_calls (w : World) :
    Calls Try.prog 58 #[] w fun e w' => e = .returned (.agg T58) ∧ Below w.heap.size w w' := by
  have hbody : Try.f58.body = some (.seq (.region 0 opsA.toArray false) (.seq (.region 1 (opsB.take 59 ++ opsB.drop 59).toArray false) .ret)) := by kernel_rfl
  have hA : opsA = [opsA.headD default] := by kernel_rfl
  have hAr : ∀ W : World, (execOp act0.eval (opsA.headD default)).run Try.prog W = .ok (.value (.pointer (some ⟨W.heap.size, 0, none⟩))) (W.alloc (.cells Z58 111)) := fun W => by kernel_rfl
  have hAg : (opsA.headD default).guard = none := by kernel_rfl
  have hAd : (opsA.headD default).dst = some 0 := by kernel_rfl
  have hB : ∀ B, quietOps Try.prog (opsB.take 59) (actA B) = some (actB B) := fun B => by kernel_rfl
  have hB0 : ∀ B, (actB B).tmps.getD 0 undef = .pointer (some ⟨B, 0, none⟩) := fun B => by kernel_rfl
  have hB1 : ∀ B, (actB B).tmps.getD 59 undef = .agg T58 := fun B => by kernel_rfl
  have hB2 : ∀ B, (actB B).defers = [] := fun B => by kernel_rfl
  have hC : opsB.drop 59 = [(opsB.drop 59).headD default] := by kernel_rfl
  have hCo : ((opsB.drop 59).headD default).op = .store 111 (.tmp 0) (.tmp 59) := by kernel_rfl
  have hCg : ((opsB.drop 59).headD default).guard = none := by kernel_rfl
  have hCd : ((opsB.drop 59).headD default).dst = none := by kernel_rfl
  have hn : Try.f58.ntmps = 60 := by kernel_rfl
  have hact : (⟨#[] ++ Array.replicate (Try.f58.ntmps - (#[] : Array Value).size) undef, []⟩ : Act) = act0 := by kernel_rfl
  have hres : Try.f58.results = #[.cell 0 111] := by kernel_rfl
  refine calls_of_wp Try.func58 hbody ?_
  rw [hact]
  refine wp_seq (wp_region_list ?_)
  rw [List.toList_toArray]
  generalize hAeq : opsA.headD default = oA at *
  rw [hA]
  refine wpList_plain hAg fun K hK => ?_
  unfold Oper.wp
  rw [hAr w, Oper.upon_value, hAd]
  refine hK _ _ (wpList_nil ?_)
  show Code.wp _ _ _ _ _
  refine wp_seq (wp_region_list ?_)
  rw [List.toList_toArray]
  refine wpList_quiet _ _ (hB w.heap.size) ?_
  rw [hC]
  refine wpList_store_row hCg 111 (.tmp 0) (.tmp 59) hCo w.heap.size T58 (hB0 _) (hB1 _) 111 Z58 (heap_alloc_new _ _) (by kernel_rfl) (by kernel_rfl) (by kernel_rfl) ?_
  rw [hCd]
  refine wpList_nil ?_
  refine wp_ret ?_
  refine bodyPost_ret (results_cell_row hres _ _ w.heap.size 111 T58 (0, 0) _ (hB0 _) (setRow_heap _ _ _ _ _ _ (heap_alloc_new _ _)) Try.underlying111 rfl (by kernel_rfl)) (hB2 _) ⟨rfl, ?_⟩
  exact below_setRow ((Below.refl _ _).alloc (Nat.le_refl _) _) (Nat.le_refl _) _
end Go.Proofs.Ythjfmlehkcccfaa.Htab
end

section
/-
  What word.find, word.Find and word.mask come to.
-/
namespace Go.Proofs.Ythjfmlehkcccfaa.Hfind
open Go.RowKit Go.Proofs.Ythjfmlehkcccfaa.Htab Go.Proofs.YthjfmlehkcccfaaW.PrintWords

def row0 : ByteArray × Int × Int × ByteArray × ByteArray := (⟨#[]⟩, 0, 0, ⟨#[]⟩, ⟨#[]⟩)
def rowAt (k : Nat) : ByteArray × Int × Int × ByteArray × ByteArray := rows.getD k row0
def cellsOf (r : ByteArray × Int × Int × ByteArray × ByteArray) : Array Value := #[.string r.1, .int .i64 r.2.1, .int .i64 r.2.2.1, .string r.2.2.2.1, .string r.2.2.2.2]

theorem of_range {α : Type} (n : Nat) (f g : Nat → α) (h : (List.range n).map f = (List.range n).map g) (k : Nat) (hk : k < n) : f k = g k := by
  have := congrArg (fun l => l[k]?) h
  simpa [List.getElem?_map, List.getElem?_range hk] using this
theorem extract_at (k : Nat) (hk : k < 58) : T58.extract (k * 5) (k * 5 + 5) = cellsOf (rowAt k) :=
  of_range 58 (fun k => T58.extract (k * 5) (k * 5 + 5)) (fun k => cellsOf (rowAt k)) (by kernel_rfl) k hk
theorem index_at (k : Nat) (hk : k < 58) (w : World) : (Instr.index 111 (.agg T58) (.int .i64 k)).run Try.prog w = .ok (.agg (cellsOf (rowAt k))) w := by
  have h1 : ∀ w, ((sizeOf 102).run Try.prog w) = .ok 5 w := fun w => by kernel_rfl
  have h2 : ∀ w, ((isAgg 102).run Try.prog w) = .ok true w := fun w => by kernel_rfl
  have h3 := extract_at k hk
  have h4 : (k : Int) < 58 := by omega
  have hx : ∀ j : Int, 0 ≤ j → j < 58 → (Instr.index 111 (.agg T58) (.int .i64 j)).run Try.prog w = .ok (.agg (T58.extract (j.toNat * 5) (j.toNat * 5 + 5))) w := by
    intro j h0 h1'
    simp [Instr.index, asIntOf, run_underlying Try.underlying111, part, h1, h2, h0, h1']
  rw [hx k (by omega) h4, Int.toNat_natCast, h3]

theorem bcell {W w1 : World} (hb : Below W.heap.size W w1) : (∀ b o, b < W.heap.size → w1.cell? ⟨b, o, none⟩ = W.cell? ⟨b, o, none⟩) ∧ (∀ b o, b < W.heap.size → w1.frozen? ⟨b, o, none⟩ = W.frozen? ⟨b, o, none⟩) :=
  ⟨fun b o h => hb.cell (p := ⟨b, o, none⟩) h, fun b o h => hb.frozen (p := ⟨b, o, none⟩) h⟩

set_option maxHeartbeats 1000000 in
set_option maxRecDepth 100000 in
theorem find_in (k : Nat) (hk : k < 58) (w : World) :
    Calls Try.prog 51 #[.int .i64 (k + 1)] w fun e w' => e = .returned (.tuple #[.agg (cellsOf (rowAt k)), .int .i64 0]) ∧ Below w.heap.size w w' := by
  have hu := Try.underlying102
  have g0 : (0 : Int) ≤ k := by omega
  have g1 : (k : Int) < 58 := by omega
  have ix : ∀ w : World, (Instr.index 111 (.agg T58) (.int .i64 k)).run Try.prog w = .ok (.agg #[.string (rowAt k).1, .int .i64 (rowAt k).2.1, .int .i64 (rowAt k).2.2.1, .string (rowAt k).2.2.2.1, .string (rowAt k).2.2.2.2]) w := index_at k hk
  unfold cellsOf
  generalize rowAt k = r at ix ⊢
  go_enter Try.func51, Try.ntmps51
  go_wp2_with (first | (go_at_call 58; refine (table_calls _).mono ?_; rintro e w' ⟨rfl, hb⟩; obtain ⟨hc, hf⟩ := bcell hb))
  refine bodyPost_ret (results_ct rfl _ _ w.heap.size 102 #[.string r.1, .int .i64 r.2.1, .int .i64 r.2.2.1, .string r.2.2.2.1, .string r.2.2.2.2] (0, 0) _ rfl ?hb hu rfl (by kernel_rfl)) rfl ⟨rfl, ?_⟩
  case hb =>
    refine blk_put (cs := #[.string r.1, .int .i64 r.2.1, .int .i64 r.2.2.1, .string r.2.2.2.1, .string ⟨#[]⟩]) ?_ 4 _ rfl
    refine blk_put (cs := #[.string r.1, .int .i64 r.2.1, .int .i64 r.2.2.1, .string ⟨#[]⟩, .string ⟨#[]⟩]) ?_ 3 _ rfl
    refine blk_put (cs := #[.string r.1, .int .i64 r.2.1, .int .i64 0, .string ⟨#[]⟩, .string ⟨#[]⟩]) ?_ 2 _ rfl
    refine blk_put (cs := #[.string r.1, .int .i64 0, .int .i64 0, .string ⟨#[]⟩, .string ⟨#[]⟩]) ?_ 1 _ rfl
    refine blk_put (cs := #[.string ⟨#[]⟩, .int .i64 0, .int .i64 0, .string ⟨#[]⟩, .string ⟨#[]⟩]) ?_ 0 _ rfl
    exact blk_below (blk_new _ _) hb
  iterate 5 refine Below.setCell ?_ (Nat.le_refl w.heap.size) _
  refine Below.trans ((Below.refl w.heap.size w).alloc (Nat.le_refl _) _) (hb.mono ?_)
  rw [World.size_alloc]
  exact Nat.le_succ _

set_option maxHeartbeats 1000000 in
set_option maxRecDepth 100000 in
theorem find_out (n : Int) (h : n ≤ 0 ∨ 59 ≤ n) (w : World) :
    Calls Try.prog 51 #[.int .i64 n] w fun e w' => e = .returned (.tuple #[.agg (cellsOf row0), .int .i64 60]) ∧ Below w.heap.size w w' := by
  have hu := Try.underlying102
  unfold cellsOf row0
  rcases h with h | h
  all_goals
    go_enter Try.func51, Try.ntmps51
    go_wp2
    refine bodyPost_ret (results_ct rfl _ _ w.heap.size 102 #[.string ⟨#[]⟩, .int .i64 0, .int .i64 0, .string ⟨#[]⟩, .string ⟨#[]⟩] (0, 0) _ rfl ?_ hu rfl (by kernel_rfl)) rfl ⟨rfl, ?_⟩
    · exact blk_new _ _
    exact (Below.refl _ _).alloc (Nat.le_refl _) _
end Go.Proofs.Ythjfmlehkcccfaa.Hfind
end

section
-- laid by a program of this session (wip/gp.sh)
namespace Go.Proofs.Ythjfmlehkcccfaa.GA
open Go.RowKit Go.Proofs.YthjfmlehkcccfaaW.PrintWords Go.Proofs.YthjfmlehkcccfaaW.PrintLast Go.Proofs.YthjfmlehkcccfaaW.PrintMore
attribute [local go_sem] max2_int min2_int max_two min_two max_three min_three max_four min_four   -- for this text's walks alone
set_option linter.unusedVariables false
set_option linter.unusedSimpArgs false

/-! ### word_find: function 51 (its contract: by hand) -/
-- NEEDS Derived.Test.YthjfmlehkcccfaaHfind
-- its type: def word_find.f (a0 : Int) : Option (ByteArray × Int × Int × ByteArray × ByteArray × Int)
def word_find.f (a0 : Int) : Option (ByteArray × Int × Int × ByteArray × ByteArray × Int) :=
  if 1 ≤ a0 ∧ a0 ≤ 58 then some ((Hfind.rowAt (a0 - 1).toNat).1, (Hfind.rowAt (a0 - 1).toNat).2.1, (Hfind.rowAt (a0 - 1).toNat).2.2.1, (Hfind.rowAt (a0 - 1).toNat).2.2.2.1, (Hfind.rowAt (a0 - 1).toNat).2.2.2.2, 0)
  else some (⟨#[]⟩, 0, 0, ⟨#[]⟩, ⟨#[]⟩, 60)
set_option maxHeartbeats 8000000 in
set_option maxRecDepth 100000 in
theorem word_find.calls (a0 : Int) (r1 : ByteArray) (r2 : Int) (r3 : Int) (r4 : ByteArray) (r5 : ByteArray) (r6 : Int) (w : World) (h : word_find.f a0 = some (r1, r2, r3, r4, r5, r6)) :
    Calls Try.prog 51 #[.int .i64 a0] w fun e w' => e = .returned (.tuple #[.agg #[.string r1, .int .i64 r2, .int .i64 r3, .string r4, .string r5], .int .i64 r6]) ∧ Below w.heap.size w w' := by
  unfold word_find.f at h
  split at h
  · rename_i hr
    obtain ⟨k, hk⟩ : ∃ k : Nat, a0 - 1 = (k : Int) := ⟨(a0 - 1).toNat, by omega⟩
    obtain rfl : a0 = (k : Int) + 1 := by omega
    rw [hk, Int.toNat_natCast] at h
    simp only [Option.some.injEq, Prod.mk.injEq] at h
    obtain ⟨rfl, rfl, rfl, rfl, rfl, rfl⟩ := h
    exact Hfind.find_in k (by omega) w
  · rename_i hr
    simp only [Option.some.injEq, Prod.mk.injEq] at h
    obtain ⟨rfl, rfl, rfl, rfl, rfl, rfl⟩ := h
    exact Hfind.find_out a0 (by omega) w

end Go.Proofs.Ythjfmlehkcccfaa.GA
end
