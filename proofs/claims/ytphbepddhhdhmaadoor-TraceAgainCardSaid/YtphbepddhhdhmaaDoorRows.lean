/-
  NARROWER THAN 'FOR EVERY INPUT', by the rows' own cells (each row's printed sentence says how): TraceChecks: laid · TraceWhole: laid · TraceOwn: laid · TraceParts: laid · TracePrints: laid · TraceDigests: laid · TraceReads: laid · TraceBack: laid · TraceAgain: laid.
  DERIVED. THE GIVEN ROWS OF THIS SEAT. 9 by the template 'for every input the law returns true; each argument reads behind the call as it read before'; 0 by the template 'total and deterministic' (their statements: YtphbepddhhdhmaaDoorTotals.lean).
  GIVEN WITH THE SEED: the statements are not yours to turn. If you find one false, say at which input.
  Laid BY PROGRAM, IN A SANDBOX (cutbox-rows.mjs): the forced cells as the released guide's own fill.sh prints them over the translation 08f1f690f88ea030… (all of the seat's roots in one cut). By AI agents, Wed Nov 11 2026. No macro, syntax, notation, axiom, sorry.
-/
import Derived.Test.YtphbepddhhdhmaaDoorChecked
import GoSem.PinnedTables
import GoSem.Claim
import GoSem.ClaimJoined
import GoSem.ClaimMapViews
import Derived.JoinedTies
import Derived.KernelRfl
namespace Go.Proofs.YtphbepddhhdhmaaDoor
/- THE CELL 'sum', in the pinned program and in every row, IS THE sha256 OF THE DUMP (.gsa) THAT YtphbepddhhdhmaaDoorProg.lean LOADS. Nothing in Lean hashes anything: it is a label: what it is worth is what the hold of that sum in a sandbox is worth. -/
noncomputable def Tryd.pinned : Pinned := { name := "ytphbepddhhdhmaadoor", sum := "08f1f690f88ea0308289faf8cb5b95771f2c5d6ecfef40cb744bbc3efc32bf06", checked := Tryd.checked }
namespace Rows
def none {H : Type} : Left H := { results := [], args := [] }

/- WHAT THE LISTED PACKAGE-LEVEL VARIABLES READ AS WHEN THE CALL BEGINS. Each datum BY PROGRAM (the guide's laid-datum.mjs) off the statement by which the dump's own 'gosem.cut.vars' lays the variable. In a bare row this is a premise. The card (YtphbepddhhdhmaaDoorCards.lean) ties it to the program's text. -/
def laid_rota_trace_names {H : Type} : DataW H := .agg [.lit (.string [100, 105, 115, 112, 97, 116, 99, 104]), .lit (.string [98, 101, 103, 105, 110]), .lit (.string [100, 111, 110, 101]), .lit (.string [119, 97, 105, 116]), .lit (.string [114, 101, 97, 100, 121]), .lit (.string [115, 112, 97, 119, 110]), .lit (.string [121, 105, 101, 108, 100]), .lit (.string [112, 114, 101, 101, 109, 112, 116]), .lit (.string [108, 101, 97, 118, 101]), .lit (.string [101, 120, 105, 116]), .lit (.string [116, 114, 97, 112]), .lit (.string [111, 117, 116, 112, 117, 116]), .lit (.string [105, 110, 112, 117, 116]), .lit (.string [99, 108, 111, 99, 107]), .lit (.string [101, 114, 114, 111, 114]), .lit (.string [115, 101, 110, 100]), .lit (.string [114, 101, 99, 118]), .lit (.string [112, 105, 99, 107]), .lit (.string [99, 108, 111, 115, 101]), .lit (.string [108, 111, 99, 107]), .lit (.string [117, 110, 108, 111, 99, 107]), .lit (.string [103, 114, 111, 117, 112]), .lit (.string [106, 111, 105, 110]), .lit (.string [115, 105, 103, 110, 97, 108]), .lit (.string [97, 119, 97, 105, 116]), .lit (.string [97, 99, 113, 117, 105, 114, 101]), .lit (.string [114, 101, 108, 101, 97, 115, 101]), .lit (.string [108, 111, 97, 100]), .lit (.string [115, 116, 111, 114, 101]), .lit (.string [115, 119, 97, 112]), .lit (.string [102, 97, 105, 108]), .lit (.string [97, 100, 100]), .lit (.string [112, 117, 116]), .lit (.string [103, 101, 116]), .lit (.string [116, 105, 109, 101, 114]), .lit (.string [100, 101, 97, 100])]
def laid_math_bits_deBruijn32tab {H : Type} : DataW H := .agg [.lit (.int .u8 0), .lit (.int .u8 1), .lit (.int .u8 28), .lit (.int .u8 2), .lit (.int .u8 29), .lit (.int .u8 14), .lit (.int .u8 24), .lit (.int .u8 3), .lit (.int .u8 30), .lit (.int .u8 22), .lit (.int .u8 20), .lit (.int .u8 15), .lit (.int .u8 25), .lit (.int .u8 17), .lit (.int .u8 4), .lit (.int .u8 8), .lit (.int .u8 31), .lit (.int .u8 27), .lit (.int .u8 13), .lit (.int .u8 23), .lit (.int .u8 21), .lit (.int .u8 19), .lit (.int .u8 16), .lit (.int .u8 7), .lit (.int .u8 26), .lit (.int .u8 12), .lit (.int .u8 18), .lit (.int .u8 6), .lit (.int .u8 11), .lit (.int .u8 5), .lit (.int .u8 10), .lit (.int .u8 9)]
def laid_math_bits_deBruijn64tab {H : Type} : DataW H := .agg [.lit (.int .u8 0), .lit (.int .u8 1), .lit (.int .u8 56), .lit (.int .u8 2), .lit (.int .u8 57), .lit (.int .u8 49), .lit (.int .u8 28), .lit (.int .u8 3), .lit (.int .u8 61), .lit (.int .u8 58), .lit (.int .u8 42), .lit (.int .u8 50), .lit (.int .u8 38), .lit (.int .u8 29), .lit (.int .u8 17), .lit (.int .u8 4), .lit (.int .u8 62), .lit (.int .u8 47), .lit (.int .u8 59), .lit (.int .u8 36), .lit (.int .u8 45), .lit (.int .u8 43), .lit (.int .u8 51), .lit (.int .u8 22), .lit (.int .u8 53), .lit (.int .u8 39), .lit (.int .u8 33), .lit (.int .u8 30), .lit (.int .u8 24), .lit (.int .u8 18), .lit (.int .u8 12), .lit (.int .u8 5), .lit (.int .u8 63), .lit (.int .u8 55), .lit (.int .u8 48), .lit (.int .u8 27), .lit (.int .u8 60), .lit (.int .u8 41), .lit (.int .u8 37), .lit (.int .u8 16), .lit (.int .u8 46), .lit (.int .u8 35), .lit (.int .u8 44), .lit (.int .u8 21), .lit (.int .u8 52), .lit (.int .u8 32), .lit (.int .u8 23), .lit (.int .u8 11), .lit (.int .u8 54), .lit (.int .u8 26), .lit (.int .u8 40), .lit (.int .u8 15), .lit (.int .u8 34), .lit (.int .u8 20), .lit (.int .u8 31), .lit (.int .u8 10), .lit (.int .u8 25), .lit (.int .u8 14), .lit (.int .u8 19), .lit (.int .u8 9), .lit (.int .u8 13), .lit (.int .u8 8), .lit (.int .u8 7), .lit (.int .u8 6)]
def laid_internal_strconv_uint64pow10 {H : Type} : DataW H := .agg [.lit (.int .u64 1), .lit (.int .u64 10), .lit (.int .u64 100), .lit (.int .u64 1000), .lit (.int .u64 10000), .lit (.int .u64 100000), .lit (.int .u64 1000000), .lit (.int .u64 10000000), .lit (.int .u64 100000000), .lit (.int .u64 1000000000), .lit (.int .u64 10000000000), .lit (.int .u64 100000000000), .lit (.int .u64 1000000000000), .lit (.int .u64 10000000000000), .lit (.int .u64 100000000000000), .lit (.int .u64 1000000000000000), .lit (.int .u64 10000000000000000), .lit (.int .u64 100000000000000000), .lit (.int .u64 1000000000000000000), .lit (.int .u64 10000000000000000000)]
def laid_unicode_utf8_acceptRanges {H : Type} : DataW H := .agg [.agg [.lit (.int .u8 128), .lit (.int .u8 191)], .agg [.lit (.int .u8 160), .lit (.int .u8 191)], .agg [.lit (.int .u8 128), .lit (.int .u8 159)], .agg [.lit (.int .u8 144), .lit (.int .u8 191)], .agg [.lit (.int .u8 128), .lit (.int .u8 143)], .agg [.lit (.int .u8 0), .lit (.int .u8 0)], .agg [.lit (.int .u8 0), .lit (.int .u8 0)], .agg [.lit (.int .u8 0), .lit (.int .u8 0)], .agg [.lit (.int .u8 0), .lit (.int .u8 0)], .agg [.lit (.int .u8 0), .lit (.int .u8 0)], .agg [.lit (.int .u8 0), .lit (.int .u8 0)], .agg [.lit (.int .u8 0), .lit (.int .u8 0)], .agg [.lit (.int .u8 0), .lit (.int .u8 0)], .agg [.lit (.int .u8 0), .lit (.int .u8 0)], .agg [.lit (.int .u8 0), .lit (.int .u8 0)], .agg [.lit (.int .u8 0), .lit (.int .u8 0)]]
def laid_strconv_ErrRange {H : Type} : DataW H := .iface "*errors.errorString" (.ptr (.agg [.lit (.string [118, 97, 108, 117, 101, 32, 111, 117, 116, 32, 111, 102, 32, 114, 97, 110, 103, 101])]))
def laid_strconv_ErrSyntax {H : Type} : DataW H := .iface "*errors.errorString" (.ptr (.agg [.lit (.string [105, 110, 118, 97, 108, 105, 100, 32, 115, 121, 110, 116, 97, 120])]))
/-- One of Go's own tables, pinned by name: the form's constant. -/
def laid_unicode_utf8_first : DataW Unit := Go.Pinned.utf8First

/-- 'rotalaw25.TraceChecks': WHATEVER THE INPUT: true; the input reads as it did. -/
def traceChecksSpec : ChangeSpec := { name := "traceChecks", fn := fun _ => fun
  | [d1, d2] => { results := [.lit (.bool true)], args := [d1, d2] }
  | _ => none }
def traceChecksRow : OpenClaim := { program := "ytphbepddhhdhmaadoor", sum := "08f1f690f88ea0308289faf8cb5b95771f2c5d6ecfef40cb744bbc3efc32bf06", func := "rota/rotalaw25.TraceChecks", spec := "traceChecks", named := ["rota/trace.names"], apart := false, laid := [("rota/trace.names", laid_rota_trace_names)] }
def TraceChecksSaid : Prop := traceChecksRow.holds Tryd.pinned (OpenSpec.ofChange traceChecksSpec)

/-- ITS FALSE NEIGHBOUR: 'it returns false'. Refute it at one input. -/
def traceChecksWrong : ChangeSpec := { name := "traceChecks", fn := fun _ => fun
  | [d1, d2] => { results := [.lit (.bool false)], args := [d1, d2] }
  | _ => none }
def TraceChecksWrongFalsely : Prop := traceChecksRow.holds Tryd.pinned (OpenSpec.ofChange traceChecksWrong)

/-- 'rotalaw25.TraceWhole': WHATEVER THE INPUT: true; the input reads as it did. -/
def traceWholeSpec : ChangeSpec := { name := "traceWhole", fn := fun _ => fun
  | [d] => { results := [.lit (.bool true)], args := [d] }
  | _ => none }
def traceWholeRow : OpenClaim := { program := "ytphbepddhhdhmaadoor", sum := "08f1f690f88ea0308289faf8cb5b95771f2c5d6ecfef40cb744bbc3efc32bf06", func := "rota/rotalaw25.TraceWhole", spec := "traceWhole", unfollowed := true, recurses := true, named := ["rota/trace.names"], apart := false, laid := [("rota/trace.names", laid_rota_trace_names)] }
def TraceWholeSaid : Prop := traceWholeRow.holds Tryd.pinned (OpenSpec.ofChange traceWholeSpec)

/-- ITS FALSE NEIGHBOUR: 'it returns false'. Refute it at one input. -/
def traceWholeWrong : ChangeSpec := { name := "traceWhole", fn := fun _ => fun
  | [d] => { results := [.lit (.bool false)], args := [d] }
  | _ => none }
def TraceWholeWrongFalsely : Prop := traceWholeRow.holds Tryd.pinned (OpenSpec.ofChange traceWholeWrong)

/-- 'rotalaw25.TraceOwn': WHATEVER THE INPUT: true; the input reads as it did. -/
def traceOwnSpec : ChangeSpec := { name := "traceOwn", fn := fun _ => fun
  | [d1, d2, d3] => { results := [.lit (.bool true)], args := [d1, d2, d3] }
  | _ => none }
def traceOwnRow : OpenClaim := { program := "ytphbepddhhdhmaadoor", sum := "08f1f690f88ea0308289faf8cb5b95771f2c5d6ecfef40cb744bbc3efc32bf06", func := "rota/rotalaw25.TraceOwn", spec := "traceOwn", unfollowed := true, recurses := true, named := ["rota/trace.names"], apart := false, laid := [("rota/trace.names", laid_rota_trace_names)] }
def TraceOwnSaid : Prop := traceOwnRow.holds Tryd.pinned (OpenSpec.ofChange traceOwnSpec)

/-- ITS FALSE NEIGHBOUR: 'it returns false'. Refute it at one input. -/
def traceOwnWrong : ChangeSpec := { name := "traceOwn", fn := fun _ => fun
  | [d1, d2, d3] => { results := [.lit (.bool false)], args := [d1, d2, d3] }
  | _ => none }
def TraceOwnWrongFalsely : Prop := traceOwnRow.holds Tryd.pinned (OpenSpec.ofChange traceOwnWrong)

/-- 'rotalaw25.TraceParts': WHATEVER THE INPUT: true; the input reads as it did. -/
def tracePartsSpec : ChangeSpec := { name := "traceParts", fn := fun _ => fun
  | [d1, d2, d3] => { results := [.lit (.bool true)], args := [d1, d2, d3] }
  | _ => none }
def tracePartsRow : OpenClaim := { program := "ytphbepddhhdhmaadoor", sum := "08f1f690f88ea0308289faf8cb5b95771f2c5d6ecfef40cb744bbc3efc32bf06", func := "rota/rotalaw25.TraceParts", spec := "traceParts", unfollowed := true, recurses := true, named := ["rota/trace.names"], apart := false, laid := [("rota/trace.names", laid_rota_trace_names)] }
def TracePartsSaid : Prop := tracePartsRow.holds Tryd.pinned (OpenSpec.ofChange tracePartsSpec)

/-- ITS FALSE NEIGHBOUR: 'it returns false'. Refute it at one input. -/
def tracePartsWrong : ChangeSpec := { name := "traceParts", fn := fun _ => fun
  | [d1, d2, d3] => { results := [.lit (.bool false)], args := [d1, d2, d3] }
  | _ => none }
def TracePartsWrongFalsely : Prop := tracePartsRow.holds Tryd.pinned (OpenSpec.ofChange tracePartsWrong)

/-- 'rotalaw25.TracePrints': WHATEVER THE INPUT: true; the input reads as it did. -/
def tracePrintsSpec : ChangeSpec := { name := "tracePrints", fn := fun _ => fun
  | [d] => { results := [.lit (.bool true)], args := [d] }
  | _ => none }
def tracePrintsRow : OpenClaim := { program := "ytphbepddhhdhmaadoor", sum := "08f1f690f88ea0308289faf8cb5b95771f2c5d6ecfef40cb744bbc3efc32bf06", func := "rota/rotalaw25.TracePrints", spec := "tracePrints", recurses := true, named := ["rota/trace.names", "internal/strconv.uint64pow10", "math/bits.deBruijn32tab", "math/bits.deBruijn64tab"], apart := false, laid := [("math/bits.deBruijn32tab", laid_math_bits_deBruijn32tab), ("math/bits.deBruijn64tab", laid_math_bits_deBruijn64tab), ("internal/strconv.uint64pow10", laid_internal_strconv_uint64pow10), ("rota/trace.names", laid_rota_trace_names)] }
def TracePrintsSaid : Prop := tracePrintsRow.holds Tryd.pinned (OpenSpec.ofChange tracePrintsSpec)

/-- ITS FALSE NEIGHBOUR: 'it returns false'. Refute it at one input. -/
def tracePrintsWrong : ChangeSpec := { name := "tracePrints", fn := fun _ => fun
  | [d] => { results := [.lit (.bool false)], args := [d] }
  | _ => none }
def TracePrintsWrongFalsely : Prop := tracePrintsRow.holds Tryd.pinned (OpenSpec.ofChange tracePrintsWrong)

/-- 'rotalaw25.TraceDigests': WHATEVER THE INPUT: true; the input reads as it did. -/
def traceDigestsSpec : ChangeSpec := { name := "traceDigests", fn := fun _ => fun
  | [d] => { results := [.lit (.bool true)], args := [d] }
  | _ => none }
def traceDigestsRow : OpenClaim := { program := "ytphbepddhhdhmaadoor", sum := "08f1f690f88ea0308289faf8cb5b95771f2c5d6ecfef40cb744bbc3efc32bf06", func := "rota/rotalaw25.TraceDigests", spec := "traceDigests", recurses := true, named := ["rota/trace.names", "internal/strconv.uint64pow10", "math/bits.deBruijn32tab", "math/bits.deBruijn64tab"], apart := false, laid := [("math/bits.deBruijn32tab", laid_math_bits_deBruijn32tab), ("math/bits.deBruijn64tab", laid_math_bits_deBruijn64tab), ("internal/strconv.uint64pow10", laid_internal_strconv_uint64pow10), ("rota/trace.names", laid_rota_trace_names)] }
def TraceDigestsSaid : Prop := traceDigestsRow.holds Tryd.pinned (OpenSpec.ofChange traceDigestsSpec)

/-- ITS FALSE NEIGHBOUR: 'it returns false'. Refute it at one input. -/
def traceDigestsWrong : ChangeSpec := { name := "traceDigests", fn := fun _ => fun
  | [d] => { results := [.lit (.bool false)], args := [d] }
  | _ => none }
def TraceDigestsWrongFalsely : Prop := traceDigestsRow.holds Tryd.pinned (OpenSpec.ofChange traceDigestsWrong)

/-- 'rotalaw25.TraceReads': WHATEVER THE INPUT: true; the input reads as it did. -/
def traceReadsSpec : ChangeSpec := { name := "traceReads", fn := fun _ => fun
  | [d] => { results := [.lit (.bool true)], args := [d] }
  | _ => none }
def traceReadsRow : OpenClaim := { program := "ytphbepddhhdhmaadoor", sum := "08f1f690f88ea0308289faf8cb5b95771f2c5d6ecfef40cb744bbc3efc32bf06", func := "rota/rotalaw25.TraceReads", spec := "traceReads", inPlace := ["internal/bytealg.IndexByteString", "internal/bytealg.IndexString", "internal/bytealg.CountString"], recurses := true, named := ["internal/bytealg.MaxLen", "rota/trace.names", "unicode/utf8.first", "unicode/utf8.acceptRanges", "strconv.ErrSyntax", "strconv.ErrRange", "internal/strconv.uint64pow10", "math/bits.deBruijn32tab", "math/bits.deBruijn64tab"], apart := false, laid := [("math/bits.deBruijn32tab", laid_math_bits_deBruijn32tab), ("math/bits.deBruijn64tab", laid_math_bits_deBruijn64tab), ("internal/strconv.uint64pow10", laid_internal_strconv_uint64pow10), ("unicode/utf8.acceptRanges", laid_unicode_utf8_acceptRanges), ("strconv.ErrRange", laid_strconv_ErrRange), ("strconv.ErrSyntax", laid_strconv_ErrSyntax), ("rota/trace.names", laid_rota_trace_names), ("unicode/utf8.first", laid_unicode_utf8_first)] }
def TraceReadsSaid : Prop := traceReadsRow.holds Tryd.pinned (OpenSpec.ofChange traceReadsSpec)

/-- ITS FALSE NEIGHBOUR: 'it returns false'. Refute it at one input. -/
def traceReadsWrong : ChangeSpec := { name := "traceReads", fn := fun _ => fun
  | [d] => { results := [.lit (.bool false)], args := [d] }
  | _ => none }
def TraceReadsWrongFalsely : Prop := traceReadsRow.holds Tryd.pinned (OpenSpec.ofChange traceReadsWrong)

/-- 'rotalaw25.TraceBack': WHATEVER THE INPUT: true; the input reads as it did. -/
def traceBackSpec : ChangeSpec := { name := "traceBack", fn := fun _ => fun
  | [d] => { results := [.lit (.bool true)], args := [d] }
  | _ => none }
def traceBackRow : OpenClaim := { program := "ytphbepddhhdhmaadoor", sum := "08f1f690f88ea0308289faf8cb5b95771f2c5d6ecfef40cb744bbc3efc32bf06", func := "rota/rotalaw25.TraceBack", spec := "traceBack", inPlace := ["internal/bytealg.IndexByteString", "internal/bytealg.IndexString", "internal/bytealg.CountString"], named := ["rota/trace.names", "internal/strconv.uint64pow10", "math/bits.deBruijn32tab", "math/bits.deBruijn64tab", "internal/bytealg.MaxLen", "unicode/utf8.first", "unicode/utf8.acceptRanges", "strconv.ErrSyntax", "strconv.ErrRange"], apart := false, laid := [("math/bits.deBruijn32tab", laid_math_bits_deBruijn32tab), ("math/bits.deBruijn64tab", laid_math_bits_deBruijn64tab), ("internal/strconv.uint64pow10", laid_internal_strconv_uint64pow10), ("unicode/utf8.acceptRanges", laid_unicode_utf8_acceptRanges), ("strconv.ErrRange", laid_strconv_ErrRange), ("strconv.ErrSyntax", laid_strconv_ErrSyntax), ("rota/trace.names", laid_rota_trace_names), ("unicode/utf8.first", laid_unicode_utf8_first)] }
def TraceBackSaid : Prop := traceBackRow.holds Tryd.pinned (OpenSpec.ofChange traceBackSpec)

/-- ITS FALSE NEIGHBOUR: 'it returns false'. Refute it at one input. -/
def traceBackWrong : ChangeSpec := { name := "traceBack", fn := fun _ => fun
  | [d] => { results := [.lit (.bool false)], args := [d] }
  | _ => none }
def TraceBackWrongFalsely : Prop := traceBackRow.holds Tryd.pinned (OpenSpec.ofChange traceBackWrong)

/-- 'rotalaw25.TraceAgain': WHATEVER THE INPUT: true; the input reads as it did. -/
def traceAgainSpec : ChangeSpec := { name := "traceAgain", fn := fun _ => fun
  | [d] => { results := [.lit (.bool true)], args := [d] }
  | _ => none }
def traceAgainRow : OpenClaim := { program := "ytphbepddhhdhmaadoor", sum := "08f1f690f88ea0308289faf8cb5b95771f2c5d6ecfef40cb744bbc3efc32bf06", func := "rota/rotalaw25.TraceAgain", spec := "traceAgain", inPlace := ["internal/bytealg.IndexByteString", "internal/bytealg.IndexString", "internal/bytealg.CountString"], named := ["internal/bytealg.MaxLen", "rota/trace.names", "unicode/utf8.first", "unicode/utf8.acceptRanges", "strconv.ErrSyntax", "strconv.ErrRange", "internal/strconv.uint64pow10", "math/bits.deBruijn32tab", "math/bits.deBruijn64tab"], apart := false, laid := [("math/bits.deBruijn32tab", laid_math_bits_deBruijn32tab), ("math/bits.deBruijn64tab", laid_math_bits_deBruijn64tab), ("internal/strconv.uint64pow10", laid_internal_strconv_uint64pow10), ("unicode/utf8.acceptRanges", laid_unicode_utf8_acceptRanges), ("strconv.ErrRange", laid_strconv_ErrRange), ("strconv.ErrSyntax", laid_strconv_ErrSyntax), ("rota/trace.names", laid_rota_trace_names), ("unicode/utf8.first", laid_unicode_utf8_first)] }
def TraceAgainSaid : Prop := traceAgainRow.holds Tryd.pinned (OpenSpec.ofChange traceAgainSpec)

/-- ITS FALSE NEIGHBOUR: 'it returns false'. Refute it at one input. -/
def traceAgainWrong : ChangeSpec := { name := "traceAgain", fn := fun _ => fun
  | [d] => { results := [.lit (.bool false)], args := [d] }
  | _ => none }
def TraceAgainWrongFalsely : Prop := traceAgainRow.holds Tryd.pinned (OpenSpec.ofChange traceAgainWrong)

/- THE SECOND FORM. 'bulk': how many values and letters a reading holds, each counted each time it is reached (what is shared counts as often as it is met; a slice's spare places count too). A statement '..UptoSaid' is the law's where the arguments, and the package variables that the reading takes, are together of bulk at most 1048576: NARROWER than '..Said'. Prove '..Said' where nothing that the law and all that it calls make is longer than what came in: it says more and counts as full. Else prove '..UptoSaid'. A law counts once. -/
mutual
def uptoBulk {H : Type} : DataW H → Nat
  | .lit (.string bytes) => bytes.length + 1
  | .lit _ => 1
  | .nil => 1
  | .ptr d => uptoBulk d + 1
  | .slice elems spare => uptoBulkAll elems + uptoBulkAll spare + 1
  | .agg parts => uptoBulkAll parts + 1
  | .iface _ d => uptoBulk d + 1
  | .map entries => uptoBulkEntries entries + 1
  | .held _ => 1
def uptoBulkAll {H : Type} : List (DataW H) → Nat
  | [] => 0
  | d :: r => uptoBulk d + uptoBulkAll r
def uptoBulkEntries {H : Type} : List (Lit × DataW H) → Nat
  | [] => 0
  | x :: r => uptoBulkEntry x + uptoBulkEntries r
def uptoBulkEntry {H : Type} : Lit × DataW H → Nat
  | (.string bytes, d) => bytes.length + uptoBulk d + 1
  | (_, d) => uptoBulk d + 1
 end
def uptoSmall : (H : Type) → List (DataW H) → Bool := fun _ ds => decide (uptoBulkAll ds ≤ 1048576)
def OpenSpec.upto (s : _root_.Go.ChangeSpec) : _root_.Go.OpenSpec := { _root_.Go.OpenSpec.ofChange s with cond := some uptoSmall }

/-- 'rotalaw25.TraceChecks', WHERE WHAT IT READS IS OF BULK AT MOST 1048576: true; the input reads as it did. -/
def traceChecksUptoRow : OpenClaim := { program := "ytphbepddhhdhmaadoor", sum := "08f1f690f88ea0308289faf8cb5b95771f2c5d6ecfef40cb744bbc3efc32bf06", func := "rota/rotalaw25.TraceChecks", spec := "traceChecks", named := ["rota/trace.names"], apart := false, laid := [("rota/trace.names", laid_rota_trace_names)], narrowed := true }
def TraceChecksUptoSaid : Prop := traceChecksUptoRow.holds Tryd.pinned (OpenSpec.upto traceChecksSpec)

/-- 'rotalaw25.TraceWhole', WHERE WHAT IT READS IS OF BULK AT MOST 1048576: true; the input reads as it did. -/
def traceWholeUptoRow : OpenClaim := { program := "ytphbepddhhdhmaadoor", sum := "08f1f690f88ea0308289faf8cb5b95771f2c5d6ecfef40cb744bbc3efc32bf06", func := "rota/rotalaw25.TraceWhole", spec := "traceWhole", unfollowed := true, recurses := true, named := ["rota/trace.names"], apart := false, laid := [("rota/trace.names", laid_rota_trace_names)], narrowed := true }
def TraceWholeUptoSaid : Prop := traceWholeUptoRow.holds Tryd.pinned (OpenSpec.upto traceWholeSpec)

/-- 'rotalaw25.TraceOwn', WHERE WHAT IT READS IS OF BULK AT MOST 1048576: true; the input reads as it did. -/
def traceOwnUptoRow : OpenClaim := { program := "ytphbepddhhdhmaadoor", sum := "08f1f690f88ea0308289faf8cb5b95771f2c5d6ecfef40cb744bbc3efc32bf06", func := "rota/rotalaw25.TraceOwn", spec := "traceOwn", unfollowed := true, recurses := true, named := ["rota/trace.names"], apart := false, laid := [("rota/trace.names", laid_rota_trace_names)], narrowed := true }
def TraceOwnUptoSaid : Prop := traceOwnUptoRow.holds Tryd.pinned (OpenSpec.upto traceOwnSpec)

/-- 'rotalaw25.TraceParts', WHERE WHAT IT READS IS OF BULK AT MOST 1048576: true; the input reads as it did. -/
def tracePartsUptoRow : OpenClaim := { program := "ytphbepddhhdhmaadoor", sum := "08f1f690f88ea0308289faf8cb5b95771f2c5d6ecfef40cb744bbc3efc32bf06", func := "rota/rotalaw25.TraceParts", spec := "traceParts", unfollowed := true, recurses := true, named := ["rota/trace.names"], apart := false, laid := [("rota/trace.names", laid_rota_trace_names)], narrowed := true }
def TracePartsUptoSaid : Prop := tracePartsUptoRow.holds Tryd.pinned (OpenSpec.upto tracePartsSpec)

/-- 'rotalaw25.TracePrints', WHERE WHAT IT READS IS OF BULK AT MOST 1048576: true; the input reads as it did. -/
def tracePrintsUptoRow : OpenClaim := { program := "ytphbepddhhdhmaadoor", sum := "08f1f690f88ea0308289faf8cb5b95771f2c5d6ecfef40cb744bbc3efc32bf06", func := "rota/rotalaw25.TracePrints", spec := "tracePrints", recurses := true, named := ["rota/trace.names", "internal/strconv.uint64pow10", "math/bits.deBruijn32tab", "math/bits.deBruijn64tab"], apart := false, laid := [("math/bits.deBruijn32tab", laid_math_bits_deBruijn32tab), ("math/bits.deBruijn64tab", laid_math_bits_deBruijn64tab), ("internal/strconv.uint64pow10", laid_internal_strconv_uint64pow10), ("rota/trace.names", laid_rota_trace_names)], narrowed := true }
def TracePrintsUptoSaid : Prop := tracePrintsUptoRow.holds Tryd.pinned (OpenSpec.upto tracePrintsSpec)

/-- 'rotalaw25.TraceDigests', WHERE WHAT IT READS IS OF BULK AT MOST 1048576: true; the input reads as it did. -/
def traceDigestsUptoRow : OpenClaim := { program := "ytphbepddhhdhmaadoor", sum := "08f1f690f88ea0308289faf8cb5b95771f2c5d6ecfef40cb744bbc3efc32bf06", func := "rota/rotalaw25.TraceDigests", spec := "traceDigests", recurses := true, named := ["rota/trace.names", "internal/strconv.uint64pow10", "math/bits.deBruijn32tab", "math/bits.deBruijn64tab"], apart := false, laid := [("math/bits.deBruijn32tab", laid_math_bits_deBruijn32tab), ("math/bits.deBruijn64tab", laid_math_bits_deBruijn64tab), ("internal/strconv.uint64pow10", laid_internal_strconv_uint64pow10), ("rota/trace.names", laid_rota_trace_names)], narrowed := true }
def TraceDigestsUptoSaid : Prop := traceDigestsUptoRow.holds Tryd.pinned (OpenSpec.upto traceDigestsSpec)

/-- 'rotalaw25.TraceReads', WHERE WHAT IT READS IS OF BULK AT MOST 1048576: true; the input reads as it did. -/
def traceReadsUptoRow : OpenClaim := { program := "ytphbepddhhdhmaadoor", sum := "08f1f690f88ea0308289faf8cb5b95771f2c5d6ecfef40cb744bbc3efc32bf06", func := "rota/rotalaw25.TraceReads", spec := "traceReads", inPlace := ["internal/bytealg.IndexByteString", "internal/bytealg.IndexString", "internal/bytealg.CountString"], recurses := true, named := ["internal/bytealg.MaxLen", "rota/trace.names", "unicode/utf8.first", "unicode/utf8.acceptRanges", "strconv.ErrSyntax", "strconv.ErrRange", "internal/strconv.uint64pow10", "math/bits.deBruijn32tab", "math/bits.deBruijn64tab"], apart := false, laid := [("math/bits.deBruijn32tab", laid_math_bits_deBruijn32tab), ("math/bits.deBruijn64tab", laid_math_bits_deBruijn64tab), ("internal/strconv.uint64pow10", laid_internal_strconv_uint64pow10), ("unicode/utf8.acceptRanges", laid_unicode_utf8_acceptRanges), ("strconv.ErrRange", laid_strconv_ErrRange), ("strconv.ErrSyntax", laid_strconv_ErrSyntax), ("rota/trace.names", laid_rota_trace_names), ("unicode/utf8.first", laid_unicode_utf8_first)], narrowed := true }
def TraceReadsUptoSaid : Prop := traceReadsUptoRow.holds Tryd.pinned (OpenSpec.upto traceReadsSpec)

/-- 'rotalaw25.TraceBack', WHERE WHAT IT READS IS OF BULK AT MOST 1048576: true; the input reads as it did. -/
def traceBackUptoRow : OpenClaim := { program := "ytphbepddhhdhmaadoor", sum := "08f1f690f88ea0308289faf8cb5b95771f2c5d6ecfef40cb744bbc3efc32bf06", func := "rota/rotalaw25.TraceBack", spec := "traceBack", inPlace := ["internal/bytealg.IndexByteString", "internal/bytealg.IndexString", "internal/bytealg.CountString"], named := ["rota/trace.names", "internal/strconv.uint64pow10", "math/bits.deBruijn32tab", "math/bits.deBruijn64tab", "internal/bytealg.MaxLen", "unicode/utf8.first", "unicode/utf8.acceptRanges", "strconv.ErrSyntax", "strconv.ErrRange"], apart := false, laid := [("math/bits.deBruijn32tab", laid_math_bits_deBruijn32tab), ("math/bits.deBruijn64tab", laid_math_bits_deBruijn64tab), ("internal/strconv.uint64pow10", laid_internal_strconv_uint64pow10), ("unicode/utf8.acceptRanges", laid_unicode_utf8_acceptRanges), ("strconv.ErrRange", laid_strconv_ErrRange), ("strconv.ErrSyntax", laid_strconv_ErrSyntax), ("rota/trace.names", laid_rota_trace_names), ("unicode/utf8.first", laid_unicode_utf8_first)], narrowed := true }
def TraceBackUptoSaid : Prop := traceBackUptoRow.holds Tryd.pinned (OpenSpec.upto traceBackSpec)

/-- 'rotalaw25.TraceAgain', WHERE WHAT IT READS IS OF BULK AT MOST 1048576: true; the input reads as it did. -/
def traceAgainUptoRow : OpenClaim := { program := "ytphbepddhhdhmaadoor", sum := "08f1f690f88ea0308289faf8cb5b95771f2c5d6ecfef40cb744bbc3efc32bf06", func := "rota/rotalaw25.TraceAgain", spec := "traceAgain", inPlace := ["internal/bytealg.IndexByteString", "internal/bytealg.IndexString", "internal/bytealg.CountString"], named := ["internal/bytealg.MaxLen", "rota/trace.names", "unicode/utf8.first", "unicode/utf8.acceptRanges", "strconv.ErrSyntax", "strconv.ErrRange", "internal/strconv.uint64pow10", "math/bits.deBruijn32tab", "math/bits.deBruijn64tab"], apart := false, laid := [("math/bits.deBruijn32tab", laid_math_bits_deBruijn32tab), ("math/bits.deBruijn64tab", laid_math_bits_deBruijn64tab), ("internal/strconv.uint64pow10", laid_internal_strconv_uint64pow10), ("unicode/utf8.acceptRanges", laid_unicode_utf8_acceptRanges), ("strconv.ErrRange", laid_strconv_ErrRange), ("strconv.ErrSyntax", laid_strconv_ErrSyntax), ("rota/trace.names", laid_rota_trace_names), ("unicode/utf8.first", laid_unicode_utf8_first)], narrowed := true }
def TraceAgainUptoSaid : Prop := traceAgainUptoRow.holds Tryd.pinned (OpenSpec.upto traceAgainSpec)

end Rows
end Go.Proofs.YtphbepddhhdhmaaDoor
