import Derived.Test.YtphbepddhhdhmaaDoorMAg1
import Derived.Test.YtphbepddhhdhmaaDoorMAg7
import Derived.Test.YtphbepddhhdhmaaDoorMAg6
section
-- laid by a program of this session (wip/gp.sh)
namespace Go.Proofs.YtphbepddhhdhmaaDoor.GA
open Go.RowKit Go.Proofs.YtphbepddhhdhmaaDoorW.PrintWords Go.Proofs.YtphbepddhhdhmaaDoorW.PrintLast Go.Proofs.YtphbepddhhdhmaaDoorW.PrintMore
attribute [local go_sem] max2_int min2_int max_two min_two max_three min_three max_four min_four   -- for this text's walks alone
set_option linter.unusedVariables false
set_option linter.unusedSimpArgs false

/-! ### rotaref25_Line: function 41 -/
def rotaref25_Line.f (k : Nat) (a0_0 : Int) (a0_1 : Int) (a0_2 : Int) (a0_3 : Int) (a0_4 : Int) (a0_5 : Int) (a0_6 : Int) (a0_7 : Int) : Option (ByteArray) := (rotaref25_Name.f a0_4).bind fun bt301 => ((rotaref25_number.f k a0_0).bind fun t303 => (if t303.size + 1 ≤ 9223372036854775807 then ((rotaref19_Number.f k a0_1).bind fun t304 => (if (t303 ++ (⟨#[32]⟩ : ByteArray)).size + t304.size ≤ 9223372036854775807 then (if ((t303 ++ (⟨#[32]⟩ : ByteArray)) ++ t304).size + 1 ≤ 9223372036854775807 then ((rotaref19_Number.f k a0_2).bind fun t305 => (if (((t303 ++ (⟨#[32]⟩ : ByteArray)) ++ t304) ++ (⟨#[32]⟩ : ByteArray)).size + t305.size ≤ 9223372036854775807 then (if ((((t303 ++ (⟨#[32]⟩ : ByteArray)) ++ t304) ++ (⟨#[32]⟩ : ByteArray)) ++ t305).size + 1 ≤ 9223372036854775807 then ((rotaref19_Number.f k a0_3).bind fun t306 => (if (((((t303 ++ (⟨#[32]⟩ : ByteArray)) ++ t304) ++ (⟨#[32]⟩ : ByteArray)) ++ t305) ++ (⟨#[32]⟩ : ByteArray)).size + t306.size ≤ 9223372036854775807 then (if ((((((t303 ++ (⟨#[32]⟩ : ByteArray)) ++ t304) ++ (⟨#[32]⟩ : ByteArray)) ++ t305) ++ (⟨#[32]⟩ : ByteArray)) ++ t306).size + 1 ≤ 9223372036854775807 then (if (((((((t303 ++ (⟨#[32]⟩ : ByteArray)) ++ t304) ++ (⟨#[32]⟩ : ByteArray)) ++ t305) ++ (⟨#[32]⟩ : ByteArray)) ++ t306) ++ (⟨#[32]⟩ : ByteArray)).size + bt301.1.size ≤ 9223372036854775807 then (if ((((((((t303 ++ (⟨#[32]⟩ : ByteArray)) ++ t304) ++ (⟨#[32]⟩ : ByteArray)) ++ t305) ++ (⟨#[32]⟩ : ByteArray)) ++ t306) ++ (⟨#[32]⟩ : ByteArray)) ++ bt301.1).size + 1 ≤ 9223372036854775807 then ((rotaref19_Number.f k a0_5).bind fun t307 => (if (((((((((t303 ++ (⟨#[32]⟩ : ByteArray)) ++ t304) ++ (⟨#[32]⟩ : ByteArray)) ++ t305) ++ (⟨#[32]⟩ : ByteArray)) ++ t306) ++ (⟨#[32]⟩ : ByteArray)) ++ bt301.1) ++ (⟨#[32]⟩ : ByteArray)).size + t307.size ≤ 9223372036854775807 then (if ((((((((((t303 ++ (⟨#[32]⟩ : ByteArray)) ++ t304) ++ (⟨#[32]⟩ : ByteArray)) ++ t305) ++ (⟨#[32]⟩ : ByteArray)) ++ t306) ++ (⟨#[32]⟩ : ByteArray)) ++ bt301.1) ++ (⟨#[32]⟩ : ByteArray)) ++ t307).size + 1 ≤ 9223372036854775807 then ((rotaref19_Number.f k a0_6).bind fun t308 => (if (((((((((((t303 ++ (⟨#[32]⟩ : ByteArray)) ++ t304) ++ (⟨#[32]⟩ : ByteArray)) ++ t305) ++ (⟨#[32]⟩ : ByteArray)) ++ t306) ++ (⟨#[32]⟩ : ByteArray)) ++ bt301.1) ++ (⟨#[32]⟩ : ByteArray)) ++ t307) ++ (⟨#[32]⟩ : ByteArray)).size + t308.size ≤ 9223372036854775807 then (if ((((((((((((t303 ++ (⟨#[32]⟩ : ByteArray)) ++ t304) ++ (⟨#[32]⟩ : ByteArray)) ++ t305) ++ (⟨#[32]⟩ : ByteArray)) ++ t306) ++ (⟨#[32]⟩ : ByteArray)) ++ bt301.1) ++ (⟨#[32]⟩ : ByteArray)) ++ t307) ++ (⟨#[32]⟩ : ByteArray)) ++ t308).size + 1 ≤ 9223372036854775807 then ((rotaref19_Number.f k a0_7).bind fun t309 => (if (((((((((((((t303 ++ (⟨#[32]⟩ : ByteArray)) ++ t304) ++ (⟨#[32]⟩ : ByteArray)) ++ t305) ++ (⟨#[32]⟩ : ByteArray)) ++ t306) ++ (⟨#[32]⟩ : ByteArray)) ++ bt301.1) ++ (⟨#[32]⟩ : ByteArray)) ++ t307) ++ (⟨#[32]⟩ : ByteArray)) ++ t308) ++ (⟨#[32]⟩ : ByteArray)).size + t309.size ≤ 9223372036854775807 then (some ((((((((((((((t303 ++ (⟨#[32]⟩ : ByteArray)) ++ t304) ++ (⟨#[32]⟩ : ByteArray)) ++ t305) ++ (⟨#[32]⟩ : ByteArray)) ++ t306) ++ (⟨#[32]⟩ : ByteArray)) ++ bt301.1) ++ (⟨#[32]⟩ : ByteArray)) ++ t307) ++ (⟨#[32]⟩ : ByteArray)) ++ t308) ++ (⟨#[32]⟩ : ByteArray)) ++ t309)) else (none))) else (none)) else (none))) else (none)) else (none))) else (none)) else (none)) else (none)) else (none))) else (none)) else (none))) else (none)) else (none))) else (none)))
theorem rotaref25_Line.mono : ∀ a0 a1 a2 a3 a4 a5 a6 a7 k, LeO (rotaref25_Line.f k a0 a1 a2 a3 a4 a5 a6 a7) (rotaref25_Line.f (k + 1) a0 a1 a2 a3 a4 a5 a6 a7) := by
  intro a0 a1 a2 a3 a4 a5 a6 a7 k
  unfold rotaref25_Line.f
  repeat' first
      | (with_reducible exact rotaref19_Number.mono _ _)
      | (with_reducible exact rotaref25_number.mono _ _)
      | (with_reducible exact LeO.refl _)
      | (with_reducible exact LeO.none _)
      | (with_reducible refine LeO.ite ?_ ?_)
      | (with_reducible refine LeO.bind ?_ (fun _ => ?_))
      | exact rotaref19_Number.mono _ _
      | exact rotaref25_number.mono _ _
      | exact LeO.none _
      | refine LeO.ite ?_ ?_
      | refine LeO.bind ?_ (fun _ => ?_)
def rotaref25_Line.T2 : Bool × List (List Nat × List Nat) := (true, [([], []), ([0], [0]), ([1], [1]), ([2], [2]), ([], []), ([4], [4]), ([5, 2], [5]), ([3, 6], [3, 6]), ([7], [7]), ([], []), ([9], [9]), ([10], [10]), ([11, 6], [11]), ([8, 12], [8, 12]), ([13], [13]), ([], []), ([15], [15]), ([16], [16]), ([17, 12], [17]), ([14, 18], [14, 18]), ([19], [19]), ([], []), ([20, 21], [20, 21]), ([22, 18, 0, 1, 2, 3, 4, 5, 6, 7, 8, 9, 10, 11, 12, 13, 14, 15, 16, 17, 18, 19, 20, 21, 22], [22])])
def rotaref25_Line.B2 : List Nat := [0, 1, 3, 7, 0, 16, 55, 127, 255, 0, 512, 1536, 3703, 8191, 16383, 0, 32768, 98304, 237175, 524287, 1048575, 0, 4194303, 8388607]
theorem rotaref25_Line.tab2 : rtab .any (opsOf Tryd.f41 2) = rotaref25_Line.T2 := by kernel_rfl
theorem rotaref25_Line.bits2 : waitsOk rotaref25_Line.T2.2 rotaref25_Line.B2 = true := by kernel_rfl
def rotaref25_Line.T3 : Bool × List (List Nat × List Nat) := (true, [([], []), ([0], [0]), ([], []), ([2], [2]), ([3], [3]), ([1, 4], [1, 4]), ([5], [5]), ([], []), ([7], [7]), ([8, 4], [8]), ([6, 9], [6, 9]), ([10], [10]), ([], []), ([12], [12]), ([13, 9], [13]), ([11, 14], [11, 14]), ([15, 14, 0, 1, 2, 3, 4, 5, 6, 7, 8, 9, 10, 11, 12, 13, 14, 15], [15])])
def rotaref25_Line.B3 : List Nat := [0, 1, 0, 4, 12, 31, 63, 0, 128, 412, 1023, 2047, 0, 4096, 13212, 32767, 65535]
theorem rotaref25_Line.tab3 : rtab .any (opsOf Tryd.f41 3) = rotaref25_Line.T3 := by kernel_rfl
theorem rotaref25_Line.bits3 : waitsOk rotaref25_Line.T3.2 rotaref25_Line.B3 = true := by kernel_rfl
set_option maxHeartbeats 8000000 in
set_option maxRecDepth 100000 in
theorem rotaref25_Line.calls (k : Nat) (a0_0 : Int) (a0_1 : Int) (a0_2 : Int) (a0_3 : Int) (a0_4 : Int) (a0_5 : Int) (a0_6 : Int) (a0_7 : Int) (r : ByteArray) (w : World) (h : rotaref25_Line.f k a0_0 a0_1 a0_2 a0_3 a0_4 a0_5 a0_6 a0_7 = some r) :
    Calls Tryd.prog 41 #[.agg #[.int .u64 a0_0, .int .i64 a0_1, .int .i64 a0_2, .int .i64 a0_3, .int .i64 a0_4, .int .i64 a0_5, .int .i64 a0_6, .int .i64 a0_7]] w fun e w' => e = .returned (.string r) ∧ Below w.heap.size w w' := by
  have hu36 := Tryd.underlying36
  have HB := Aside0.mk (Below.refl w.heap.size w)
  have H : ((rotaref25_Name.f a0_4).bind fun bt301 => ((rotaref25_number.f k a0_0).bind fun t303 => (if t303.size + 1 ≤ 9223372036854775807 then ((rotaref19_Number.f k a0_1).bind fun t304 => (if (t303 ++ (⟨#[32]⟩ : ByteArray)).size + t304.size ≤ 9223372036854775807 then (if ((t303 ++ (⟨#[32]⟩ : ByteArray)) ++ t304).size + 1 ≤ 9223372036854775807 then ((rotaref19_Number.f k a0_2).bind fun t305 => (if (((t303 ++ (⟨#[32]⟩ : ByteArray)) ++ t304) ++ (⟨#[32]⟩ : ByteArray)).size + t305.size ≤ 9223372036854775807 then (if ((((t303 ++ (⟨#[32]⟩ : ByteArray)) ++ t304) ++ (⟨#[32]⟩ : ByteArray)) ++ t305).size + 1 ≤ 9223372036854775807 then ((rotaref19_Number.f k a0_3).bind fun t306 => (if (((((t303 ++ (⟨#[32]⟩ : ByteArray)) ++ t304) ++ (⟨#[32]⟩ : ByteArray)) ++ t305) ++ (⟨#[32]⟩ : ByteArray)).size + t306.size ≤ 9223372036854775807 then (if ((((((t303 ++ (⟨#[32]⟩ : ByteArray)) ++ t304) ++ (⟨#[32]⟩ : ByteArray)) ++ t305) ++ (⟨#[32]⟩ : ByteArray)) ++ t306).size + 1 ≤ 9223372036854775807 then (if (((((((t303 ++ (⟨#[32]⟩ : ByteArray)) ++ t304) ++ (⟨#[32]⟩ : ByteArray)) ++ t305) ++ (⟨#[32]⟩ : ByteArray)) ++ t306) ++ (⟨#[32]⟩ : ByteArray)).size + bt301.1.size ≤ 9223372036854775807 then (if ((((((((t303 ++ (⟨#[32]⟩ : ByteArray)) ++ t304) ++ (⟨#[32]⟩ : ByteArray)) ++ t305) ++ (⟨#[32]⟩ : ByteArray)) ++ t306) ++ (⟨#[32]⟩ : ByteArray)) ++ bt301.1).size + 1 ≤ 9223372036854775807 then ((rotaref19_Number.f k a0_5).bind fun t307 => (if (((((((((t303 ++ (⟨#[32]⟩ : ByteArray)) ++ t304) ++ (⟨#[32]⟩ : ByteArray)) ++ t305) ++ (⟨#[32]⟩ : ByteArray)) ++ t306) ++ (⟨#[32]⟩ : ByteArray)) ++ bt301.1) ++ (⟨#[32]⟩ : ByteArray)).size + t307.size ≤ 9223372036854775807 then (if ((((((((((t303 ++ (⟨#[32]⟩ : ByteArray)) ++ t304) ++ (⟨#[32]⟩ : ByteArray)) ++ t305) ++ (⟨#[32]⟩ : ByteArray)) ++ t306) ++ (⟨#[32]⟩ : ByteArray)) ++ bt301.1) ++ (⟨#[32]⟩ : ByteArray)) ++ t307).size + 1 ≤ 9223372036854775807 then ((rotaref19_Number.f k a0_6).bind fun t308 => (if (((((((((((t303 ++ (⟨#[32]⟩ : ByteArray)) ++ t304) ++ (⟨#[32]⟩ : ByteArray)) ++ t305) ++ (⟨#[32]⟩ : ByteArray)) ++ t306) ++ (⟨#[32]⟩ : ByteArray)) ++ bt301.1) ++ (⟨#[32]⟩ : ByteArray)) ++ t307) ++ (⟨#[32]⟩ : ByteArray)).size + t308.size ≤ 9223372036854775807 then (if ((((((((((((t303 ++ (⟨#[32]⟩ : ByteArray)) ++ t304) ++ (⟨#[32]⟩ : ByteArray)) ++ t305) ++ (⟨#[32]⟩ : ByteArray)) ++ t306) ++ (⟨#[32]⟩ : ByteArray)) ++ bt301.1) ++ (⟨#[32]⟩ : ByteArray)) ++ t307) ++ (⟨#[32]⟩ : ByteArray)) ++ t308).size + 1 ≤ 9223372036854775807 then ((rotaref19_Number.f k a0_7).bind fun t309 => (if (((((((((((((t303 ++ (⟨#[32]⟩ : ByteArray)) ++ t304) ++ (⟨#[32]⟩ : ByteArray)) ++ t305) ++ (⟨#[32]⟩ : ByteArray)) ++ t306) ++ (⟨#[32]⟩ : ByteArray)) ++ bt301.1) ++ (⟨#[32]⟩ : ByteArray)) ++ t307) ++ (⟨#[32]⟩ : ByteArray)) ++ t308) ++ (⟨#[32]⟩ : ByteArray)).size + t309.size ≤ 9223372036854775807 then (some ((((((((((((((t303 ++ (⟨#[32]⟩ : ByteArray)) ++ t304) ++ (⟨#[32]⟩ : ByteArray)) ++ t305) ++ (⟨#[32]⟩ : ByteArray)) ++ t306) ++ (⟨#[32]⟩ : ByteArray)) ++ bt301.1) ++ (⟨#[32]⟩ : ByteArray)) ++ t307) ++ (⟨#[32]⟩ : ByteArray)) ++ t308) ++ (⟨#[32]⟩ : ByteArray)) ++ t309)) else (none))) else (none)) else (none))) else (none)) else (none))) else (none)) else (none)) else (none)) else (none))) else (none)) else (none))) else (none)) else (none))) else (none)))) = some r := h
  clear h
  replace H := Option.bind_eq_some_iff.mp H
  obtain ⟨⟨t301, t302⟩, A20, H⟩ := H
  replace H : ((rotaref25_number.f k a0_0).bind fun t303 => (if t303.size + 1 ≤ 9223372036854775807 then ((rotaref19_Number.f k a0_1).bind fun t304 => (if (t303 ++ (⟨#[32]⟩ : ByteArray)).size + t304.size ≤ 9223372036854775807 then (if ((t303 ++ (⟨#[32]⟩ : ByteArray)) ++ t304).size + 1 ≤ 9223372036854775807 then ((rotaref19_Number.f k a0_2).bind fun t305 => (if (((t303 ++ (⟨#[32]⟩ : ByteArray)) ++ t304) ++ (⟨#[32]⟩ : ByteArray)).size + t305.size ≤ 9223372036854775807 then (if ((((t303 ++ (⟨#[32]⟩ : ByteArray)) ++ t304) ++ (⟨#[32]⟩ : ByteArray)) ++ t305).size + 1 ≤ 9223372036854775807 then ((rotaref19_Number.f k a0_3).bind fun t306 => (if (((((t303 ++ (⟨#[32]⟩ : ByteArray)) ++ t304) ++ (⟨#[32]⟩ : ByteArray)) ++ t305) ++ (⟨#[32]⟩ : ByteArray)).size + t306.size ≤ 9223372036854775807 then (if ((((((t303 ++ (⟨#[32]⟩ : ByteArray)) ++ t304) ++ (⟨#[32]⟩ : ByteArray)) ++ t305) ++ (⟨#[32]⟩ : ByteArray)) ++ t306).size + 1 ≤ 9223372036854775807 then (if (((((((t303 ++ (⟨#[32]⟩ : ByteArray)) ++ t304) ++ (⟨#[32]⟩ : ByteArray)) ++ t305) ++ (⟨#[32]⟩ : ByteArray)) ++ t306) ++ (⟨#[32]⟩ : ByteArray)).size + t301.size ≤ 9223372036854775807 then (if ((((((((t303 ++ (⟨#[32]⟩ : ByteArray)) ++ t304) ++ (⟨#[32]⟩ : ByteArray)) ++ t305) ++ (⟨#[32]⟩ : ByteArray)) ++ t306) ++ (⟨#[32]⟩ : ByteArray)) ++ t301).size + 1 ≤ 9223372036854775807 then ((rotaref19_Number.f k a0_5).bind fun t307 => (if (((((((((t303 ++ (⟨#[32]⟩ : ByteArray)) ++ t304) ++ (⟨#[32]⟩ : ByteArray)) ++ t305) ++ (⟨#[32]⟩ : ByteArray)) ++ t306) ++ (⟨#[32]⟩ : ByteArray)) ++ t301) ++ (⟨#[32]⟩ : ByteArray)).size + t307.size ≤ 9223372036854775807 then (if ((((((((((t303 ++ (⟨#[32]⟩ : ByteArray)) ++ t304) ++ (⟨#[32]⟩ : ByteArray)) ++ t305) ++ (⟨#[32]⟩ : ByteArray)) ++ t306) ++ (⟨#[32]⟩ : ByteArray)) ++ t301) ++ (⟨#[32]⟩ : ByteArray)) ++ t307).size + 1 ≤ 9223372036854775807 then ((rotaref19_Number.f k a0_6).bind fun t308 => (if (((((((((((t303 ++ (⟨#[32]⟩ : ByteArray)) ++ t304) ++ (⟨#[32]⟩ : ByteArray)) ++ t305) ++ (⟨#[32]⟩ : ByteArray)) ++ t306) ++ (⟨#[32]⟩ : ByteArray)) ++ t301) ++ (⟨#[32]⟩ : ByteArray)) ++ t307) ++ (⟨#[32]⟩ : ByteArray)).size + t308.size ≤ 9223372036854775807 then (if ((((((((((((t303 ++ (⟨#[32]⟩ : ByteArray)) ++ t304) ++ (⟨#[32]⟩ : ByteArray)) ++ t305) ++ (⟨#[32]⟩ : ByteArray)) ++ t306) ++ (⟨#[32]⟩ : ByteArray)) ++ t301) ++ (⟨#[32]⟩ : ByteArray)) ++ t307) ++ (⟨#[32]⟩ : ByteArray)) ++ t308).size + 1 ≤ 9223372036854775807 then ((rotaref19_Number.f k a0_7).bind fun t309 => (if (((((((((((((t303 ++ (⟨#[32]⟩ : ByteArray)) ++ t304) ++ (⟨#[32]⟩ : ByteArray)) ++ t305) ++ (⟨#[32]⟩ : ByteArray)) ++ t306) ++ (⟨#[32]⟩ : ByteArray)) ++ t301) ++ (⟨#[32]⟩ : ByteArray)) ++ t307) ++ (⟨#[32]⟩ : ByteArray)) ++ t308) ++ (⟨#[32]⟩ : ByteArray)).size + t309.size ≤ 9223372036854775807 then (some ((((((((((((((t303 ++ (⟨#[32]⟩ : ByteArray)) ++ t304) ++ (⟨#[32]⟩ : ByteArray)) ++ t305) ++ (⟨#[32]⟩ : ByteArray)) ++ t306) ++ (⟨#[32]⟩ : ByteArray)) ++ t301) ++ (⟨#[32]⟩ : ByteArray)) ++ t307) ++ (⟨#[32]⟩ : ByteArray)) ++ t308) ++ (⟨#[32]⟩ : ByteArray)) ++ t309)) else (none))) else (none)) else (none))) else (none)) else (none))) else (none)) else (none)) else (none)) else (none))) else (none)) else (none))) else (none)) else (none))) else (none))) = some r := H
  have A2 := Aside0.mk A20
  clear A20
  replace H := Option.bind_eq_some_iff.mp H
  obtain ⟨t303, A30, H⟩ := H
  replace H : (if t303.size + 1 ≤ 9223372036854775807 then ((rotaref19_Number.f k a0_1).bind fun t304 => (if (t303 ++ (⟨#[32]⟩ : ByteArray)).size + t304.size ≤ 9223372036854775807 then (if ((t303 ++ (⟨#[32]⟩ : ByteArray)) ++ t304).size + 1 ≤ 9223372036854775807 then ((rotaref19_Number.f k a0_2).bind fun t305 => (if (((t303 ++ (⟨#[32]⟩ : ByteArray)) ++ t304) ++ (⟨#[32]⟩ : ByteArray)).size + t305.size ≤ 9223372036854775807 then (if ((((t303 ++ (⟨#[32]⟩ : ByteArray)) ++ t304) ++ (⟨#[32]⟩ : ByteArray)) ++ t305).size + 1 ≤ 9223372036854775807 then ((rotaref19_Number.f k a0_3).bind fun t306 => (if (((((t303 ++ (⟨#[32]⟩ : ByteArray)) ++ t304) ++ (⟨#[32]⟩ : ByteArray)) ++ t305) ++ (⟨#[32]⟩ : ByteArray)).size + t306.size ≤ 9223372036854775807 then (if ((((((t303 ++ (⟨#[32]⟩ : ByteArray)) ++ t304) ++ (⟨#[32]⟩ : ByteArray)) ++ t305) ++ (⟨#[32]⟩ : ByteArray)) ++ t306).size + 1 ≤ 9223372036854775807 then (if (((((((t303 ++ (⟨#[32]⟩ : ByteArray)) ++ t304) ++ (⟨#[32]⟩ : ByteArray)) ++ t305) ++ (⟨#[32]⟩ : ByteArray)) ++ t306) ++ (⟨#[32]⟩ : ByteArray)).size + t301.size ≤ 9223372036854775807 then (if ((((((((t303 ++ (⟨#[32]⟩ : ByteArray)) ++ t304) ++ (⟨#[32]⟩ : ByteArray)) ++ t305) ++ (⟨#[32]⟩ : ByteArray)) ++ t306) ++ (⟨#[32]⟩ : ByteArray)) ++ t301).size + 1 ≤ 9223372036854775807 then ((rotaref19_Number.f k a0_5).bind fun t307 => (if (((((((((t303 ++ (⟨#[32]⟩ : ByteArray)) ++ t304) ++ (⟨#[32]⟩ : ByteArray)) ++ t305) ++ (⟨#[32]⟩ : ByteArray)) ++ t306) ++ (⟨#[32]⟩ : ByteArray)) ++ t301) ++ (⟨#[32]⟩ : ByteArray)).size + t307.size ≤ 9223372036854775807 then (if ((((((((((t303 ++ (⟨#[32]⟩ : ByteArray)) ++ t304) ++ (⟨#[32]⟩ : ByteArray)) ++ t305) ++ (⟨#[32]⟩ : ByteArray)) ++ t306) ++ (⟨#[32]⟩ : ByteArray)) ++ t301) ++ (⟨#[32]⟩ : ByteArray)) ++ t307).size + 1 ≤ 9223372036854775807 then ((rotaref19_Number.f k a0_6).bind fun t308 => (if (((((((((((t303 ++ (⟨#[32]⟩ : ByteArray)) ++ t304) ++ (⟨#[32]⟩ : ByteArray)) ++ t305) ++ (⟨#[32]⟩ : ByteArray)) ++ t306) ++ (⟨#[32]⟩ : ByteArray)) ++ t301) ++ (⟨#[32]⟩ : ByteArray)) ++ t307) ++ (⟨#[32]⟩ : ByteArray)).size + t308.size ≤ 9223372036854775807 then (if ((((((((((((t303 ++ (⟨#[32]⟩ : ByteArray)) ++ t304) ++ (⟨#[32]⟩ : ByteArray)) ++ t305) ++ (⟨#[32]⟩ : ByteArray)) ++ t306) ++ (⟨#[32]⟩ : ByteArray)) ++ t301) ++ (⟨#[32]⟩ : ByteArray)) ++ t307) ++ (⟨#[32]⟩ : ByteArray)) ++ t308).size + 1 ≤ 9223372036854775807 then ((rotaref19_Number.f k a0_7).bind fun t309 => (if (((((((((((((t303 ++ (⟨#[32]⟩ : ByteArray)) ++ t304) ++ (⟨#[32]⟩ : ByteArray)) ++ t305) ++ (⟨#[32]⟩ : ByteArray)) ++ t306) ++ (⟨#[32]⟩ : ByteArray)) ++ t301) ++ (⟨#[32]⟩ : ByteArray)) ++ t307) ++ (⟨#[32]⟩ : ByteArray)) ++ t308) ++ (⟨#[32]⟩ : ByteArray)).size + t309.size ≤ 9223372036854775807 then (some ((((((((((((((t303 ++ (⟨#[32]⟩ : ByteArray)) ++ t304) ++ (⟨#[32]⟩ : ByteArray)) ++ t305) ++ (⟨#[32]⟩ : ByteArray)) ++ t306) ++ (⟨#[32]⟩ : ByteArray)) ++ t301) ++ (⟨#[32]⟩ : ByteArray)) ++ t307) ++ (⟨#[32]⟩ : ByteArray)) ++ t308) ++ (⟨#[32]⟩ : ByteArray)) ++ t309)) else (none))) else (none)) else (none))) else (none)) else (none))) else (none)) else (none)) else (none)) else (none))) else (none)) else (none))) else (none)) else (none))) else (none)) = some r := H
  have A3 := Aside0.mk A30
  clear A30
  by_cases c4 : t303.size + 1 ≤ 9223372036854775807
  · rw [if_pos c4] at H
    have c4b0 := eq_true c4
    have c4b1 : decide (t303.size + 1 ≤ 9223372036854775807) = true := decide_eq_true c4
    try have c4b2 : (9223372036854775807 < t303.size + 1) = False := eq_false (Nat.not_lt.2 c4)
    replace H := Option.bind_eq_some_iff.mp H
    obtain ⟨t304, A50, H⟩ := H
    replace H : (if (t303 ++ (⟨#[32]⟩ : ByteArray)).size + t304.size ≤ 9223372036854775807 then (if ((t303 ++ (⟨#[32]⟩ : ByteArray)) ++ t304).size + 1 ≤ 9223372036854775807 then ((rotaref19_Number.f k a0_2).bind fun t305 => (if (((t303 ++ (⟨#[32]⟩ : ByteArray)) ++ t304) ++ (⟨#[32]⟩ : ByteArray)).size + t305.size ≤ 9223372036854775807 then (if ((((t303 ++ (⟨#[32]⟩ : ByteArray)) ++ t304) ++ (⟨#[32]⟩ : ByteArray)) ++ t305).size + 1 ≤ 9223372036854775807 then ((rotaref19_Number.f k a0_3).bind fun t306 => (if (((((t303 ++ (⟨#[32]⟩ : ByteArray)) ++ t304) ++ (⟨#[32]⟩ : ByteArray)) ++ t305) ++ (⟨#[32]⟩ : ByteArray)).size + t306.size ≤ 9223372036854775807 then (if ((((((t303 ++ (⟨#[32]⟩ : ByteArray)) ++ t304) ++ (⟨#[32]⟩ : ByteArray)) ++ t305) ++ (⟨#[32]⟩ : ByteArray)) ++ t306).size + 1 ≤ 9223372036854775807 then (if (((((((t303 ++ (⟨#[32]⟩ : ByteArray)) ++ t304) ++ (⟨#[32]⟩ : ByteArray)) ++ t305) ++ (⟨#[32]⟩ : ByteArray)) ++ t306) ++ (⟨#[32]⟩ : ByteArray)).size + t301.size ≤ 9223372036854775807 then (if ((((((((t303 ++ (⟨#[32]⟩ : ByteArray)) ++ t304) ++ (⟨#[32]⟩ : ByteArray)) ++ t305) ++ (⟨#[32]⟩ : ByteArray)) ++ t306) ++ (⟨#[32]⟩ : ByteArray)) ++ t301).size + 1 ≤ 9223372036854775807 then ((rotaref19_Number.f k a0_5).bind fun t307 => (if (((((((((t303 ++ (⟨#[32]⟩ : ByteArray)) ++ t304) ++ (⟨#[32]⟩ : ByteArray)) ++ t305) ++ (⟨#[32]⟩ : ByteArray)) ++ t306) ++ (⟨#[32]⟩ : ByteArray)) ++ t301) ++ (⟨#[32]⟩ : ByteArray)).size + t307.size ≤ 9223372036854775807 then (if ((((((((((t303 ++ (⟨#[32]⟩ : ByteArray)) ++ t304) ++ (⟨#[32]⟩ : ByteArray)) ++ t305) ++ (⟨#[32]⟩ : ByteArray)) ++ t306) ++ (⟨#[32]⟩ : ByteArray)) ++ t301) ++ (⟨#[32]⟩ : ByteArray)) ++ t307).size + 1 ≤ 9223372036854775807 then ((rotaref19_Number.f k a0_6).bind fun t308 => (if (((((((((((t303 ++ (⟨#[32]⟩ : ByteArray)) ++ t304) ++ (⟨#[32]⟩ : ByteArray)) ++ t305) ++ (⟨#[32]⟩ : ByteArray)) ++ t306) ++ (⟨#[32]⟩ : ByteArray)) ++ t301) ++ (⟨#[32]⟩ : ByteArray)) ++ t307) ++ (⟨#[32]⟩ : ByteArray)).size + t308.size ≤ 9223372036854775807 then (if ((((((((((((t303 ++ (⟨#[32]⟩ : ByteArray)) ++ t304) ++ (⟨#[32]⟩ : ByteArray)) ++ t305) ++ (⟨#[32]⟩ : ByteArray)) ++ t306) ++ (⟨#[32]⟩ : ByteArray)) ++ t301) ++ (⟨#[32]⟩ : ByteArray)) ++ t307) ++ (⟨#[32]⟩ : ByteArray)) ++ t308).size + 1 ≤ 9223372036854775807 then ((rotaref19_Number.f k a0_7).bind fun t309 => (if (((((((((((((t303 ++ (⟨#[32]⟩ : ByteArray)) ++ t304) ++ (⟨#[32]⟩ : ByteArray)) ++ t305) ++ (⟨#[32]⟩ : ByteArray)) ++ t306) ++ (⟨#[32]⟩ : ByteArray)) ++ t301) ++ (⟨#[32]⟩ : ByteArray)) ++ t307) ++ (⟨#[32]⟩ : ByteArray)) ++ t308) ++ (⟨#[32]⟩ : ByteArray)).size + t309.size ≤ 9223372036854775807 then (some ((((((((((((((t303 ++ (⟨#[32]⟩ : ByteArray)) ++ t304) ++ (⟨#[32]⟩ : ByteArray)) ++ t305) ++ (⟨#[32]⟩ : ByteArray)) ++ t306) ++ (⟨#[32]⟩ : ByteArray)) ++ t301) ++ (⟨#[32]⟩ : ByteArray)) ++ t307) ++ (⟨#[32]⟩ : ByteArray)) ++ t308) ++ (⟨#[32]⟩ : ByteArray)) ++ t309)) else (none))) else (none)) else (none))) else (none)) else (none))) else (none)) else (none)) else (none)) else (none))) else (none)) else (none))) else (none)) else (none)) = some r := H
    have A5 := Aside0.mk A50
    clear A50
    by_cases c6 : (t303 ++ (⟨#[32]⟩ : ByteArray)).size + t304.size ≤ 9223372036854775807
    · rw [if_pos c6] at H
      have c6b0 := eq_true c6
      have c6b1 : decide ((t303 ++ (⟨#[32]⟩ : ByteArray)).size + t304.size ≤ 9223372036854775807) = true := decide_eq_true c6
      try have c6b2 : (9223372036854775807 < (t303 ++ (⟨#[32]⟩ : ByteArray)).size + t304.size) = False := eq_false (Nat.not_lt.2 c6)
      have c6b3 : (9223372036854775807 < t303.size + 1 + t304.size) = False := eq_false (Nat.not_lt.2 (by have h_ := c6; simp only [ByteArray.size_append] at h_; exact h_))
      by_cases c7 : ((t303 ++ (⟨#[32]⟩ : ByteArray)) ++ t304).size + 1 ≤ 9223372036854775807
      · rw [if_pos c7] at H
        have c7b0 := eq_true c7
        have c7b1 : decide (((t303 ++ (⟨#[32]⟩ : ByteArray)) ++ t304).size + 1 ≤ 9223372036854775807) = true := decide_eq_true c7
        try have c7b2 : (9223372036854775807 < ((t303 ++ (⟨#[32]⟩ : ByteArray)) ++ t304).size + 1) = False := eq_false (Nat.not_lt.2 c7)
        have c7b3 : (9223372036854775807 < t303.size + 1 + t304.size + 1) = False := eq_false (Nat.not_lt.2 (by have h_ := c7; simp only [ByteArray.size_append] at h_; exact h_))
        replace H := Option.bind_eq_some_iff.mp H
        obtain ⟨t305, A80, H⟩ := H
        replace H : (if (((t303 ++ (⟨#[32]⟩ : ByteArray)) ++ t304) ++ (⟨#[32]⟩ : ByteArray)).size + t305.size ≤ 9223372036854775807 then (if ((((t303 ++ (⟨#[32]⟩ : ByteArray)) ++ t304) ++ (⟨#[32]⟩ : ByteArray)) ++ t305).size + 1 ≤ 9223372036854775807 then ((rotaref19_Number.f k a0_3).bind fun t306 => (if (((((t303 ++ (⟨#[32]⟩ : ByteArray)) ++ t304) ++ (⟨#[32]⟩ : ByteArray)) ++ t305) ++ (⟨#[32]⟩ : ByteArray)).size + t306.size ≤ 9223372036854775807 then (if ((((((t303 ++ (⟨#[32]⟩ : ByteArray)) ++ t304) ++ (⟨#[32]⟩ : ByteArray)) ++ t305) ++ (⟨#[32]⟩ : ByteArray)) ++ t306).size + 1 ≤ 9223372036854775807 then (if (((((((t303 ++ (⟨#[32]⟩ : ByteArray)) ++ t304) ++ (⟨#[32]⟩ : ByteArray)) ++ t305) ++ (⟨#[32]⟩ : ByteArray)) ++ t306) ++ (⟨#[32]⟩ : ByteArray)).size + t301.size ≤ 9223372036854775807 then (if ((((((((t303 ++ (⟨#[32]⟩ : ByteArray)) ++ t304) ++ (⟨#[32]⟩ : ByteArray)) ++ t305) ++ (⟨#[32]⟩ : ByteArray)) ++ t306) ++ (⟨#[32]⟩ : ByteArray)) ++ t301).size + 1 ≤ 9223372036854775807 then ((rotaref19_Number.f k a0_5).bind fun t307 => (if (((((((((t303 ++ (⟨#[32]⟩ : ByteArray)) ++ t304) ++ (⟨#[32]⟩ : ByteArray)) ++ t305) ++ (⟨#[32]⟩ : ByteArray)) ++ t306) ++ (⟨#[32]⟩ : ByteArray)) ++ t301) ++ (⟨#[32]⟩ : ByteArray)).size + t307.size ≤ 9223372036854775807 then (if ((((((((((t303 ++ (⟨#[32]⟩ : ByteArray)) ++ t304) ++ (⟨#[32]⟩ : ByteArray)) ++ t305) ++ (⟨#[32]⟩ : ByteArray)) ++ t306) ++ (⟨#[32]⟩ : ByteArray)) ++ t301) ++ (⟨#[32]⟩ : ByteArray)) ++ t307).size + 1 ≤ 9223372036854775807 then ((rotaref19_Number.f k a0_6).bind fun t308 => (if (((((((((((t303 ++ (⟨#[32]⟩ : ByteArray)) ++ t304) ++ (⟨#[32]⟩ : ByteArray)) ++ t305) ++ (⟨#[32]⟩ : ByteArray)) ++ t306) ++ (⟨#[32]⟩ : ByteArray)) ++ t301) ++ (⟨#[32]⟩ : ByteArray)) ++ t307) ++ (⟨#[32]⟩ : ByteArray)).size + t308.size ≤ 9223372036854775807 then (if ((((((((((((t303 ++ (⟨#[32]⟩ : ByteArray)) ++ t304) ++ (⟨#[32]⟩ : ByteArray)) ++ t305) ++ (⟨#[32]⟩ : ByteArray)) ++ t306) ++ (⟨#[32]⟩ : ByteArray)) ++ t301) ++ (⟨#[32]⟩ : ByteArray)) ++ t307) ++ (⟨#[32]⟩ : ByteArray)) ++ t308).size + 1 ≤ 9223372036854775807 then ((rotaref19_Number.f k a0_7).bind fun t309 => (if (((((((((((((t303 ++ (⟨#[32]⟩ : ByteArray)) ++ t304) ++ (⟨#[32]⟩ : ByteArray)) ++ t305) ++ (⟨#[32]⟩ : ByteArray)) ++ t306) ++ (⟨#[32]⟩ : ByteArray)) ++ t301) ++ (⟨#[32]⟩ : ByteArray)) ++ t307) ++ (⟨#[32]⟩ : ByteArray)) ++ t308) ++ (⟨#[32]⟩ : ByteArray)).size + t309.size ≤ 9223372036854775807 then (some ((((((((((((((t303 ++ (⟨#[32]⟩ : ByteArray)) ++ t304) ++ (⟨#[32]⟩ : ByteArray)) ++ t305) ++ (⟨#[32]⟩ : ByteArray)) ++ t306) ++ (⟨#[32]⟩ : ByteArray)) ++ t301) ++ (⟨#[32]⟩ : ByteArray)) ++ t307) ++ (⟨#[32]⟩ : ByteArray)) ++ t308) ++ (⟨#[32]⟩ : ByteArray)) ++ t309)) else (none))) else (none)) else (none))) else (none)) else (none))) else (none)) else (none)) else (none)) else (none))) else (none)) else (none)) = some r := H
        have A8 := Aside0.mk A80
        clear A80
        by_cases c9 : (((t303 ++ (⟨#[32]⟩ : ByteArray)) ++ t304) ++ (⟨#[32]⟩ : ByteArray)).size + t305.size ≤ 9223372036854775807
        · rw [if_pos c9] at H
          have c9b0 := eq_true c9
          have c9b1 : decide ((((t303 ++ (⟨#[32]⟩ : ByteArray)) ++ t304) ++ (⟨#[32]⟩ : ByteArray)).size + t305.size ≤ 9223372036854775807) = true := decide_eq_true c9
          try have c9b2 : (9223372036854775807 < (((t303 ++ (⟨#[32]⟩ : ByteArray)) ++ t304) ++ (⟨#[32]⟩ : ByteArray)).size + t305.size) = False := eq_false (Nat.not_lt.2 c9)
          have c9b3 : (9223372036854775807 < t303.size + 1 + t304.size + 1 + t305.size) = False := eq_false (Nat.not_lt.2 (by have h_ := c9; simp only [ByteArray.size_append] at h_; exact h_))
          by_cases c10 : ((((t303 ++ (⟨#[32]⟩ : ByteArray)) ++ t304) ++ (⟨#[32]⟩ : ByteArray)) ++ t305).size + 1 ≤ 9223372036854775807
          · rw [if_pos c10] at H
            have c10b0 := eq_true c10
            have c10b1 : decide (((((t303 ++ (⟨#[32]⟩ : ByteArray)) ++ t304) ++ (⟨#[32]⟩ : ByteArray)) ++ t305).size + 1 ≤ 9223372036854775807) = true := decide_eq_true c10
            try have c10b2 : (9223372036854775807 < ((((t303 ++ (⟨#[32]⟩ : ByteArray)) ++ t304) ++ (⟨#[32]⟩ : ByteArray)) ++ t305).size + 1) = False := eq_false (Nat.not_lt.2 c10)
            have c10b3 : (9223372036854775807 < t303.size + 1 + t304.size + 1 + t305.size + 1) = False := eq_false (Nat.not_lt.2 (by have h_ := c10; simp only [ByteArray.size_append] at h_; exact h_))
            replace H := Option.bind_eq_some_iff.mp H
            obtain ⟨t306, A110, H⟩ := H
            replace H : (if (((((t303 ++ (⟨#[32]⟩ : ByteArray)) ++ t304) ++ (⟨#[32]⟩ : ByteArray)) ++ t305) ++ (⟨#[32]⟩ : ByteArray)).size + t306.size ≤ 9223372036854775807 then (if ((((((t303 ++ (⟨#[32]⟩ : ByteArray)) ++ t304) ++ (⟨#[32]⟩ : ByteArray)) ++ t305) ++ (⟨#[32]⟩ : ByteArray)) ++ t306).size + 1 ≤ 9223372036854775807 then (if (((((((t303 ++ (⟨#[32]⟩ : ByteArray)) ++ t304) ++ (⟨#[32]⟩ : ByteArray)) ++ t305) ++ (⟨#[32]⟩ : ByteArray)) ++ t306) ++ (⟨#[32]⟩ : ByteArray)).size + t301.size ≤ 9223372036854775807 then (if ((((((((t303 ++ (⟨#[32]⟩ : ByteArray)) ++ t304) ++ (⟨#[32]⟩ : ByteArray)) ++ t305) ++ (⟨#[32]⟩ : ByteArray)) ++ t306) ++ (⟨#[32]⟩ : ByteArray)) ++ t301).size + 1 ≤ 9223372036854775807 then ((rotaref19_Number.f k a0_5).bind fun t307 => (if (((((((((t303 ++ (⟨#[32]⟩ : ByteArray)) ++ t304) ++ (⟨#[32]⟩ : ByteArray)) ++ t305) ++ (⟨#[32]⟩ : ByteArray)) ++ t306) ++ (⟨#[32]⟩ : ByteArray)) ++ t301) ++ (⟨#[32]⟩ : ByteArray)).size + t307.size ≤ 9223372036854775807 then (if ((((((((((t303 ++ (⟨#[32]⟩ : ByteArray)) ++ t304) ++ (⟨#[32]⟩ : ByteArray)) ++ t305) ++ (⟨#[32]⟩ : ByteArray)) ++ t306) ++ (⟨#[32]⟩ : ByteArray)) ++ t301) ++ (⟨#[32]⟩ : ByteArray)) ++ t307).size + 1 ≤ 9223372036854775807 then ((rotaref19_Number.f k a0_6).bind fun t308 => (if (((((((((((t303 ++ (⟨#[32]⟩ : ByteArray)) ++ t304) ++ (⟨#[32]⟩ : ByteArray)) ++ t305) ++ (⟨#[32]⟩ : ByteArray)) ++ t306) ++ (⟨#[32]⟩ : ByteArray)) ++ t301) ++ (⟨#[32]⟩ : ByteArray)) ++ t307) ++ (⟨#[32]⟩ : ByteArray)).size + t308.size ≤ 9223372036854775807 then (if ((((((((((((t303 ++ (⟨#[32]⟩ : ByteArray)) ++ t304) ++ (⟨#[32]⟩ : ByteArray)) ++ t305) ++ (⟨#[32]⟩ : ByteArray)) ++ t306) ++ (⟨#[32]⟩ : ByteArray)) ++ t301) ++ (⟨#[32]⟩ : ByteArray)) ++ t307) ++ (⟨#[32]⟩ : ByteArray)) ++ t308).size + 1 ≤ 9223372036854775807 then ((rotaref19_Number.f k a0_7).bind fun t309 => (if (((((((((((((t303 ++ (⟨#[32]⟩ : ByteArray)) ++ t304) ++ (⟨#[32]⟩ : ByteArray)) ++ t305) ++ (⟨#[32]⟩ : ByteArray)) ++ t306) ++ (⟨#[32]⟩ : ByteArray)) ++ t301) ++ (⟨#[32]⟩ : ByteArray)) ++ t307) ++ (⟨#[32]⟩ : ByteArray)) ++ t308) ++ (⟨#[32]⟩ : ByteArray)).size + t309.size ≤ 9223372036854775807 then (some ((((((((((((((t303 ++ (⟨#[32]⟩ : ByteArray)) ++ t304) ++ (⟨#[32]⟩ : ByteArray)) ++ t305) ++ (⟨#[32]⟩ : ByteArray)) ++ t306) ++ (⟨#[32]⟩ : ByteArray)) ++ t301) ++ (⟨#[32]⟩ : ByteArray)) ++ t307) ++ (⟨#[32]⟩ : ByteArray)) ++ t308) ++ (⟨#[32]⟩ : ByteArray)) ++ t309)) else (none))) else (none)) else (none))) else (none)) else (none))) else (none)) else (none)) else (none)) else (none)) = some r := H
            have A11 := Aside0.mk A110
            clear A110
            by_cases c12 : (((((t303 ++ (⟨#[32]⟩ : ByteArray)) ++ t304) ++ (⟨#[32]⟩ : ByteArray)) ++ t305) ++ (⟨#[32]⟩ : ByteArray)).size + t306.size ≤ 9223372036854775807
            · rw [if_pos c12] at H
              have c12b0 := eq_true c12
              have c12b1 : decide ((((((t303 ++ (⟨#[32]⟩ : ByteArray)) ++ t304) ++ (⟨#[32]⟩ : ByteArray)) ++ t305) ++ (⟨#[32]⟩ : ByteArray)).size + t306.size ≤ 9223372036854775807) = true := decide_eq_true c12
              try have c12b2 : (9223372036854775807 < (((((t303 ++ (⟨#[32]⟩ : ByteArray)) ++ t304) ++ (⟨#[32]⟩ : ByteArray)) ++ t305) ++ (⟨#[32]⟩ : ByteArray)).size + t306.size) = False := eq_false (Nat.not_lt.2 c12)
              have c12b3 : (9223372036854775807 < t303.size + 1 + t304.size + 1 + t305.size + 1 + t306.size) = False := eq_false (Nat.not_lt.2 (by have h_ := c12; simp only [ByteArray.size_append] at h_; exact h_))
              by_cases c13 : ((((((t303 ++ (⟨#[32]⟩ : ByteArray)) ++ t304) ++ (⟨#[32]⟩ : ByteArray)) ++ t305) ++ (⟨#[32]⟩ : ByteArray)) ++ t306).size + 1 ≤ 9223372036854775807
              · rw [if_pos c13] at H
                have c13b0 := eq_true c13
                have c13b1 : decide (((((((t303 ++ (⟨#[32]⟩ : ByteArray)) ++ t304) ++ (⟨#[32]⟩ : ByteArray)) ++ t305) ++ (⟨#[32]⟩ : ByteArray)) ++ t306).size + 1 ≤ 9223372036854775807) = true := decide_eq_true c13
                try have c13b2 : (9223372036854775807 < ((((((t303 ++ (⟨#[32]⟩ : ByteArray)) ++ t304) ++ (⟨#[32]⟩ : ByteArray)) ++ t305) ++ (⟨#[32]⟩ : ByteArray)) ++ t306).size + 1) = False := eq_false (Nat.not_lt.2 c13)
                have c13b3 : (9223372036854775807 < t303.size + 1 + t304.size + 1 + t305.size + 1 + t306.size + 1) = False := eq_false (Nat.not_lt.2 (by have h_ := c13; simp only [ByteArray.size_append] at h_; exact h_))
                by_cases c14 : (((((((t303 ++ (⟨#[32]⟩ : ByteArray)) ++ t304) ++ (⟨#[32]⟩ : ByteArray)) ++ t305) ++ (⟨#[32]⟩ : ByteArray)) ++ t306) ++ (⟨#[32]⟩ : ByteArray)).size + t301.size ≤ 9223372036854775807
                · rw [if_pos c14] at H
                  have c14b0 := eq_true c14
                  have c14b1 : decide ((((((((t303 ++ (⟨#[32]⟩ : ByteArray)) ++ t304) ++ (⟨#[32]⟩ : ByteArray)) ++ t305) ++ (⟨#[32]⟩ : ByteArray)) ++ t306) ++ (⟨#[32]⟩ : ByteArray)).size + t301.size ≤ 9223372036854775807) = true := decide_eq_true c14
                  try have c14b2 : (9223372036854775807 < (((((((t303 ++ (⟨#[32]⟩ : ByteArray)) ++ t304) ++ (⟨#[32]⟩ : ByteArray)) ++ t305) ++ (⟨#[32]⟩ : ByteArray)) ++ t306) ++ (⟨#[32]⟩ : ByteArray)).size + t301.size) = False := eq_false (Nat.not_lt.2 c14)
                  have c14b3 : (9223372036854775807 < t303.size + 1 + t304.size + 1 + t305.size + 1 + t306.size + 1 + t301.size) = False := eq_false (Nat.not_lt.2 (by have h_ := c14; simp only [ByteArray.size_append] at h_; exact h_))
                  by_cases c15 : ((((((((t303 ++ (⟨#[32]⟩ : ByteArray)) ++ t304) ++ (⟨#[32]⟩ : ByteArray)) ++ t305) ++ (⟨#[32]⟩ : ByteArray)) ++ t306) ++ (⟨#[32]⟩ : ByteArray)) ++ t301).size + 1 ≤ 9223372036854775807
                  · rw [if_pos c15] at H
                    have c15b0 := eq_true c15
                    have c15b1 : decide (((((((((t303 ++ (⟨#[32]⟩ : ByteArray)) ++ t304) ++ (⟨#[32]⟩ : ByteArray)) ++ t305) ++ (⟨#[32]⟩ : ByteArray)) ++ t306) ++ (⟨#[32]⟩ : ByteArray)) ++ t301).size + 1 ≤ 9223372036854775807) = true := decide_eq_true c15
                    try have c15b2 : (9223372036854775807 < ((((((((t303 ++ (⟨#[32]⟩ : ByteArray)) ++ t304) ++ (⟨#[32]⟩ : ByteArray)) ++ t305) ++ (⟨#[32]⟩ : ByteArray)) ++ t306) ++ (⟨#[32]⟩ : ByteArray)) ++ t301).size + 1) = False := eq_false (Nat.not_lt.2 c15)
                    have c15b3 : (9223372036854775807 < t303.size + 1 + t304.size + 1 + t305.size + 1 + t306.size + 1 + t301.size + 1) = False := eq_false (Nat.not_lt.2 (by have h_ := c15; simp only [ByteArray.size_append] at h_; exact h_))
                    replace H := Option.bind_eq_some_iff.mp H
                    obtain ⟨t307, A160, H⟩ := H
                    replace H : (if (((((((((t303 ++ (⟨#[32]⟩ : ByteArray)) ++ t304) ++ (⟨#[32]⟩ : ByteArray)) ++ t305) ++ (⟨#[32]⟩ : ByteArray)) ++ t306) ++ (⟨#[32]⟩ : ByteArray)) ++ t301) ++ (⟨#[32]⟩ : ByteArray)).size + t307.size ≤ 9223372036854775807 then (if ((((((((((t303 ++ (⟨#[32]⟩ : ByteArray)) ++ t304) ++ (⟨#[32]⟩ : ByteArray)) ++ t305) ++ (⟨#[32]⟩ : ByteArray)) ++ t306) ++ (⟨#[32]⟩ : ByteArray)) ++ t301) ++ (⟨#[32]⟩ : ByteArray)) ++ t307).size + 1 ≤ 9223372036854775807 then ((rotaref19_Number.f k a0_6).bind fun t308 => (if (((((((((((t303 ++ (⟨#[32]⟩ : ByteArray)) ++ t304) ++ (⟨#[32]⟩ : ByteArray)) ++ t305) ++ (⟨#[32]⟩ : ByteArray)) ++ t306) ++ (⟨#[32]⟩ : ByteArray)) ++ t301) ++ (⟨#[32]⟩ : ByteArray)) ++ t307) ++ (⟨#[32]⟩ : ByteArray)).size + t308.size ≤ 9223372036854775807 then (if ((((((((((((t303 ++ (⟨#[32]⟩ : ByteArray)) ++ t304) ++ (⟨#[32]⟩ : ByteArray)) ++ t305) ++ (⟨#[32]⟩ : ByteArray)) ++ t306) ++ (⟨#[32]⟩ : ByteArray)) ++ t301) ++ (⟨#[32]⟩ : ByteArray)) ++ t307) ++ (⟨#[32]⟩ : ByteArray)) ++ t308).size + 1 ≤ 9223372036854775807 then ((rotaref19_Number.f k a0_7).bind fun t309 => (if (((((((((((((t303 ++ (⟨#[32]⟩ : ByteArray)) ++ t304) ++ (⟨#[32]⟩ : ByteArray)) ++ t305) ++ (⟨#[32]⟩ : ByteArray)) ++ t306) ++ (⟨#[32]⟩ : ByteArray)) ++ t301) ++ (⟨#[32]⟩ : ByteArray)) ++ t307) ++ (⟨#[32]⟩ : ByteArray)) ++ t308) ++ (⟨#[32]⟩ : ByteArray)).size + t309.size ≤ 9223372036854775807 then (some ((((((((((((((t303 ++ (⟨#[32]⟩ : ByteArray)) ++ t304) ++ (⟨#[32]⟩ : ByteArray)) ++ t305) ++ (⟨#[32]⟩ : ByteArray)) ++ t306) ++ (⟨#[32]⟩ : ByteArray)) ++ t301) ++ (⟨#[32]⟩ : ByteArray)) ++ t307) ++ (⟨#[32]⟩ : ByteArray)) ++ t308) ++ (⟨#[32]⟩ : ByteArray)) ++ t309)) else (none))) else (none)) else (none))) else (none)) else (none)) = some r := H
                    have A16 := Aside0.mk A160
                    clear A160
                    by_cases c17 : (((((((((t303 ++ (⟨#[32]⟩ : ByteArray)) ++ t304) ++ (⟨#[32]⟩ : ByteArray)) ++ t305) ++ (⟨#[32]⟩ : ByteArray)) ++ t306) ++ (⟨#[32]⟩ : ByteArray)) ++ t301) ++ (⟨#[32]⟩ : ByteArray)).size + t307.size ≤ 9223372036854775807
                    · rw [if_pos c17] at H
                      have c17b0 := eq_true c17
                      have c17b1 : decide ((((((((((t303 ++ (⟨#[32]⟩ : ByteArray)) ++ t304) ++ (⟨#[32]⟩ : ByteArray)) ++ t305) ++ (⟨#[32]⟩ : ByteArray)) ++ t306) ++ (⟨#[32]⟩ : ByteArray)) ++ t301) ++ (⟨#[32]⟩ : ByteArray)).size + t307.size ≤ 9223372036854775807) = true := decide_eq_true c17
                      try have c17b2 : (9223372036854775807 < (((((((((t303 ++ (⟨#[32]⟩ : ByteArray)) ++ t304) ++ (⟨#[32]⟩ : ByteArray)) ++ t305) ++ (⟨#[32]⟩ : ByteArray)) ++ t306) ++ (⟨#[32]⟩ : ByteArray)) ++ t301) ++ (⟨#[32]⟩ : ByteArray)).size + t307.size) = False := eq_false (Nat.not_lt.2 c17)
                      have c17b3 : (9223372036854775807 < t303.size + 1 + t304.size + 1 + t305.size + 1 + t306.size + 1 + t301.size + 1 + t307.size) = False := eq_false (Nat.not_lt.2 (by have h_ := c17; simp only [ByteArray.size_append] at h_; exact h_))
                      by_cases c18 : ((((((((((t303 ++ (⟨#[32]⟩ : ByteArray)) ++ t304) ++ (⟨#[32]⟩ : ByteArray)) ++ t305) ++ (⟨#[32]⟩ : ByteArray)) ++ t306) ++ (⟨#[32]⟩ : ByteArray)) ++ t301) ++ (⟨#[32]⟩ : ByteArray)) ++ t307).size + 1 ≤ 9223372036854775807
                      · rw [if_pos c18] at H
                        have c18b0 := eq_true c18
                        have c18b1 : decide (((((((((((t303 ++ (⟨#[32]⟩ : ByteArray)) ++ t304) ++ (⟨#[32]⟩ : ByteArray)) ++ t305) ++ (⟨#[32]⟩ : ByteArray)) ++ t306) ++ (⟨#[32]⟩ : ByteArray)) ++ t301) ++ (⟨#[32]⟩ : ByteArray)) ++ t307).size + 1 ≤ 9223372036854775807) = true := decide_eq_true c18
                        try have c18b2 : (9223372036854775807 < ((((((((((t303 ++ (⟨#[32]⟩ : ByteArray)) ++ t304) ++ (⟨#[32]⟩ : ByteArray)) ++ t305) ++ (⟨#[32]⟩ : ByteArray)) ++ t306) ++ (⟨#[32]⟩ : ByteArray)) ++ t301) ++ (⟨#[32]⟩ : ByteArray)) ++ t307).size + 1) = False := eq_false (Nat.not_lt.2 c18)
                        have c18b3 : (9223372036854775807 < t303.size + 1 + t304.size + 1 + t305.size + 1 + t306.size + 1 + t301.size + 1 + t307.size + 1) = False := eq_false (Nat.not_lt.2 (by have h_ := c18; simp only [ByteArray.size_append] at h_; exact h_))
                        replace H := Option.bind_eq_some_iff.mp H
                        obtain ⟨t308, A190, H⟩ := H
                        replace H : (if (((((((((((t303 ++ (⟨#[32]⟩ : ByteArray)) ++ t304) ++ (⟨#[32]⟩ : ByteArray)) ++ t305) ++ (⟨#[32]⟩ : ByteArray)) ++ t306) ++ (⟨#[32]⟩ : ByteArray)) ++ t301) ++ (⟨#[32]⟩ : ByteArray)) ++ t307) ++ (⟨#[32]⟩ : ByteArray)).size + t308.size ≤ 9223372036854775807 then (if ((((((((((((t303 ++ (⟨#[32]⟩ : ByteArray)) ++ t304) ++ (⟨#[32]⟩ : ByteArray)) ++ t305) ++ (⟨#[32]⟩ : ByteArray)) ++ t306) ++ (⟨#[32]⟩ : ByteArray)) ++ t301) ++ (⟨#[32]⟩ : ByteArray)) ++ t307) ++ (⟨#[32]⟩ : ByteArray)) ++ t308).size + 1 ≤ 9223372036854775807 then ((rotaref19_Number.f k a0_7).bind fun t309 => (if (((((((((((((t303 ++ (⟨#[32]⟩ : ByteArray)) ++ t304) ++ (⟨#[32]⟩ : ByteArray)) ++ t305) ++ (⟨#[32]⟩ : ByteArray)) ++ t306) ++ (⟨#[32]⟩ : ByteArray)) ++ t301) ++ (⟨#[32]⟩ : ByteArray)) ++ t307) ++ (⟨#[32]⟩ : ByteArray)) ++ t308) ++ (⟨#[32]⟩ : ByteArray)).size + t309.size ≤ 9223372036854775807 then (some ((((((((((((((t303 ++ (⟨#[32]⟩ : ByteArray)) ++ t304) ++ (⟨#[32]⟩ : ByteArray)) ++ t305) ++ (⟨#[32]⟩ : ByteArray)) ++ t306) ++ (⟨#[32]⟩ : ByteArray)) ++ t301) ++ (⟨#[32]⟩ : ByteArray)) ++ t307) ++ (⟨#[32]⟩ : ByteArray)) ++ t308) ++ (⟨#[32]⟩ : ByteArray)) ++ t309)) else (none))) else (none)) else (none)) = some r := H
                        have A19 := Aside0.mk A190
                        clear A190
                        by_cases c20 : (((((((((((t303 ++ (⟨#[32]⟩ : ByteArray)) ++ t304) ++ (⟨#[32]⟩ : ByteArray)) ++ t305) ++ (⟨#[32]⟩ : ByteArray)) ++ t306) ++ (⟨#[32]⟩ : ByteArray)) ++ t301) ++ (⟨#[32]⟩ : ByteArray)) ++ t307) ++ (⟨#[32]⟩ : ByteArray)).size + t308.size ≤ 9223372036854775807
                        · rw [if_pos c20] at H
                          have c20b0 := eq_true c20
                          have c20b1 : decide ((((((((((((t303 ++ (⟨#[32]⟩ : ByteArray)) ++ t304) ++ (⟨#[32]⟩ : ByteArray)) ++ t305) ++ (⟨#[32]⟩ : ByteArray)) ++ t306) ++ (⟨#[32]⟩ : ByteArray)) ++ t301) ++ (⟨#[32]⟩ : ByteArray)) ++ t307) ++ (⟨#[32]⟩ : ByteArray)).size + t308.size ≤ 9223372036854775807) = true := decide_eq_true c20
                          try have c20b2 : (9223372036854775807 < (((((((((((t303 ++ (⟨#[32]⟩ : ByteArray)) ++ t304) ++ (⟨#[32]⟩ : ByteArray)) ++ t305) ++ (⟨#[32]⟩ : ByteArray)) ++ t306) ++ (⟨#[32]⟩ : ByteArray)) ++ t301) ++ (⟨#[32]⟩ : ByteArray)) ++ t307) ++ (⟨#[32]⟩ : ByteArray)).size + t308.size) = False := eq_false (Nat.not_lt.2 c20)
                          have c20b3 : (9223372036854775807 < t303.size + 1 + t304.size + 1 + t305.size + 1 + t306.size + 1 + t301.size + 1 + t307.size + 1 + t308.size) = False := eq_false (Nat.not_lt.2 (by have h_ := c20; simp only [ByteArray.size_append] at h_; exact h_))
                          by_cases c21 : ((((((((((((t303 ++ (⟨#[32]⟩ : ByteArray)) ++ t304) ++ (⟨#[32]⟩ : ByteArray)) ++ t305) ++ (⟨#[32]⟩ : ByteArray)) ++ t306) ++ (⟨#[32]⟩ : ByteArray)) ++ t301) ++ (⟨#[32]⟩ : ByteArray)) ++ t307) ++ (⟨#[32]⟩ : ByteArray)) ++ t308).size + 1 ≤ 9223372036854775807
                          · rw [if_pos c21] at H
                            have c21b0 := eq_true c21
                            have c21b1 : decide (((((((((((((t303 ++ (⟨#[32]⟩ : ByteArray)) ++ t304) ++ (⟨#[32]⟩ : ByteArray)) ++ t305) ++ (⟨#[32]⟩ : ByteArray)) ++ t306) ++ (⟨#[32]⟩ : ByteArray)) ++ t301) ++ (⟨#[32]⟩ : ByteArray)) ++ t307) ++ (⟨#[32]⟩ : ByteArray)) ++ t308).size + 1 ≤ 9223372036854775807) = true := decide_eq_true c21
                            try have c21b2 : (9223372036854775807 < ((((((((((((t303 ++ (⟨#[32]⟩ : ByteArray)) ++ t304) ++ (⟨#[32]⟩ : ByteArray)) ++ t305) ++ (⟨#[32]⟩ : ByteArray)) ++ t306) ++ (⟨#[32]⟩ : ByteArray)) ++ t301) ++ (⟨#[32]⟩ : ByteArray)) ++ t307) ++ (⟨#[32]⟩ : ByteArray)) ++ t308).size + 1) = False := eq_false (Nat.not_lt.2 c21)
                            have c21b3 : (9223372036854775807 < t303.size + 1 + t304.size + 1 + t305.size + 1 + t306.size + 1 + t301.size + 1 + t307.size + 1 + t308.size + 1) = False := eq_false (Nat.not_lt.2 (by have h_ := c21; simp only [ByteArray.size_append] at h_; exact h_))
                            replace H := Option.bind_eq_some_iff.mp H
                            obtain ⟨t309, A220, H⟩ := H
                            replace H : (if (((((((((((((t303 ++ (⟨#[32]⟩ : ByteArray)) ++ t304) ++ (⟨#[32]⟩ : ByteArray)) ++ t305) ++ (⟨#[32]⟩ : ByteArray)) ++ t306) ++ (⟨#[32]⟩ : ByteArray)) ++ t301) ++ (⟨#[32]⟩ : ByteArray)) ++ t307) ++ (⟨#[32]⟩ : ByteArray)) ++ t308) ++ (⟨#[32]⟩ : ByteArray)).size + t309.size ≤ 9223372036854775807 then (some ((((((((((((((t303 ++ (⟨#[32]⟩ : ByteArray)) ++ t304) ++ (⟨#[32]⟩ : ByteArray)) ++ t305) ++ (⟨#[32]⟩ : ByteArray)) ++ t306) ++ (⟨#[32]⟩ : ByteArray)) ++ t301) ++ (⟨#[32]⟩ : ByteArray)) ++ t307) ++ (⟨#[32]⟩ : ByteArray)) ++ t308) ++ (⟨#[32]⟩ : ByteArray)) ++ t309)) else (none)) = some r := H
                            have A22 := Aside0.mk A220
                            clear A220
                            by_cases c23 : (((((((((((((t303 ++ (⟨#[32]⟩ : ByteArray)) ++ t304) ++ (⟨#[32]⟩ : ByteArray)) ++ t305) ++ (⟨#[32]⟩ : ByteArray)) ++ t306) ++ (⟨#[32]⟩ : ByteArray)) ++ t301) ++ (⟨#[32]⟩ : ByteArray)) ++ t307) ++ (⟨#[32]⟩ : ByteArray)) ++ t308) ++ (⟨#[32]⟩ : ByteArray)).size + t309.size ≤ 9223372036854775807
                            · rw [if_pos c23] at H
                              have c23b0 := eq_true c23
                              have c23b1 : decide ((((((((((((((t303 ++ (⟨#[32]⟩ : ByteArray)) ++ t304) ++ (⟨#[32]⟩ : ByteArray)) ++ t305) ++ (⟨#[32]⟩ : ByteArray)) ++ t306) ++ (⟨#[32]⟩ : ByteArray)) ++ t301) ++ (⟨#[32]⟩ : ByteArray)) ++ t307) ++ (⟨#[32]⟩ : ByteArray)) ++ t308) ++ (⟨#[32]⟩ : ByteArray)).size + t309.size ≤ 9223372036854775807) = true := decide_eq_true c23
                              try have c23b2 : (9223372036854775807 < (((((((((((((t303 ++ (⟨#[32]⟩ : ByteArray)) ++ t304) ++ (⟨#[32]⟩ : ByteArray)) ++ t305) ++ (⟨#[32]⟩ : ByteArray)) ++ t306) ++ (⟨#[32]⟩ : ByteArray)) ++ t301) ++ (⟨#[32]⟩ : ByteArray)) ++ t307) ++ (⟨#[32]⟩ : ByteArray)) ++ t308) ++ (⟨#[32]⟩ : ByteArray)).size + t309.size) = False := eq_false (Nat.not_lt.2 c23)
                              have c23b3 : (9223372036854775807 < t303.size + 1 + t304.size + 1 + t305.size + 1 + t306.size + 1 + t301.size + 1 + t307.size + 1 + t308.size + 1 + t309.size) = False := eq_false (Nat.not_lt.2 (by have h_ := c23; simp only [ByteArray.size_append] at h_; exact h_))
                              obtain rfl := Option.some.inj H
                              go_enter Tryd.func41, Tryd.ntmps41
                              try go_wp2_with (first | ((with_reducible refine gate_dst (N := 1) rfl ?_); refine box_event ?hg (N := 1) ?hd (cs := #[.int .u64 a0_0, .int .i64 a0_1, .int .i64 a0_2, .int .i64 a0_3, .int .i64 a0_4, .int .i64 a0_5, .int .i64 a0_6, .int .i64 a0_7]) (t := 36) ?hr ?_; (case hd => rfl); (case hg => rfl); (case hr => first | (go_simp; done) | (go_simp; rfl)); intro gb300 hg w24 hbox hb; have n0_ := Aside0.mk (below_step (by repeat (first | (with_reducible first | exact HB.out | apply below_alloc | apply pw_below_drewN | apply below_drew1) | exact HB.out)) hb); have n1_ := Aside0.mk (hbox); have n2_ := Aside0.mk ((by rw [hg]; exact (below_size (by repeat (first | (with_reducible first | exact HB.out | apply below_alloc | apply pw_below_drewN | apply below_drew1) | exact HB.out))) : w.heap.size ≤ gb300)); have n3_ := Aside0.mk ((by rw [hg]; exact (below_size (by repeat (first | (with_reducible first | exact HB.out | apply below_alloc | apply pw_below_drewN | apply below_drew1) | exact HB.out))) : w.heap.size ≤ gb300)); clear HB; have HB := n0_; have BK300 := n1_; have GW300 := n2_; have GE300 := n3_; clear n0_ n1_ n2_ n3_; clear hb hbox hg; have hcz25_0 : w24.cell? ⟨gb300, 0, none⟩ = some (.int .u64 a0_0) := (blk_cell BK300.out 0).trans rfl; have hcz25_1 : w24.cell? ⟨gb300, 1, none⟩ = some (.int .i64 a0_1) := (blk_cell BK300.out 1).trans rfl; have hcz25_2 : w24.cell? ⟨gb300, 2, none⟩ = some (.int .i64 a0_2) := (blk_cell BK300.out 2).trans rfl; have hcz25_3 : w24.cell? ⟨gb300, 3, none⟩ = some (.int .i64 a0_3) := (blk_cell BK300.out 3).trans rfl; have hcz25_4 : w24.cell? ⟨gb300, 4, none⟩ = some (.int .i64 a0_4) := (blk_cell BK300.out 4).trans rfl; have hcz25_5 : w24.cell? ⟨gb300, 5, none⟩ = some (.int .i64 a0_5) := (blk_cell BK300.out 5).trans rfl; have hcz25_6 : w24.cell? ⟨gb300, 6, none⟩ = some (.int .i64 a0_6) := (blk_cell BK300.out 6).trans rfl; have hcz25_7 : w24.cell? ⟨gb300, 7, none⟩ = some (.int .i64 a0_7) := (blk_cell BK300.out 7).trans rfl; have hfz25_0 := blk_frozen BK300.out 0; have hfz25_1 := blk_frozen BK300.out 1; have hfz25_2 := blk_frozen BK300.out 2; have hfz25_3 := blk_frozen BK300.out 3; have hfz25_4 := blk_frozen BK300.out 4; have hfz25_5 := blk_frozen BK300.out 5; have hfz25_6 := blk_frozen BK300.out 6; have hfz25_7 := blk_frozen BK300.out 7) | ((with_reducible refine gate_callee (f := 13) rfl ?_); refine goesL_ (some 9) rfl rfl Tryd.func13 (by kernel_rfl) rfl #[.int .i64 a0_4] rfl (by (try simp only [List.map_toArray, List.map_cons, List.map_nil]); first | done | rfl | (simp only [List.length_drop, List.length_take]; rfl)) ?_; (with_reducible refine (rotaref25_Name.calls a0_4 t301 t302 _ A2.out).mono ?_); rintro e w26 ⟨rfl, hb⟩; refine ⟨_, rfl, ?_⟩; have n0_ := Aside0.mk (blk_below (g := gb300) (o := .cells #[.int .u64 a0_0, .int .i64 a0_1, .int .i64 a0_2, .int .i64 a0_3, .int .i64 a0_4, .int .i64 a0_5, .int .i64 a0_6, .int .i64 a0_7] 36 (0, 0)) (by (with_reducible repeat (first | refine blk_drewN ?_ _ | refine blk_drew ?_ | refine blk_alloc ?_ _)); exact BK300.out) hb); have n1_ := Aside0.mk (below_step (by repeat (first | (with_reducible first | exact HB.out | apply below_alloc | apply pw_below_drewN | apply below_drew1 | refine below_set ?_ GE300.out) | exact HB.out)) hb); clear BK300; clear HB; have BK300 := n0_; have HB := n1_; clear n0_ n1_; (try clear hb); (try clear hb2); (try clear hk); (try clear hi)))
                              have n0_ := Aside0.mk (blk_drew BK300.out)
                              have n1_ := Aside0.mk (below_drew1 HB.out)
                              clear BK300
                              clear HB
                              have BK300 := n0_
                              have HB := n1_
                              clear n0_ n1_
                              refine start_ (n := 24) (S := fun w' => w'.cell? ⟨gb300, 0, none⟩ = some (.int .u64 a0_0) ∧ w'.cell? ⟨gb300, 1, none⟩ = some (.int .i64 a0_1) ∧ w'.cell? ⟨gb300, 2, none⟩ = some (.int .i64 a0_2) ∧ w'.cell? ⟨gb300, 3, none⟩ = some (.int .i64 a0_3) ∧ w'.cell? ⟨gb300, 4, none⟩ = some (.int .i64 a0_4) ∧ w'.cell? ⟨gb300, 5, none⟩ = some (.int .i64 a0_5) ∧ w'.cell? ⟨gb300, 6, none⟩ = some (.int .i64 a0_6) ∧ w'.cell? ⟨gb300, 7, none⟩ = some (.int .i64 a0_7)) (ds := []) #[false, false, false, false, false, false, false, false, false, false, false, false, false, false, false, false, false, false, false, false, false, false, false, false] (by kernel_rfl) rfl rfl ⟨(blk_cell BK300.out 0).trans rfl, (blk_cell BK300.out 1).trans rfl, (blk_cell BK300.out 2).trans rfl, (blk_cell BK300.out 3).trans rfl, (blk_cell BK300.out 4).trans rfl, (blk_cell BK300.out 5).trans rfl, (blk_cell BK300.out 6).trans rfl, (blk_cell BK300.out 7).trans rfl⟩ (fun hHeld => ?_); refine with_tabW rotaref25_Line.tab2 rotaref25_Line.bits2 (fun HT_ HW_ => ?_)
                              generalize w26.drew = w27 at BK300 HB hHeld ⊢
                              refine pure_ (i := 0) (N := some 12) (v := ?_) (a' := ?_) #[true, false, false, false, false, false, false, false, false, false, false, false, false, false, false, false, false, false, false, false, false, false, false, false] rfl rfl (any_of HT_.out (by kernel_rfl)) (fun _ _ _ h => h) (Or.inl ⟨by rfl, ?_⟩) ?_ ?_
                              rotate_left
                              · intro w'
                                go_simp
                                with_reducible rfl
                              rotate_left
                              · simp only [Act.put, List.setIfInBounds_toArray, List.set_cons_zero, List.set_cons_succ, i64_w, i32_w]
                                rfl
                              refine pure_ (i := 4) (N := some 16) (v := ?_) (a' := ?_) #[true, false, false, false, true, false, false, false, false, false, false, false, false, false, false, false, false, false, false, false, false, false, false, false] rfl rfl (any_of HT_.out (by kernel_rfl)) (fun _ _ _ h => h) (Or.inl ⟨by rfl, ?_⟩) ?_ ?_
                              rotate_left
                              · intro w'
                                go_simp
                                with_reducible rfl
                              rotate_left
                              · simp only [Act.put, List.setIfInBounds_toArray, List.set_cons_zero, List.set_cons_succ, i64_w, i32_w]
                                rfl
                              refine pure_ (i := 9) (N := some 21) (v := ?_) (a' := ?_) #[true, false, false, false, true, false, false, false, false, true, false, false, false, false, false, false, false, false, false, false, false, false, false, false] rfl rfl (any_of HT_.out (by kernel_rfl)) (fun _ _ _ h => h) (Or.inl ⟨by rfl, ?_⟩) ?_ ?_
                              rotate_left
                              · intro w'
                                go_simp
                                with_reducible rfl
                              rotate_left
                              · simp only [Act.put, List.setIfInBounds_toArray, List.set_cons_zero, List.set_cons_succ, i64_w, i32_w]
                                rfl
                              refine pure_ (i := 10) (N := some 22) (v := ?_) (a' := ?_) #[true, false, false, false, true, false, false, false, false, true, true, false, false, false, false, false, false, false, false, false, false, false, false, false] rfl rfl (any_of HT_.out (by kernel_rfl)) (fun _ _ _ h => h) (Or.inl ⟨by rfl, ?_⟩) ?_ ?_
                              rotate_left
                              · intro w'
                                go_simp
                                with_reducible rfl
                              rotate_left
                              · simp only [Act.put, List.setIfInBounds_toArray, List.set_cons_zero, List.set_cons_succ, i64_w, i32_w]
                                rfl
                              refine pure_ (i := 15) (N := some 27) (v := ?_) (a' := ?_) #[true, false, false, false, true, false, false, false, false, true, true, false, false, false, false, true, false, false, false, false, false, false, false, false] rfl rfl (any_of HT_.out (by kernel_rfl)) (fun _ _ _ h => h) (Or.inl ⟨by rfl, ?_⟩) ?_ ?_
                              rotate_left
                              · intro w'
                                go_simp
                                with_reducible rfl
                              rotate_left
                              · simp only [Act.put, List.setIfInBounds_toArray, List.set_cons_zero, List.set_cons_succ, i64_w, i32_w]
                                rfl
                              refine pure_ (i := 16) (N := some 28) (v := ?_) (a' := ?_) #[true, false, false, false, true, false, false, false, false, true, true, false, false, false, false, true, true, false, false, false, false, false, false, false] rfl rfl (any_of HT_.out (by kernel_rfl)) (fun _ _ _ h => h) (Or.inl ⟨by rfl, ?_⟩) ?_ ?_
                              rotate_left
                              · intro w'
                                go_simp
                                with_reducible rfl
                              rotate_left
                              · simp only [Act.put, List.setIfInBounds_toArray, List.set_cons_zero, List.set_cons_succ, i64_w, i32_w]
                                rfl
                              refine pure_ (i := 21) (N := some 33) (v := ?_) (a' := ?_) #[true, false, false, false, true, false, false, false, false, true, true, false, false, false, false, true, true, false, false, false, false, true, false, false] rfl rfl (any_of HT_.out (by kernel_rfl)) (fun _ _ _ h => h) (Or.inl ⟨by rfl, ?_⟩) ?_ ?_
                              rotate_left
                              · intro w'
                                go_simp
                                with_reducible rfl
                              rotate_left
                              · simp only [Act.put, List.setIfInBounds_toArray, List.set_cons_zero, List.set_cons_succ, i64_w, i32_w]
                                rfl
                              refine take_ (i := 1) (N := some 13) (v := ?_) (a' := ?_) #[true, true, false, false, true, false, false, false, false, true, true, false, false, false, false, true, true, false, false, false, false, true, false, false] rfl rfl (take_ofW HT_.out HW_.out (by kernel_rfl)) (fun _ _ _ h => h) (Or.inl ⟨by rfl, ?_⟩) hHeld ?_ ?_
                              rotate_left
                              · rintro w' ⟨s0, s1, s2, s3, s4, s5, s6, s7⟩
                                go_simp
                                with_reducible rfl
                              rotate_left
                              · simp only [Act.put, List.setIfInBounds_toArray, List.set_cons_zero, List.set_cons_succ, i64_w, i32_w]
                                rfl
                              refine take_ (i := 5) (N := some 17) (v := ?_) (a' := ?_) #[true, true, false, false, true, true, false, false, false, true, true, false, false, false, false, true, true, false, false, false, false, true, false, false] rfl rfl (take_ofW HT_.out HW_.out (by kernel_rfl)) (fun _ _ _ h => h) (Or.inl ⟨by rfl, ?_⟩) hHeld ?_ ?_
                              rotate_left
                              · rintro w' ⟨s0, s1, s2, s3, s4, s5, s6, s7⟩
                                go_simp
                                with_reducible rfl
                              rotate_left
                              · simp only [Act.put, List.setIfInBounds_toArray, List.set_cons_zero, List.set_cons_succ, i64_w, i32_w]
                                rfl
                              refine take_ (i := 11) (N := some 23) (v := ?_) (a' := ?_) #[true, true, false, false, true, true, false, false, false, true, true, true, false, false, false, true, true, false, false, false, false, true, false, false] rfl rfl (take_ofW HT_.out HW_.out (by kernel_rfl)) (fun _ _ _ h => h) (Or.inl ⟨by rfl, ?_⟩) hHeld ?_ ?_
                              rotate_left
                              · rintro w' ⟨s0, s1, s2, s3, s4, s5, s6, s7⟩
                                go_simp
                                with_reducible rfl
                              rotate_left
                              · simp only [Act.put, List.setIfInBounds_toArray, List.set_cons_zero, List.set_cons_succ, i64_w, i32_w]
                                rfl
                              refine take_ (i := 17) (N := some 29) (v := ?_) (a' := ?_) #[true, true, false, false, true, true, false, false, false, true, true, true, false, false, false, true, true, true, false, false, false, true, false, false] rfl rfl (take_ofW HT_.out HW_.out (by kernel_rfl)) (fun _ _ _ h => h) (Or.inl ⟨by rfl, ?_⟩) hHeld ?_ ?_
                              rotate_left
                              · rintro w' ⟨s0, s1, s2, s3, s4, s5, s6, s7⟩
                                go_simp
                                with_reducible rfl
                              rotate_left
                              · simp only [Act.put, List.setIfInBounds_toArray, List.set_cons_zero, List.set_cons_succ, i64_w, i32_w]
                                rfl
                              refine one_ (i := 2) (N := some 14) #[true, true, true, false, true, true, false, false, false, true, true, true, false, false, false, true, true, true, false, false, false, true, false, false] rfl rfl (one_of HT_.out (by kernel_rfl)) (by decide) (fun K hK => ?_)
                              refine goes_ Tryd.func49 (by kernel_rfl) rfl #[.int .u64 a0_0] (by rfl) rfl rfl (by (try simp only [List.map_toArray, List.map_cons, List.map_nil]); first | done | rfl | (simp only [List.length_drop, List.length_take]; rfl)) ?_
                              with_reducible refine (rotaref25_number.calls k a0_0 t303 _ A3.out).mono ?_
                              rintro e w28 ⟨rfl, hb⟩
                              refine ⟨_, rfl, ?_⟩
                              have n0_ := Aside0.mk (blk_below (g := gb300) (o := .cells #[.int .u64 a0_0, .int .i64 a0_1, .int .i64 a0_2, .int .i64 a0_3, .int .i64 a0_4, .int .i64 a0_5, .int .i64 a0_6, .int .i64 a0_7] 36 (0, 0)) (by (with_reducible repeat (first | refine blk_drewN ?_ _ | refine blk_drew ?_ | refine blk_alloc ?_ _)); exact BK300.out) hb)
                              have n1_ := Aside0.mk (below_step (by repeat (first | (with_reducible first | exact HB.out | apply below_alloc | apply pw_below_drewN | apply below_drew1 | refine below_set ?_ GE300.out) | exact HB.out)) hb)
                              clear BK300
                              clear HB
                              have BK300 := n0_
                              have HB := n1_
                              clear n0_ n1_
                              (try clear hb)
                              (try clear hb2)
                              (try clear hk)
                              (try clear hi)
                              refine hK.out _ _ ⟨(blk_cell BK300.out 0).trans rfl, (blk_cell BK300.out 1).trans rfl, (blk_cell BK300.out 2).trans rfl, (blk_cell BK300.out 3).trans rfl, (blk_cell BK300.out 4).trans rfl, (blk_cell BK300.out 5).trans rfl, (blk_cell BK300.out 6).trans rfl, (blk_cell BK300.out 7).trans rfl⟩ (fun hHeld => ?_)
                              clear hK K
                              refine norm_ (a' := ?_) ?_ ?_
                              rotate_left
                              · show Act.put _ (some 14) _ = _
                                simp only [Act.put, List.setIfInBounds_toArray, List.set_cons_zero, List.set_cons_succ, i64_w, i32_w]
                                rfl
                              refine pure_ (i := 3) (N := some 15) (v := ?_) (a' := ?_) #[true, true, true, true, true, true, false, false, false, true, true, true, false, false, false, true, true, true, false, false, false, true, false, false] rfl rfl (any_of HT_.out (by kernel_rfl)) (fun _ _ _ h => h) (Or.inl ⟨by rfl, ?_⟩) ?_ ?_
                              rotate_left
                              · intro w'
                                go_simp
                                with_reducible rfl
                              rotate_left
                              · simp only [Act.put, List.setIfInBounds_toArray, List.set_cons_zero, List.set_cons_succ, i64_w, i32_w]
                                rfl
                              refine one_ (i := 6) (N := some 18) #[true, true, true, true, true, true, true, false, false, true, true, true, false, false, false, true, true, true, false, false, false, true, false, false] rfl rfl (one_of HT_.out (by kernel_rfl)) (by decide) (fun K hK => ?_)
                              refine goes_ Tryd.func50 (by kernel_rfl) rfl #[.int .i64 a0_1] (by rfl) rfl rfl (by (try simp only [List.map_toArray, List.map_cons, List.map_nil]); first | done | rfl | (simp only [List.length_drop, List.length_take]; rfl)) ?_
                              with_reducible refine (rotaref19_Number.calls k a0_1 t304 _ A5.out).mono ?_
                              rintro e w29 ⟨rfl, hb⟩
                              refine ⟨_, rfl, ?_⟩
                              have n0_ := Aside0.mk (blk_below (g := gb300) (o := .cells #[.int .u64 a0_0, .int .i64 a0_1, .int .i64 a0_2, .int .i64 a0_3, .int .i64 a0_4, .int .i64 a0_5, .int .i64 a0_6, .int .i64 a0_7] 36 (0, 0)) (by (with_reducible repeat (first | refine blk_drewN ?_ _ | refine blk_drew ?_ | refine blk_alloc ?_ _)); exact BK300.out) hb)
                              have n1_ := Aside0.mk (below_step (by repeat (first | (with_reducible first | exact HB.out | apply below_alloc | apply pw_below_drewN | apply below_drew1 | refine below_set ?_ GE300.out) | exact HB.out)) hb)
                              clear BK300
                              clear HB
                              have BK300 := n0_
                              have HB := n1_
                              clear n0_ n1_
                              (try clear hb)
                              (try clear hb2)
                              (try clear hk)
                              (try clear hi)
                              refine hK.out _ _ ⟨(blk_cell BK300.out 0).trans rfl, (blk_cell BK300.out 1).trans rfl, (blk_cell BK300.out 2).trans rfl, (blk_cell BK300.out 3).trans rfl, (blk_cell BK300.out 4).trans rfl, (blk_cell BK300.out 5).trans rfl, (blk_cell BK300.out 6).trans rfl, (blk_cell BK300.out 7).trans rfl⟩ (fun hHeld => ?_)
                              clear hK K
                              refine norm_ (a' := ?_) ?_ ?_
                              rotate_left
                              · show Act.put _ (some 18) _ = _
                                simp only [Act.put, List.setIfInBounds_toArray, List.set_cons_zero, List.set_cons_succ, i64_w, i32_w]
                                rfl
                              refine pure_ (i := 7) (N := some 19) (v := ?_) (a' := ?_) #[true, true, true, true, true, true, true, true, false, true, true, true, false, false, false, true, true, true, false, false, false, true, false, false] rfl rfl (any_of HT_.out (by kernel_rfl)) (fun _ _ _ h => h) (Or.inl ⟨by rfl, ?_⟩) ?_ ?_
                              rotate_left
                              · intro w'
                                go_simp
                                with_reducible rfl
                              rotate_left
                              · simp only [Act.put, List.setIfInBounds_toArray, List.set_cons_zero, List.set_cons_succ, i64_w, i32_w]
                                rfl
                              refine pure_ (i := 8) (N := some 20) (v := ?_) (a' := ?_) #[true, true, true, true, true, true, true, true, true, true, true, true, false, false, false, true, true, true, false, false, false, true, false, false] rfl rfl (any_of HT_.out (by kernel_rfl)) (fun _ _ _ h => h) (Or.inl ⟨by rfl, ?_⟩) ?_ ?_
                              rotate_left
                              · intro w'
                                go_simp
                                with_reducible rfl
                              rotate_left
                              · simp only [Act.put, List.setIfInBounds_toArray, List.set_cons_zero, List.set_cons_succ, i64_w, i32_w]
                                rfl
                              refine one_ (i := 12) (N := some 24) #[true, true, true, true, true, true, true, true, true, true, true, true, true, false, false, true, true, true, false, false, false, true, false, false] rfl rfl (one_of HT_.out (by kernel_rfl)) (by decide) (fun K hK => ?_)
                              refine goes_ Tryd.func50 (by kernel_rfl) rfl #[.int .i64 a0_2] (by rfl) rfl rfl (by (try simp only [List.map_toArray, List.map_cons, List.map_nil]); first | done | rfl | (simp only [List.length_drop, List.length_take]; rfl)) ?_
                              with_reducible refine (rotaref19_Number.calls k a0_2 t305 _ A8.out).mono ?_
                              rintro e w30 ⟨rfl, hb⟩
                              refine ⟨_, rfl, ?_⟩
                              have n0_ := Aside0.mk (blk_below (g := gb300) (o := .cells #[.int .u64 a0_0, .int .i64 a0_1, .int .i64 a0_2, .int .i64 a0_3, .int .i64 a0_4, .int .i64 a0_5, .int .i64 a0_6, .int .i64 a0_7] 36 (0, 0)) (by (with_reducible repeat (first | refine blk_drewN ?_ _ | refine blk_drew ?_ | refine blk_alloc ?_ _)); exact BK300.out) hb)
                              have n1_ := Aside0.mk (below_step (by repeat (first | (with_reducible first | exact HB.out | apply below_alloc | apply pw_below_drewN | apply below_drew1 | refine below_set ?_ GE300.out) | exact HB.out)) hb)
                              clear BK300
                              clear HB
                              have BK300 := n0_
                              have HB := n1_
                              clear n0_ n1_
                              (try clear hb)
                              (try clear hb2)
                              (try clear hk)
                              (try clear hi)
                              refine hK.out _ _ ⟨(blk_cell BK300.out 0).trans rfl, (blk_cell BK300.out 1).trans rfl, (blk_cell BK300.out 2).trans rfl, (blk_cell BK300.out 3).trans rfl, (blk_cell BK300.out 4).trans rfl, (blk_cell BK300.out 5).trans rfl, (blk_cell BK300.out 6).trans rfl, (blk_cell BK300.out 7).trans rfl⟩ (fun hHeld => ?_)
                              clear hK K
                              refine norm_ (a' := ?_) ?_ ?_
                              rotate_left
                              · show Act.put _ (some 24) _ = _
                                simp only [Act.put, List.setIfInBounds_toArray, List.set_cons_zero, List.set_cons_succ, i64_w, i32_w]
                                rfl
                              refine pure_ (i := 13) (N := some 25) (v := ?_) (a' := ?_) #[true, true, true, true, true, true, true, true, true, true, true, true, true, true, false, true, true, true, false, false, false, true, false, false] rfl rfl (any_of HT_.out (by kernel_rfl)) (fun _ _ _ h => h) (Or.inl ⟨by rfl, ?_⟩) ?_ ?_
                              rotate_left
                              · intro w'
                                go_simp
                                with_reducible rfl
                              rotate_left
                              · simp only [Act.put, List.setIfInBounds_toArray, List.set_cons_zero, List.set_cons_succ, i64_w, i32_w]
                                rfl
                              refine pure_ (i := 14) (N := some 26) (v := ?_) (a' := ?_) #[true, true, true, true, true, true, true, true, true, true, true, true, true, true, true, true, true, true, false, false, false, true, false, false] rfl rfl (any_of HT_.out (by kernel_rfl)) (fun _ _ _ h => h) (Or.inl ⟨by rfl, ?_⟩) ?_ ?_
                              rotate_left
                              · intro w'
                                go_simp
                                with_reducible rfl
                              rotate_left
                              · simp only [Act.put, List.setIfInBounds_toArray, List.set_cons_zero, List.set_cons_succ, i64_w, i32_w]
                                rfl
                              refine one_ (i := 18) (N := some 30) #[true, true, true, true, true, true, true, true, true, true, true, true, true, true, true, true, true, true, true, false, false, true, false, false] rfl rfl (one_of HT_.out (by kernel_rfl)) (by decide) (fun K hK => ?_)
                              refine goes_ Tryd.func50 (by kernel_rfl) rfl #[.int .i64 a0_3] (by rfl) rfl rfl (by (try simp only [List.map_toArray, List.map_cons, List.map_nil]); first | done | rfl | (simp only [List.length_drop, List.length_take]; rfl)) ?_
                              with_reducible refine (rotaref19_Number.calls k a0_3 t306 _ A11.out).mono ?_
                              rintro e w31 ⟨rfl, hb⟩
                              refine ⟨_, rfl, ?_⟩
                              have n0_ := Aside0.mk (blk_below (g := gb300) (o := .cells #[.int .u64 a0_0, .int .i64 a0_1, .int .i64 a0_2, .int .i64 a0_3, .int .i64 a0_4, .int .i64 a0_5, .int .i64 a0_6, .int .i64 a0_7] 36 (0, 0)) (by (with_reducible repeat (first | refine blk_drewN ?_ _ | refine blk_drew ?_ | refine blk_alloc ?_ _)); exact BK300.out) hb)
                              have n1_ := Aside0.mk (below_step (by repeat (first | (with_reducible first | exact HB.out | apply below_alloc | apply pw_below_drewN | apply below_drew1 | refine below_set ?_ GE300.out) | exact HB.out)) hb)
                              clear BK300
                              clear HB
                              have BK300 := n0_
                              have HB := n1_
                              clear n0_ n1_
                              (try clear hb)
                              (try clear hb2)
                              (try clear hk)
                              (try clear hi)
                              refine hK.out _ _ ⟨(blk_cell BK300.out 0).trans rfl, (blk_cell BK300.out 1).trans rfl, (blk_cell BK300.out 2).trans rfl, (blk_cell BK300.out 3).trans rfl, (blk_cell BK300.out 4).trans rfl, (blk_cell BK300.out 5).trans rfl, (blk_cell BK300.out 6).trans rfl, (blk_cell BK300.out 7).trans rfl⟩ (fun hHeld => ?_)
                              clear hK K
                              refine norm_ (a' := ?_) ?_ ?_
                              rotate_left
                              · show Act.put _ (some 30) _ = _
                                simp only [Act.put, List.setIfInBounds_toArray, List.set_cons_zero, List.set_cons_succ, i64_w, i32_w]
                                rfl
                              refine pure_ (i := 19) (N := some 31) (v := ?_) (a' := ?_) #[true, true, true, true, true, true, true, true, true, true, true, true, true, true, true, true, true, true, true, true, false, true, false, false] rfl rfl (any_of HT_.out (by kernel_rfl)) (fun _ _ _ h => h) (Or.inl ⟨by rfl, ?_⟩) ?_ ?_
                              rotate_left
                              · intro w'
                                go_simp
                                with_reducible rfl
                              rotate_left
                              · simp only [Act.put, List.setIfInBounds_toArray, List.set_cons_zero, List.set_cons_succ, i64_w, i32_w]
                                rfl
                              refine pure_ (i := 20) (N := some 32) (v := ?_) (a' := ?_) #[true, true, true, true, true, true, true, true, true, true, true, true, true, true, true, true, true, true, true, true, true, true, false, false] rfl rfl (any_of HT_.out (by kernel_rfl)) (fun _ _ _ h => h) (Or.inl ⟨by rfl, ?_⟩) ?_ ?_
                              rotate_left
                              · intro w'
                                go_simp
                                with_reducible rfl
                              rotate_left
                              · simp only [Act.put, List.setIfInBounds_toArray, List.set_cons_zero, List.set_cons_succ, i64_w, i32_w]
                                rfl
                              refine pure_ (i := 22) (N := some 34) (v := ?_) (a' := ?_) #[true, true, true, true, true, true, true, true, true, true, true, true, true, true, true, true, true, true, true, true, true, true, true, false] rfl rfl (any_of HT_.out (by kernel_rfl)) (fun _ _ _ h => h) (Or.inl ⟨by rfl, ?_⟩) ?_ ?_
                              rotate_left
                              · intro w'
                                go_simp
                                with_reducible rfl
                              rotate_left
                              · simp only [Act.put, List.setIfInBounds_toArray, List.set_cons_zero, List.set_cons_succ, i64_w, i32_w]
                                rfl
                              refine pure_ (i := 23) (N := some 5) (v := ?_) (a' := ?_) #[true, true, true, true, true, true, true, true, true, true, true, true, true, true, true, true, true, true, true, true, true, true, true, true] rfl rfl (any_of HT_.out (by kernel_rfl)) (fun _ _ _ h => h) (Or.inl ⟨by rfl, ?_⟩) ?_ ?_
                              rotate_left
                              · intro w'
                                go_simp
                                with_reducible rfl
                              rotate_left
                              · simp only [Act.put, List.setIfInBounds_toArray, List.set_cons_zero, List.set_cons_succ, i64_w, i32_w]
                                rfl
                              refine done_ (done_of HT_.out (by kernel_rfl)) ?_
                              try go_wp2
                              have n0_ := Aside0.mk (blk_drew BK300.out)
                              have n1_ := Aside0.mk (below_drew1 HB.out)
                              clear BK300
                              clear HB
                              have BK300 := n0_
                              have HB := n1_
                              clear n0_ n1_
                              refine start_ (n := 17) (S := fun w' => w'.cell? ⟨gb300, 0, none⟩ = some (.int .u64 a0_0) ∧ w'.cell? ⟨gb300, 1, none⟩ = some (.int .i64 a0_1) ∧ w'.cell? ⟨gb300, 2, none⟩ = some (.int .i64 a0_2) ∧ w'.cell? ⟨gb300, 3, none⟩ = some (.int .i64 a0_3) ∧ w'.cell? ⟨gb300, 4, none⟩ = some (.int .i64 a0_4) ∧ w'.cell? ⟨gb300, 5, none⟩ = some (.int .i64 a0_5) ∧ w'.cell? ⟨gb300, 6, none⟩ = some (.int .i64 a0_6) ∧ w'.cell? ⟨gb300, 7, none⟩ = some (.int .i64 a0_7)) (ds := []) #[false, false, false, false, false, false, false, false, false, false, false, false, false, false, false, false, false] (by kernel_rfl) rfl rfl ⟨(blk_cell BK300.out 0).trans rfl, (blk_cell BK300.out 1).trans rfl, (blk_cell BK300.out 2).trans rfl, (blk_cell BK300.out 3).trans rfl, (blk_cell BK300.out 4).trans rfl, (blk_cell BK300.out 5).trans rfl, (blk_cell BK300.out 6).trans rfl, (blk_cell BK300.out 7).trans rfl⟩ (fun hHeld => ?_); refine with_tabW rotaref25_Line.tab3 rotaref25_Line.bits3 (fun HT_ HW_ => ?_)
                              generalize w31.drew = w32 at BK300 HB hHeld ⊢
                              refine pure_ (i := 0) (N := some 35) (v := ?_) (a' := ?_) #[true, false, false, false, false, false, false, false, false, false, false, false, false, false, false, false, false] rfl rfl (any_of HT_.out (by kernel_rfl)) (fun _ _ _ h => h) (Or.inl ⟨by rfl, ?_⟩) ?_ ?_
                              rotate_left
                              · intro w'
                                go_simp
                                with_reducible rfl
                              rotate_left
                              · simp only [Act.put, List.setIfInBounds_toArray, List.set_cons_zero, List.set_cons_succ, i64_w, i32_w]
                                rfl
                              refine pure_ (i := 1) (N := some 36) (v := ?_) (a' := ?_) #[true, true, false, false, false, false, false, false, false, false, false, false, false, false, false, false, false] rfl rfl (any_of HT_.out (by kernel_rfl)) (fun _ _ _ h => h) (Or.inl ⟨by rfl, ?_⟩) ?_ ?_
                              rotate_left
                              · intro w'
                                go_simp
                                with_reducible rfl
                              rotate_left
                              · simp only [Act.put, List.setIfInBounds_toArray, List.set_cons_zero, List.set_cons_succ, i64_w, i32_w]
                                rfl
                              refine pure_ (i := 2) (N := some 37) (v := ?_) (a' := ?_) #[true, true, true, false, false, false, false, false, false, false, false, false, false, false, false, false, false] rfl rfl (any_of HT_.out (by kernel_rfl)) (fun _ _ _ h => h) (Or.inl ⟨by rfl, ?_⟩) ?_ ?_
                              rotate_left
                              · intro w'
                                go_simp
                                with_reducible rfl
                              rotate_left
                              · simp only [Act.put, List.setIfInBounds_toArray, List.set_cons_zero, List.set_cons_succ, i64_w, i32_w]
                                rfl
                              refine pure_ (i := 7) (N := some 42) (v := ?_) (a' := ?_) #[true, true, true, false, false, false, false, true, false, false, false, false, false, false, false, false, false] rfl rfl (any_of HT_.out (by kernel_rfl)) (fun _ _ _ h => h) (Or.inl ⟨by rfl, ?_⟩) ?_ ?_
                              rotate_left
                              · intro w'
                                go_simp
                                with_reducible rfl
                              rotate_left
                              · simp only [Act.put, List.setIfInBounds_toArray, List.set_cons_zero, List.set_cons_succ, i64_w, i32_w]
                                rfl
                              refine pure_ (i := 12) (N := some 47) (v := ?_) (a' := ?_) #[true, true, true, false, false, false, false, true, false, false, false, false, true, false, false, false, false] rfl rfl (any_of HT_.out (by kernel_rfl)) (fun _ _ _ h => h) (Or.inl ⟨by rfl, ?_⟩) ?_ ?_
                              rotate_left
                              · intro w'
                                go_simp
                                with_reducible rfl
                              rotate_left
                              · simp only [Act.put, List.setIfInBounds_toArray, List.set_cons_zero, List.set_cons_succ, i64_w, i32_w]
                                rfl
                              refine take_ (i := 3) (N := some 38) (v := ?_) (a' := ?_) #[true, true, true, true, false, false, false, true, false, false, false, false, true, false, false, false, false] rfl rfl (take_ofW HT_.out HW_.out (by kernel_rfl)) (fun _ _ _ h => h) (Or.inl ⟨by rfl, ?_⟩) hHeld ?_ ?_
                              rotate_left
                              · rintro w' ⟨s0, s1, s2, s3, s4, s5, s6, s7⟩
                                go_simp
                                with_reducible rfl
                              rotate_left
                              · simp only [Act.put, List.setIfInBounds_toArray, List.set_cons_zero, List.set_cons_succ, i64_w, i32_w]
                                rfl
                              refine take_ (i := 8) (N := some 43) (v := ?_) (a' := ?_) #[true, true, true, true, false, false, false, true, true, false, false, false, true, false, false, false, false] rfl rfl (take_ofW HT_.out HW_.out (by kernel_rfl)) (fun _ _ _ h => h) (Or.inl ⟨by rfl, ?_⟩) hHeld ?_ ?_
                              rotate_left
                              · rintro w' ⟨s0, s1, s2, s3, s4, s5, s6, s7⟩
                                go_simp
                                with_reducible rfl
                              rotate_left
                              · simp only [Act.put, List.setIfInBounds_toArray, List.set_cons_zero, List.set_cons_succ, i64_w, i32_w]
                                rfl
                              refine take_ (i := 13) (N := some 48) (v := ?_) (a' := ?_) #[true, true, true, true, false, false, false, true, true, false, false, false, true, true, false, false, false] rfl rfl (take_ofW HT_.out HW_.out (by kernel_rfl)) (fun _ _ _ h => h) (Or.inl ⟨by rfl, ?_⟩) hHeld ?_ ?_
                              rotate_left
                              · rintro w' ⟨s0, s1, s2, s3, s4, s5, s6, s7⟩
                                go_simp
                                with_reducible rfl
                              rotate_left
                              · simp only [Act.put, List.setIfInBounds_toArray, List.set_cons_zero, List.set_cons_succ, i64_w, i32_w]
                                rfl
                              refine one_ (i := 4) (N := some 39) #[true, true, true, true, true, false, false, true, true, false, false, false, true, true, false, false, false] rfl rfl (one_of HT_.out (by kernel_rfl)) (by decide) (fun K hK => ?_)
                              refine goes_ Tryd.func50 (by kernel_rfl) rfl #[.int .i64 a0_5] (by rfl) rfl rfl (by (try simp only [List.map_toArray, List.map_cons, List.map_nil]); first | done | rfl | (simp only [List.length_drop, List.length_take]; rfl)) ?_
                              with_reducible refine (rotaref19_Number.calls k a0_5 t307 _ A16.out).mono ?_
                              rintro e w33 ⟨rfl, hb⟩
                              refine ⟨_, rfl, ?_⟩
                              have n0_ := Aside0.mk (blk_below (g := gb300) (o := .cells #[.int .u64 a0_0, .int .i64 a0_1, .int .i64 a0_2, .int .i64 a0_3, .int .i64 a0_4, .int .i64 a0_5, .int .i64 a0_6, .int .i64 a0_7] 36 (0, 0)) (by (with_reducible repeat (first | refine blk_drewN ?_ _ | refine blk_drew ?_ | refine blk_alloc ?_ _)); exact BK300.out) hb)
                              have n1_ := Aside0.mk (below_step (by repeat (first | (with_reducible first | exact HB.out | apply below_alloc | apply pw_below_drewN | apply below_drew1 | refine below_set ?_ GE300.out) | exact HB.out)) hb)
                              clear BK300
                              clear HB
                              have BK300 := n0_
                              have HB := n1_
                              clear n0_ n1_
                              (try clear hb)
                              (try clear hb2)
                              (try clear hk)
                              (try clear hi)
                              refine hK.out _ _ ⟨(blk_cell BK300.out 0).trans rfl, (blk_cell BK300.out 1).trans rfl, (blk_cell BK300.out 2).trans rfl, (blk_cell BK300.out 3).trans rfl, (blk_cell BK300.out 4).trans rfl, (blk_cell BK300.out 5).trans rfl, (blk_cell BK300.out 6).trans rfl, (blk_cell BK300.out 7).trans rfl⟩ (fun hHeld => ?_)
                              clear hK K
                              refine norm_ (a' := ?_) ?_ ?_
                              rotate_left
                              · show Act.put _ (some 39) _ = _
                                simp only [Act.put, List.setIfInBounds_toArray, List.set_cons_zero, List.set_cons_succ, i64_w, i32_w]
                                rfl
                              refine pure_ (i := 5) (N := some 40) (v := ?_) (a' := ?_) #[true, true, true, true, true, true, false, true, true, false, false, false, true, true, false, false, false] rfl rfl (any_of HT_.out (by kernel_rfl)) (fun _ _ _ h => h) (Or.inl ⟨by rfl, ?_⟩) ?_ ?_
                              rotate_left
                              · intro w'
                                go_simp
                                with_reducible rfl
                              rotate_left
                              · simp only [Act.put, List.setIfInBounds_toArray, List.set_cons_zero, List.set_cons_succ, i64_w, i32_w]
                                rfl
                              refine pure_ (i := 6) (N := some 41) (v := ?_) (a' := ?_) #[true, true, true, true, true, true, true, true, true, false, false, false, true, true, false, false, false] rfl rfl (any_of HT_.out (by kernel_rfl)) (fun _ _ _ h => h) (Or.inl ⟨by rfl, ?_⟩) ?_ ?_
                              rotate_left
                              · intro w'
                                go_simp
                                with_reducible rfl
                              rotate_left
                              · simp only [Act.put, List.setIfInBounds_toArray, List.set_cons_zero, List.set_cons_succ, i64_w, i32_w]
                                rfl
                              refine one_ (i := 9) (N := some 44) #[true, true, true, true, true, true, true, true, true, true, false, false, true, true, false, false, false] rfl rfl (one_of HT_.out (by kernel_rfl)) (by decide) (fun K hK => ?_)
                              refine goes_ Tryd.func50 (by kernel_rfl) rfl #[.int .i64 a0_6] (by rfl) rfl rfl (by (try simp only [List.map_toArray, List.map_cons, List.map_nil]); first | done | rfl | (simp only [List.length_drop, List.length_take]; rfl)) ?_
                              with_reducible refine (rotaref19_Number.calls k a0_6 t308 _ A19.out).mono ?_
                              rintro e w34 ⟨rfl, hb⟩
                              refine ⟨_, rfl, ?_⟩
                              have n0_ := Aside0.mk (blk_below (g := gb300) (o := .cells #[.int .u64 a0_0, .int .i64 a0_1, .int .i64 a0_2, .int .i64 a0_3, .int .i64 a0_4, .int .i64 a0_5, .int .i64 a0_6, .int .i64 a0_7] 36 (0, 0)) (by (with_reducible repeat (first | refine blk_drewN ?_ _ | refine blk_drew ?_ | refine blk_alloc ?_ _)); exact BK300.out) hb)
                              have n1_ := Aside0.mk (below_step (by repeat (first | (with_reducible first | exact HB.out | apply below_alloc | apply pw_below_drewN | apply below_drew1 | refine below_set ?_ GE300.out) | exact HB.out)) hb)
                              clear BK300
                              clear HB
                              have BK300 := n0_
                              have HB := n1_
                              clear n0_ n1_
                              (try clear hb)
                              (try clear hb2)
                              (try clear hk)
                              (try clear hi)
                              refine hK.out _ _ ⟨(blk_cell BK300.out 0).trans rfl, (blk_cell BK300.out 1).trans rfl, (blk_cell BK300.out 2).trans rfl, (blk_cell BK300.out 3).trans rfl, (blk_cell BK300.out 4).trans rfl, (blk_cell BK300.out 5).trans rfl, (blk_cell BK300.out 6).trans rfl, (blk_cell BK300.out 7).trans rfl⟩ (fun hHeld => ?_)
                              clear hK K
                              refine norm_ (a' := ?_) ?_ ?_
                              rotate_left
                              · show Act.put _ (some 44) _ = _
                                simp only [Act.put, List.setIfInBounds_toArray, List.set_cons_zero, List.set_cons_succ, i64_w, i32_w]
                                rfl
                              refine pure_ (i := 10) (N := some 45) (v := ?_) (a' := ?_) #[true, true, true, true, true, true, true, true, true, true, true, false, true, true, false, false, false] rfl rfl (any_of HT_.out (by kernel_rfl)) (fun _ _ _ h => h) (Or.inl ⟨by rfl, ?_⟩) ?_ ?_
                              rotate_left
                              · intro w'
                                go_simp
                                with_reducible rfl
                              rotate_left
                              · simp only [Act.put, List.setIfInBounds_toArray, List.set_cons_zero, List.set_cons_succ, i64_w, i32_w]
                                rfl
                              refine pure_ (i := 11) (N := some 46) (v := ?_) (a' := ?_) #[true, true, true, true, true, true, true, true, true, true, true, true, true, true, false, false, false] rfl rfl (any_of HT_.out (by kernel_rfl)) (fun _ _ _ h => h) (Or.inl ⟨by rfl, ?_⟩) ?_ ?_
                              rotate_left
                              · intro w'
                                go_simp
                                with_reducible rfl
                              rotate_left
                              · simp only [Act.put, List.setIfInBounds_toArray, List.set_cons_zero, List.set_cons_succ, i64_w, i32_w]
                                rfl
                              refine one_ (i := 14) (N := some 49) #[true, true, true, true, true, true, true, true, true, true, true, true, true, true, true, false, false] rfl rfl (one_of HT_.out (by kernel_rfl)) (by decide) (fun K hK => ?_)
                              refine goes_ Tryd.func50 (by kernel_rfl) rfl #[.int .i64 a0_7] (by rfl) rfl rfl (by (try simp only [List.map_toArray, List.map_cons, List.map_nil]); first | done | rfl | (simp only [List.length_drop, List.length_take]; rfl)) ?_
                              with_reducible refine (rotaref19_Number.calls k a0_7 t309 _ A22.out).mono ?_
                              rintro e w35 ⟨rfl, hb⟩
                              refine ⟨_, rfl, ?_⟩
                              have n0_ := Aside0.mk (blk_below (g := gb300) (o := .cells #[.int .u64 a0_0, .int .i64 a0_1, .int .i64 a0_2, .int .i64 a0_3, .int .i64 a0_4, .int .i64 a0_5, .int .i64 a0_6, .int .i64 a0_7] 36 (0, 0)) (by (with_reducible repeat (first | refine blk_drewN ?_ _ | refine blk_drew ?_ | refine blk_alloc ?_ _)); exact BK300.out) hb)
                              have n1_ := Aside0.mk (below_step (by repeat (first | (with_reducible first | exact HB.out | apply below_alloc | apply pw_below_drewN | apply below_drew1 | refine below_set ?_ GE300.out) | exact HB.out)) hb)
                              clear BK300
                              clear HB
                              have BK300 := n0_
                              have HB := n1_
                              clear n0_ n1_
                              (try clear hb)
                              (try clear hb2)
                              (try clear hk)
                              (try clear hi)
                              refine hK.out _ _ ⟨(blk_cell BK300.out 0).trans rfl, (blk_cell BK300.out 1).trans rfl, (blk_cell BK300.out 2).trans rfl, (blk_cell BK300.out 3).trans rfl, (blk_cell BK300.out 4).trans rfl, (blk_cell BK300.out 5).trans rfl, (blk_cell BK300.out 6).trans rfl, (blk_cell BK300.out 7).trans rfl⟩ (fun hHeld => ?_)
                              clear hK K
                              refine norm_ (a' := ?_) ?_ ?_
                              rotate_left
                              · show Act.put _ (some 49) _ = _
                                simp only [Act.put, List.setIfInBounds_toArray, List.set_cons_zero, List.set_cons_succ, i64_w, i32_w]
                                rfl
                              refine pure_ (i := 15) (N := some 50) (v := ?_) (a' := ?_) #[true, true, true, true, true, true, true, true, true, true, true, true, true, true, true, true, false] rfl rfl (any_of HT_.out (by kernel_rfl)) (fun _ _ _ h => h) (Or.inl ⟨by rfl, ?_⟩) ?_ ?_
                              rotate_left
                              · intro w'
                                go_simp
                                with_reducible rfl
                              rotate_left
                              · simp only [Act.put, List.setIfInBounds_toArray, List.set_cons_zero, List.set_cons_succ, i64_w, i32_w]
                                rfl
                              refine pure_ (i := 16) (N := some 2) (v := ?_) (a' := ?_) #[true, true, true, true, true, true, true, true, true, true, true, true, true, true, true, true, true] rfl rfl (any_of HT_.out (by kernel_rfl)) (fun _ _ _ h => h) (Or.inl ⟨by rfl, ?_⟩) ?_ ?_
                              rotate_left
                              · intro w'
                                go_simp
                                with_reducible rfl
                              rotate_left
                              · simp only [Act.put, List.setIfInBounds_toArray, List.set_cons_zero, List.set_cons_succ, i64_w, i32_w]
                                rfl
                              refine done_ (done_of HT_.out (by kernel_rfl)) ?_
                              try go_wp2
                              go_ret
                              exact ⟨by first | rfl | (simp [errW_none, errW_some] <;> rfl) | (simp [*, errW_none, errW_some] <;> rfl), by repeat (first | (with_reducible first | exact HB.out | apply below_alloc | apply pw_below_drewN | apply below_drew1 | refine below_set ?_ GE300.out) | exact HB.out)⟩
                            · rw [if_neg c23] at H
                              exact absurd H (by simp)
                          · rw [if_neg c21] at H
                            exact absurd H (by simp)
                        · rw [if_neg c20] at H
                          exact absurd H (by simp)
                      · rw [if_neg c18] at H
                        exact absurd H (by simp)
                    · rw [if_neg c17] at H
                      exact absurd H (by simp)
                  · rw [if_neg c15] at H
                    exact absurd H (by simp)
                · rw [if_neg c14] at H
                  exact absurd H (by simp)
              · rw [if_neg c13] at H
                exact absurd H (by simp)
            · rw [if_neg c12] at H
              exact absurd H (by simp)
          · rw [if_neg c10] at H
            exact absurd H (by simp)
        · rw [if_neg c9] at H
          exact absurd H (by simp)
      · rw [if_neg c7] at H
        exact absurd H (by simp)
    · rw [if_neg c6] at H
      exact absurd H (by simp)
  · rw [if_neg c4] at H
    exact absurd H (by simp)

end Go.Proofs.YtphbepddhhdhmaaDoor.GA
end
