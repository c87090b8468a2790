/-
  What word.Find comes to.
-/
import Derived.Test.YteggfenbifpkkaaHfind
namespace Go.Proofs.Yteggfenbifpkkaa.Hfind
open Go.RowKit Go.Proofs.Yteggfenbifpkkaa.Htab Go.Proofs.YteggfenbifpkkaaW.PrintWords

set_option maxHeartbeats 1000000 in
set_option maxRecDepth 100000 in
theorem Find_no (s : ByteArray) (h : ∀ k < 58, ((rowAt k).1.toList == s.toList) = false) (w : World) :
    Calls Try.prog 17 #[.string s] w fun e w' => e = .returned (.tuple #[.int .i64 0, .int .i64 60]) ∧ Below w.heap.size w w' := by
  have hu := Try.underlying53
  have H := Lib.hid h
  clear h
  go_enter Try.func17, Try.ntmps17
  go_wp2_with (first | (go_at_call 34; refine (table_calls _).mono ?_; rintro e w' ⟨rfl, hb⟩; obtain ⟨hc, hf⟩ := bcell hb))
  go_loopw [7] (fun i wr => ∃ k : Nat, k ≤ 58 ∧ i = .int .i64 k ∧ Below w.heap.size w wr) (fun i _ => 58 - (intOf i).toNat)
  case atStart => exact ⟨0, by omega, rfl, hb⟩
  case round =>
    obtain ⟨k, hk, rfl, hbk⟩ := hrel
    by_cases hlt : k < 58
    · have hs := H.out k hlt
      have ix : ∀ w : World, (Instr.index 58 (.agg T58) (.int .i64 k)).run Try.prog w = .ok (.agg #[.string (rowAt k).1, .int .i64 (rowAt k).2.1, .int .i64 (rowAt k).2.2.1, .string (rowAt k).2.2.2.1, .string (rowAt k).2.2.2.2]) w := index_at k hlt
      generalize rowAt k = r at ix hs
      go_wp2
      exact ⟨⟨k + 1, by omega, by go_num, hbk.alloc hbk.size _⟩, by simp [intOf]; omega⟩
    · go_wp2
      go_ret2
      exact ⟨rfl, hbk⟩

set_option maxHeartbeats 1000000 in
set_option maxRecDepth 100000 in
theorem Find_yes (s : ByteArray) (n : Nat) (hn : n < 58) (h : ∀ k < n, ((rowAt k).1.toList == s.toList) = false) (hy : ((rowAt n).1.toList == s.toList) = true) (w : World) :
    Calls Try.prog 17 #[.string s] w fun e w' => e = .returned (.tuple #[.int .i64 (n + 1), .int .i64 0]) ∧ Below w.heap.size w w' := by
  have hu := Try.underlying53
  have H := Lib.hid h
  have HY := Lib.hid hy
  clear h hy
  go_enter Try.func17, Try.ntmps17
  go_wp2_with (first | (go_at_call 34; refine (table_calls _).mono ?_; rintro e w' ⟨rfl, hb⟩; obtain ⟨hc, hf⟩ := bcell hb))
  go_loopw [7] (fun i wr => ∃ k : Nat, k ≤ n ∧ i = .int .i64 k ∧ Below w.heap.size w wr) (fun i _ => 58 - (intOf i).toNat)
  case atStart => exact ⟨0, by omega, rfl, hb⟩
  case round =>
    obtain ⟨k, hk, rfl, hbk⟩ := hrel
    have hlt : k < 58 := by omega
    have ix : ∀ w : World, (Instr.index 58 (.agg T58) (.int .i64 k)).run Try.prog w = .ok (.agg #[.string (rowAt k).1, .int .i64 (rowAt k).2.1, .int .i64 (rowAt k).2.2.1, .string (rowAt k).2.2.2.1, .string (rowAt k).2.2.2.2]) w := index_at k hlt
    by_cases hl : k < n
    · have hs := H.out k hl
      generalize rowAt k = r at ix hs
      go_wp2
      exact ⟨⟨k + 1, by omega, by go_num, hbk.alloc hbk.size _⟩, by simp [intOf]; omega⟩
    · obtain rfl : k = n := by omega
      have hs := HY.out
      generalize rowAt k = r at ix hs
      go_wp2
      go_ret2
      exact ⟨rfl, hbk.alloc hbk.size _⟩
end Go.Proofs.Yteggfenbifpkkaa.Hfind
