/-
  What word.find, word.Find and word.mask come to.
-/
import Derived.Test.YteggfenbifpkkaaHtab
import Derived.Outline
import Derived.Test.YteggfenbifpkkaaWMore
import Derived.Lib.Hide
namespace Go.Proofs.Yteggfenbifpkkaa.Hfind
open Go.RowKit Go.Proofs.Yteggfenbifpkkaa.Htab Go.Proofs.YteggfenbifpkkaaW.PrintWords

def row0 : ByteArray × Int × Int × ByteArray × ByteArray := (⟨#[]⟩, 0, 0, ⟨#[]⟩, ⟨#[]⟩)
def rowAt (k : Nat) : ByteArray × Int × Int × ByteArray × ByteArray := rows.getD k row0
def cellsOf (r : ByteArray × Int × Int × ByteArray × ByteArray) : Array Value := #[.string r.1, .int .i64 r.2.1, .int .i64 r.2.2.1, .string r.2.2.2.1, .string r.2.2.2.2]

theorem of_range {α : Type} (n : Nat) (f g : Nat → α) (h : (List.range n).map f = (List.range n).map g) (k : Nat) (hk : k < n) : f k = g k := by
  have := congrArg (fun l => l[k]?) h
  simpa [List.getElem?_map, List.getElem?_range hk] using this
theorem extract_at (k : Nat) (hk : k < 58) : T58.extract (k * 5) (k * 5 + 5) = cellsOf (rowAt k) :=
  of_range 58 (fun k => T58.extract (k * 5) (k * 5 + 5)) (fun k => cellsOf (rowAt k)) (by kernel_rfl) k hk
theorem index_at (k : Nat) (hk : k < 58) (w : World) : (Instr.index 58 (.agg T58) (.int .i64 k)).run Try.prog w = .ok (.agg (cellsOf (rowAt k))) w := by
  have h1 : ∀ w, ((sizeOf 53).run Try.prog w) = .ok 5 w := fun w => by kernel_rfl
  have h2 : ∀ w, ((isAgg 53).run Try.prog w) = .ok true w := fun w => by kernel_rfl
  have h3 := extract_at k hk
  have h4 : (k : Int) < 58 := by omega
  have hx : ∀ j : Int, 0 ≤ j → j < 58 → (Instr.index 58 (.agg T58) (.int .i64 j)).run Try.prog w = .ok (.agg (T58.extract (j.toNat * 5) (j.toNat * 5 + 5))) w := by
    intro j h0 h1'
    simp [Instr.index, asIntOf, run_underlying Try.underlying58, part, h1, h2, h0, h1']
  rw [hx k (by omega) h4, Int.toNat_natCast, h3]

theorem bcell {W w1 : World} (hb : Below W.heap.size W w1) : (∀ b o, b < W.heap.size → w1.cell? ⟨b, o, none⟩ = W.cell? ⟨b, o, none⟩) ∧ (∀ b o, b < W.heap.size → w1.frozen? ⟨b, o, none⟩ = W.frozen? ⟨b, o, none⟩) :=
  ⟨fun b o h => hb.cell (p := ⟨b, o, none⟩) h, fun b o h => hb.frozen (p := ⟨b, o, none⟩) h⟩

set_option maxHeartbeats 1000000 in
set_option maxRecDepth 100000 in
theorem find_in (k : Nat) (hk : k < 58) (w : World) :
    Calls Try.prog 31 #[.int .i64 (k + 1)] w fun e w' => e = .returned (.tuple #[.agg (cellsOf (rowAt k)), .int .i64 0]) ∧ Below w.heap.size w w' := by
  have hu := Try.underlying53
  have g0 : (0 : Int) ≤ k := by omega
  have g1 : (k : Int) < 58 := by omega
  have ix : ∀ w : World, (Instr.index 58 (.agg T58) (.int .i64 k)).run Try.prog w = .ok (.agg #[.string (rowAt k).1, .int .i64 (rowAt k).2.1, .int .i64 (rowAt k).2.2.1, .string (rowAt k).2.2.2.1, .string (rowAt k).2.2.2.2]) w := index_at k hk
  unfold cellsOf
  generalize rowAt k = r at ix ⊢
  go_enter Try.func31, Try.ntmps31
  go_wp2_with (first | (go_at_call 34; refine (table_calls _).mono ?_; rintro e w' ⟨rfl, hb⟩; obtain ⟨hc, hf⟩ := bcell hb))
  refine bodyPost_ret (results_ct rfl _ _ w.heap.size 53 #[.string r.1, .int .i64 r.2.1, .int .i64 r.2.2.1, .string r.2.2.2.1, .string r.2.2.2.2] (0, 0) _ rfl ?hb hu rfl (by kernel_rfl)) rfl ⟨rfl, ?_⟩
  case hb =>
    refine blk_put (cs := #[.string r.1, .int .i64 r.2.1, .int .i64 r.2.2.1, .string r.2.2.2.1, .string ⟨#[]⟩]) ?_ 4 _ rfl
    refine blk_put (cs := #[.string r.1, .int .i64 r.2.1, .int .i64 r.2.2.1, .string ⟨#[]⟩, .string ⟨#[]⟩]) ?_ 3 _ rfl
    refine blk_put (cs := #[.string r.1, .int .i64 r.2.1, .int .i64 0, .string ⟨#[]⟩, .string ⟨#[]⟩]) ?_ 2 _ rfl
    refine blk_put (cs := #[.string r.1, .int .i64 0, .int .i64 0, .string ⟨#[]⟩, .string ⟨#[]⟩]) ?_ 1 _ rfl
    refine blk_put (cs := #[.string ⟨#[]⟩, .int .i64 0, .int .i64 0, .string ⟨#[]⟩, .string ⟨#[]⟩]) ?_ 0 _ rfl
    exact blk_below (blk_new _ _) hb
  iterate 5 refine Below.setCell ?_ (Nat.le_refl w.heap.size) _
  refine Below.trans ((Below.refl w.heap.size w).alloc (Nat.le_refl _) _) (hb.mono ?_)
  rw [World.size_alloc]
  exact Nat.le_succ _

set_option maxHeartbeats 1000000 in
set_option maxRecDepth 100000 in
theorem find_out (n : Int) (h : n ≤ 0 ∨ 59 ≤ n) (w : World) :
    Calls Try.prog 31 #[.int .i64 n] w fun e w' => e = .returned (.tuple #[.agg (cellsOf row0), .int .i64 60]) ∧ Below w.heap.size w w' := by
  have hu := Try.underlying53
  unfold cellsOf row0
  rcases h with h | h
  all_goals
    go_enter Try.func31, Try.ntmps31
    go_wp2
    refine bodyPost_ret (results_ct rfl _ _ w.heap.size 53 #[.string ⟨#[]⟩, .int .i64 0, .int .i64 0, .string ⟨#[]⟩, .string ⟨#[]⟩] (0, 0) _ rfl ?_ hu rfl (by kernel_rfl)) rfl ⟨rfl, ?_⟩
    · exact blk_new _ _
    exact (Below.refl _ _).alloc (Nat.le_refl _) _
end Go.Proofs.Yteggfenbifpkkaa.Hfind
