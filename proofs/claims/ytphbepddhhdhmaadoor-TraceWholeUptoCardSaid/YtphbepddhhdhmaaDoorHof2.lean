/-
  The walk of 'those': it yields the events of which the test is true, in their order.
-/
import Derived.Test.YtphbepddhhdhmaaDoorHof
import Derived.IntWalk
set_option linter.unusedVariables false
set_option linter.unusedSimpArgs false
namespace Go.Proofs.YtphbepddhhdhmaaDoor.Hof
open Go.RowKit Go.Shelf Go.Proofs.YtphbepddhhdhmaaDoorW.PrintWords Go.Proofs.YtphbepddhhdhmaaDoorW.PrintLast Go.Proofs.YtphbepddhhdhmaaDoorW.PrintMore GA
attribute [local go_sem] Oper.semAt_some

/-- A box with an event in it. -/
abbrev boxE (x : S36) : Obj := .cells #[.int .u64 x.f0, .int .i64 x.f1, .int .i64 x.f2.f0, .int .i64 x.f2.f1, .int .i64 x.f3, .int .i64 x.f4, .int .i64 x.f5, .int .i64 x.f6] 36
set_option maxRecDepth 100000 in
set_option maxHeartbeats 4000000 in
theorem those_stops (n : Nat) (hn : 3 ≤ n) (Bl Bi gi : Nat) (cb : Array Value) (p : S36 → Bool) (A : Option Addr) (cap : Nat) (xs : List S36) (wS : World)
    (hl : wS.cell? ⟨Bl, 0, none⟩ = some (.slice A xs.length cap)) (hi : wS.cell? ⟨Bi, 0, none⟩ = some (.func (.func gi) #[] cb)) (hC : Kd.C k36 wS A xs.length xs) (hIs : IsFn gi cb p wS)
    (eg : ∀ args w, (callFunc gi args).run Tryd.prog w = .ok (.enter gi args) w) :
    SeqStopsK Fence.wide n Tryd.prog 46 #[.pointer (some ⟨Bl, 0, none⟩), .pointer (some ⟨Bi, 0, none⟩)] (fun x : S36 => #[evv x]) (Below wS.heap.size) (fun ys => ys = xs.filter p) (fun _ => True) xs.length wS := fun l J Jx W hW hJ hJx hY h0 => by
  have hl' := (hW.cell (World.block_lt_of_cell? wS _ hl)).trans hl
  refine callsIn_of_wp Tryd.func46 rfl trivial ?_ rfl
  simp only [Tryd.ntmps46, List.size_toArray, List.length_cons, List.length_nil, Nat.reduceAdd, Nat.reduceSub, Array.replicate_succ, Array.replicate_zero, List.push_toArray, List.append_toArray, List.nil_append, List.cons_append]
  gi_wp2
  gi_loopw [8] (fun v wr => ∃ i : Int, 0 ≤ i ∧ i ≤ (xs.length : Int) ∧ v = .int .i64 i ∧ J ((xs.take i.toNat).filter p) wr ∧ Below wS.heap.size wS wr) (fun v _ => xs.length - (intOf v).toNat)
  case atStart => exact ⟨0, by omega, by omega, rfl, h0, hW⟩
  case round =>
    obtain ⟨i, hi0, hi1, rfl, hJs, hnx⟩ := hrel
    have hi' := (hnx.cell (World.block_lt_of_cell? wS _ hi)).trans hi
    by_cases hlt : i < (xs.length : Int)
    · obtain ⟨ad, rfl, x0, x1, x2, x3, x4, x5, x6, x7⟩ := at_T36 hC i hi0 hlt
      replace x0 := (hnx.cell (World.block_lt_of_cell? wS _ x0)).trans x0
      replace x1 := (hnx.cell (World.block_lt_of_cell? wS _ x1)).trans x1
      replace x2 := (hnx.cell (World.block_lt_of_cell? wS _ x2)).trans x2
      replace x3 := (hnx.cell (World.block_lt_of_cell? wS _ x3)).trans x3
      replace x4 := (hnx.cell (World.block_lt_of_cell? wS _ x4)).trans x4
      replace x5 := (hnx.cell (World.block_lt_of_cell? wS _ x5)).trans x5
      replace x6 := (hnx.cell (World.block_lt_of_cell? wS _ x6)).trans x6
      replace x7 := (hnx.cell (World.block_lt_of_cell? wS _ x7)).trans x7
      have hi2 : ∀ o, (wr.alloc o).cell? ⟨Bi, 0, none⟩ = some (.func (.func gi) #[] cb) := fun o => (Below.cell ((Below.refl wr.heap.size wr).alloc (Nat.le_refl _) o) (World.block_lt_of_cell? wr _ hi')).trans hi'
      have hJa : ∀ {zs w2} o, J zs w2 → J zs (w2.alloc o) := fun o hj => hJ _ _ _ none hj (World.grownBy_alloc _ o none) (fun r e => by cases e)
      have hfg : Fence.wide.fn gi := trivial
      have h1n : 1 ≤ n := by omega
      have hlen : ((xs.take i.toNat).filter p).length < xs.length := by
        have h1 := List.length_filter_le p (xs.take i.toNat)
        rw [List.length_take] at h1
        omega
      have hw64 : wrap64 (i + 1) = i + 1 := IntWalk.wrap64_in _ (by have := (Kd.C_max hC); omega)
      have htk : ((xs.take (i + 1).toNat)) = xs.take i.toNat ++ [rd_T36 xs i] := by
        rw [show (i + 1).toNat = i.toNat + 1 from by omega, List.take_add_one, List.getElem?_eq_getElem (show i.toNat < xs.length by omega)]
        unfold rd_T36
        rw [List.getD_eq_getElem?_getD, List.getElem?_eq_getElem (show i.toNat < xs.length by omega)]
        rfl
      by_cases hp : p (rd_T36 xs i) = true
      · gi_wp2_with (gi_at_fn gi; refine (callsIn_wide.2 (hIs (rd_T36 xs i) (wr.alloc (boxE (rd_T36 xs i))) (hnx.alloc hnx.size _))).mono ?_; rintro e w' ⟨rfl, o, rfl⟩; rw [hp]; obtain ⟨fn, tmps, assign, body, hy, hR⟩ := hY _ (rd_T36 xs i) ((wr.alloc (boxE (rd_T36 xs i))).alloc o) (hJa o (hJa (boxE (rd_T36 xs i)) hJs)) hlen)
        refine hR.mono ?_
        rintro e W3 (⟨rfl, hJ3, hk3⟩ | ⟨rfl, hJx3⟩)
        · gi_wp2
          go_roundw
          case rel =>
            refine ⟨i + 1, by omega, by omega, by rw [hw64], ?_, (((hnx.alloc hnx.size _).alloc (by simp; have := hnx.size; omega) _).trans hk3)⟩
            rw [htk, List.filter_append, List.filter_cons_of_pos hp]
            exact hJ3
          case measure => simp [intOf, hw64]; omega
        · gi_wp2
          refine bodyPost_ret (results_none rfl _ _ _) rfl ?_
          exact ⟨⟨_, rfl⟩, .inr ⟨_, trivial, hJx3⟩⟩
      · replace hp : p (rd_T36 xs i) = false := by simpa using hp
        gi_wp2_with (gi_at_fn gi; refine (callsIn_wide.2 (hIs (rd_T36 xs i) (wr.alloc (boxE (rd_T36 xs i))) (hnx.alloc hnx.size _))).mono ?_; rintro e w' ⟨rfl, o, rfl⟩; rw [hp])
        refine ⟨fun f hf => (by cases hf), ?_⟩
        gi_wp2
        go_roundw
        case rel =>
          refine ⟨i + 1, by omega, by omega, by rw [hw64], ?_, (((hnx.alloc hnx.size _).alloc (by simp; have := hnx.size; omega) _))⟩
          rw [htk, List.filter_append, List.filter_cons_of_neg (by simp [hp])]
          simp only [List.filter_nil, List.append_nil]
          exact hJa o (hJa _ hJs)
        case measure => simp [intOf, hw64]; omega
    · obtain rfl : i = xs.length := by omega
      gi_wp2
      go_end0
      exact ⟨⟨_, rfl⟩, .inl (by simpa using hJs)⟩
end Go.Proofs.YtphbepddhhdhmaaDoor.Hof
