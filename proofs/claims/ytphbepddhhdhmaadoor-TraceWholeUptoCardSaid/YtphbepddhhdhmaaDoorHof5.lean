/-
  trace.Outputs: a range over 'those' in whose body a captured-free slice of the call's own grows.
-/
import Derived.Test.YtphbepddhhdhmaaDoorHof4
import Derived.IntWalk
set_option linter.unusedVariables false
set_option linter.unusedSimpArgs false
namespace Go.Proofs.YtphbepddhhdhmaaDoor.Hof
open Go.RowKit Go.Shelf Go.Proofs.YtphbepddhhdhmaaDoorW.PrintWords Go.Proofs.YtphbepddhhdhmaaDoorW.PrintLast Go.Proofs.YtphbepddhhdhmaaDoorW.PrintMore GA
attribute [local go_sem] Oper.semAt_some

set_option maxRecDepth 100000 in
set_option maxHeartbeats 4000000 in
theorem those_stops2 (n : Nat) (hn : 3 ≤ n) (Bl Bi gi : Nat) (cb : Array Value) (p : S36 → Bool) (A : Option Addr) (cap : Nat) (xs : List S36) (w wS : World) (hwS : Below w.heap.size w wS)
    (hl : wS.cell? ⟨Bl, 0, none⟩ = some (.slice A xs.length cap)) (hi : wS.cell? ⟨Bi, 0, none⟩ = some (.func (.func gi) #[] cb)) (hC : Kd.C k36 w A xs.length xs) (hIs : IsFn gi cb p w)
    (eg : ∀ args w, (callFunc gi args).run Tryd.prog w = .ok (.enter gi args) w) :
    SeqStopsK Fence.wide n Tryd.prog 46 #[.pointer (some ⟨Bl, 0, none⟩), .pointer (some ⟨Bi, 0, none⟩)] (fun x : S36 => #[evv x]) (fun W W' => Below w.heap.size W W' ∧ W'.cell? ⟨Bi, 0, none⟩ = W.cell? ⟨Bi, 0, none⟩) (fun ys => ys = xs.filter p) (fun _ => True) xs.length wS := fun l J Jx W hW hJ hJx hY h0 => by
  have hl' := (hW.cell (World.block_lt_of_cell? wS _ hl)).trans hl
  have hiW := (hW.cell (World.block_lt_of_cell? wS _ hi)).trans hi
  refine callsIn_of_wp Tryd.func46 rfl trivial ?_ rfl
  simp only [Tryd.ntmps46, List.size_toArray, List.length_cons, List.length_nil, Nat.reduceAdd, Nat.reduceSub, Array.replicate_succ, Array.replicate_zero, List.push_toArray, List.append_toArray, List.nil_append, List.cons_append]
  gi_wp2
  gi_loopw [8] (fun v wr => ∃ i : Int, 0 ≤ i ∧ i ≤ (xs.length : Int) ∧ v = .int .i64 i ∧ J ((xs.take i.toNat).filter p) wr ∧ wr.cell? ⟨Bi, 0, none⟩ = some (.func (.func gi) #[] cb) ∧ Below w.heap.size w wr) (fun v _ => xs.length - (intOf v).toNat)
  case atStart => exact ⟨0, by omega, by omega, rfl, h0, hiW, hwS.trans (hW.mono hwS.size)⟩
  case round =>
    obtain ⟨i, hi0, hi1, rfl, hJs, hi', hnx⟩ := hrel
    by_cases hlt : i < (xs.length : Int)
    · obtain ⟨ad, rfl, x0, x1, x2, x3, x4, x5, x6, x7⟩ := at_T36 hC i hi0 hlt
      replace x0 := (hnx.cell (World.block_lt_of_cell? w _ x0)).trans x0
      replace x1 := (hnx.cell (World.block_lt_of_cell? w _ x1)).trans x1
      replace x2 := (hnx.cell (World.block_lt_of_cell? w _ x2)).trans x2
      replace x3 := (hnx.cell (World.block_lt_of_cell? w _ x3)).trans x3
      replace x4 := (hnx.cell (World.block_lt_of_cell? w _ x4)).trans x4
      replace x5 := (hnx.cell (World.block_lt_of_cell? w _ x5)).trans x5
      replace x6 := (hnx.cell (World.block_lt_of_cell? w _ x6)).trans x6
      replace x7 := (hnx.cell (World.block_lt_of_cell? w _ x7)).trans x7
      have hi2 : ∀ o, (wr.alloc o).cell? ⟨Bi, 0, none⟩ = some (.func (.func gi) #[] cb) := fun o => (Below.cell ((Below.refl wr.heap.size wr).alloc (Nat.le_refl _) o) (World.block_lt_of_cell? wr _ hi')).trans hi'
      have hJa : ∀ {zs w2} o, J zs w2 → J zs (w2.alloc o) := fun o hj => hJ _ _ _ none hj (World.grownBy_alloc _ o none) (fun r e => by cases e)
      have hfg : Fence.wide.fn gi := trivial
      have h1n : 1 ≤ n := by omega
      have hlen : ((xs.take i.toNat).filter p).length < xs.length := by
        have h1 := List.length_filter_le p (xs.take i.toNat)
        rw [List.length_take] at h1
        omega
      have hw64 : wrap64 (i + 1) = i + 1 := IntWalk.wrap64_in _ (by have := (Kd.C_max hC); omega)
      have htk : ((xs.take (i + 1).toNat)) = xs.take i.toNat ++ [rd_T36 xs i] := by
        rw [show (i + 1).toNat = i.toNat + 1 from by omega, List.take_add_one, List.getElem?_eq_getElem (show i.toNat < xs.length by omega)]
        unfold rd_T36
        rw [List.getD_eq_getElem?_getD, List.getElem?_eq_getElem (show i.toNat < xs.length by omega)]
        rfl
      by_cases hp : p (rd_T36 xs i) = true
      · gi_wp2_with (gi_at_fn gi; refine (callsIn_wide.2 (hIs (rd_T36 xs i) (wr.alloc (boxE (rd_T36 xs i))) (hnx.alloc hnx.size _))).mono ?_; rintro e w' ⟨rfl, o, rfl⟩; rw [hp]; obtain ⟨fn, tmps, assign, body, hy, hR⟩ := hY _ (rd_T36 xs i) ((wr.alloc (boxE (rd_T36 xs i))).alloc o) (hJa o (hJa (boxE (rd_T36 xs i)) hJs)) hlen)
        refine hR.mono ?_
        rintro e W3 (⟨rfl, hJ3, hk3, hk4⟩ | ⟨rfl, hJx3⟩)
        · gi_wp2
          go_roundw
          case rel =>
            refine ⟨i + 1, by omega, by omega, by rw [hw64], ?_, ?_, (((hnx.alloc hnx.size _).alloc (by simp; have := hnx.size; omega) _).trans hk3)⟩
            rotate_left
            · rw [hk4]; exact (Below.cell ((Below.refl _ _).alloc (Nat.le_refl _) o) (by have hbi : Bi < wr.heap.size := World.block_lt_of_cell? wr _ hi'; simp; omega)).trans (hi2 _)
            rw [htk, List.filter_append, List.filter_cons_of_pos hp]
            exact hJ3
          case measure => simp [intOf, hw64]; omega
        · gi_wp2
          refine bodyPost_ret (results_none rfl _ _ _) rfl ?_
          exact ⟨⟨_, rfl⟩, .inr ⟨_, trivial, hJx3⟩⟩
      · replace hp : p (rd_T36 xs i) = false := by simpa using hp
        gi_wp2_with (gi_at_fn gi; refine (callsIn_wide.2 (hIs (rd_T36 xs i) (wr.alloc (boxE (rd_T36 xs i))) (hnx.alloc hnx.size _))).mono ?_; rintro e w' ⟨rfl, o, rfl⟩; rw [hp])
        refine ⟨fun f hf => (by cases hf), ?_⟩
        gi_wp2
        go_roundw
        case rel =>
          refine ⟨i + 1, by omega, by omega, by rw [hw64], ?_, (Below.cell ((Below.refl _ _).alloc (Nat.le_refl _) o) (by have hbi : Bi < wr.heap.size := World.block_lt_of_cell? wr _ hi'; simp; omega)).trans (hi2 _), (((hnx.alloc hnx.size _).alloc (by simp; have := hnx.size; omega) _))⟩
          rw [htk, List.filter_append, List.filter_cons_of_neg (by simp [hp])]
          simp only [List.filter_nil, List.append_nil]
          exact hJa o (hJa _ hJs)
        case measure => simp [intOf, hw64]; omega
    · obtain rfl : i = xs.length := by omega
      gi_wp2
      go_end0
      exact ⟨⟨_, rfl⟩, .inl (by simpa using hJs)⟩

theorem putObj_cell {W : World} {l : Nat} {o' : Obj} {B j : Nat} (h : B ≠ l) : (W.putObj l o').cell? ⟨B, j, none⟩ = W.cell? ⟨B, j, none⟩ := by
  unfold World.cell? World.putObj
  simp [Array.getElem?_setIfInBounds_ne, h.symm]
theorem info2' : (Tryd.prog.info? 2).map (fun i => (i.zero, i.size, i.bytes)) = some (some (.int .i64 0), 1, 8) := info2
/-- What comes out. -/
def outs (xs : List S36) : List Int := (xs.filter fun x => x.f3 == 12).map (·.f4)
set_option maxRecDepth 100000 in
set_option maxHeartbeats 4000000 in
theorem outputs_calls (A0 : Option Addr) (c0 : Nat) (l0 : List S36) (w : World) (hr0 : Kd.C k36 w A0 l0.length l0) (hN : l0.length * 64 ≤ 140737488355328) :
    Calls Tryd.prog 23 #[.slice A0 l0.length c0] w fun e w' => ∃ v0, e = .returned v0 ∧ Kd.R (Kd.int .i64) 2 w' w.heap.size (fun _ => True) v0 (outs l0) ∧ Below w.heap.size w w' := by
  refine (callsIn_wide (n := 16)).1 ?_
  have h36 : Fence.wide.fn 36 := trivial
  have hNm : l0.length ≤ maxLen := by simp only [maxLen]; omega
  obtain ⟨i0, hi, hz0, hz1, hz2⟩ := info_parts info2
  refine callsIn_of_wp_marks Tryd.func23 rfl trivial ?_ rfl
  simp only [Tryd.ntmps23, List.size_toArray, List.length_cons, List.length_nil, Nat.reduceAdd, Nat.reduceSub, Array.replicate_succ, Array.replicate_zero, List.push_toArray, List.append_toArray, List.nil_append, List.cons_append]
  gi_wp2_with (gi_at_call 36; refine (those_in Fence.wide _ trivial rfl A0 l0.length c0 39 #[] _).mono ?_; rintro e w' ⟨rfl, hw⟩)
  subst hw
  have bO := Boxed.new w 42 (.slice none 0 0)
  have hb1 : Below w.heap.size w (w.alloc (.cells #[.slice none 0 0] 42)) := (Below.refl _ w).alloc (Nat.le_refl _) _
  generalize hw1 : w.alloc (.cells #[.slice none 0 0] 42) = w1 at bO hb1 ⊢
  have hs1 : w1.heap.size = w.heap.size + 1 := by rw [← hw1]; simp
  clear hw1
  have bL := Boxed.new w1 22 (.slice A0 l0.length c0)
  have bO2 := bO.alloc (.cells #[.slice A0 l0.length c0] 22)
  have hb2 : Below w1.heap.size w1 (w1.alloc (.cells #[.slice A0 l0.length c0] 22)) := (Below.refl _ w1).alloc (Nat.le_refl _) _
  generalize hw2 : w1.alloc (.cells #[.slice A0 l0.length c0] 22) = w2 at bL bO2 hb2 ⊢
  have hs2 : w2.heap.size = w.heap.size + 2 := by rw [← hw2]; simp; omega
  clear hw2
  have bI := Boxed.new w2 53 (.func (.func 39) #[] #[])
  have bO3 := bO2.alloc (.cells #[.func (.func 39) #[] #[]] 53)
  have bL3 := bL.alloc (.cells #[.func (.func 39) #[] #[]] 53)
  have hb3 : Below w2.heap.size w2 (w2.alloc (.cells #[.func (.func 39) #[] #[]] 53)) := (Below.refl _ w2).alloc (Nat.le_refl _) _
  generalize hw3 : w2.alloc (.cells #[.func (.func 39) #[] #[]] 53) = w3 at bI bO3 bL3 hb3 ⊢
  have hs3 : w3.heap.size = w.heap.size + 3 := by rw [← hw3]; simp; omega
  clear hw3
  have hB : Below w.heap.size w w3 := (hb1.trans (hb2.mono (by omega))).trans (hb3.mono (by omega))
  rw [hs1] at bL3
  rw [hs2] at bI
  try simp only [hs1]
  have hseq := those_stops2 15 (by omega) (w.heap.size + 1) (w.heap.size + 2) 39 #[] (fun x => x.f3 == 12) A0 c0 l0 w w3 hB bL3.cell bI.cell hr0 (isOut w) (enters_of Tryd.func39 (by kernel_rfl) rfl)
  refine wpIn_rangeFunc_ownH rfl (by omega) (gf := 46) (lb := #[.pointer (some ⟨w.heap.size + 1, 0, none⟩), .pointer (some ⟨w.heap.size + 2, 0, none⟩)]) rfl trivial (enters_of Tryd.func46 (by kernel_rfl) rfl) hseq
    (fun h k => ⟨h.1.trans k.1, k.2.trans h.2⟩) (fun W l o o' hl hW ho hwk => ⟨belowK_b (w := w) (Nat.le_refl _) W l o o' (by omega) hW ho hwk, putObj_cell (by omega)⟩) (Below.refl _ _) (fun _ => rfl)
    (fun pre W => ((∃ v, Boxed W w.heap.size 42 v ∧ W.ownsRow w.heap.size 2 1 v pre.length (pre.map fun x => Value.int .i64 x.f4) ∧ True) ∧ Boxed W (w.heap.size + 2) 53 (.func (.func 39) #[] #[])) ∧ Below w.heap.size w W)
    (fun _ _ _ => False)
    (OwnFrom.and (OwnFrom.and (Own.from (holdsRow_own w.heap.size w.heap.size 42 2 1 (fun pre : List S36 => pre.length) (fun pre => pre.map fun x => Value.int .i64 x.f4) (fun pre v => True)) _) (Own.from (boxed_own _ _ _) _)) (ownFrom_below (Nat.le_refl _) (by omega)))
    (fun _ _ _ _ _ hs _ _ => hs)
    ⟨⟨⟨_, bO3, World.ownsRow_nil _ _ _ _, trivial⟩, bI⟩, hB⟩
    (fun x a' W => ∃ Bx, w.heap.size + 2 < Bx ∧ W.heap[Bx]? = some (boxE x) ∧ a' = { tmps := #[.slice A0 l0.length c0, undef, .slice none 0 0, .pointer (some ⟨w.heap.size, 0, none⟩), .pointer (some ⟨Bx, 0, none⟩), .slice A0 l0.length c0, .func (.func 46) #[] #[.pointer (some ⟨w.heap.size + 1, 0, none⟩), .pointer (some ⟨w.heap.size + 2, 0, none⟩)], evv x, undef, undef, undef, undef, undef, undef], defers := [] })
    (fun x a' _ X Y row hs hg hr => by obtain ⟨Bx, h1, h2, h3⟩ := hs; exact ⟨Bx, h1, boxE_own Bx x () X Y row h2 hg (fun r e => (hr r e).2), h3⟩)
    ?assign ?body ?done ?stop
  case assign =>
    rintro l pre x W K ⟨⟨⟨v, bS1, hrow, _⟩, bI1⟩, hB1⟩ hK
    gi_wp2
    exact hK _ _ ((KeepsOthers.alloc _ _).from _) ⟨(Below.refl _ W).alloc hB1.size _, (bI1.alloc _).cell.trans bI1.cell.symm⟩ ⟨⟨⟨v, bS1.alloc _, hrow.alloc _, trivial⟩, bI1.alloc _⟩, hB1.alloc hB1.size _⟩ ⟨W.heap.size, bI1.lt, blk_new W _, rfl⟩
  case body =>
    rintro l pre x a' W hl ⟨r, hr⟩ ⟨⟨⟨v, hv, hrow, _⟩, bI1⟩, hB1⟩ ⟨Bx, hBx, bX, rfl⟩ hlt
    have hc := hv.cell
    have x5 := (blk_cell bX 5).trans rfl
    gi_wp2_with (gi_at_builtin; refine wpListIn_append_own _ rfl _ _ 42 rfl w.heap.size 2 i0 (.int .i64 0) 1 8 Tryd.underlying42 hi hz0 hz1 hz2 rfl (by decide) _ _ _ rfl (hrow.alloc _) ⟨W.heap.size, 0, none⟩ 1 1 [.int .i64 x.f4] rfl rfl (cell_one_new _ _ _) (by simp [Value.oneCell']) (by omega) (by omega) (by have := hB1.size; simp; omega) ?_; intro v' w1 hown' hgrow _; obtain ⟨g', cap', rfl⟩ := ownsRow_succ hown'; obtain ⟨hv1, hv2, hr2, hk2, hb2⟩ := hv.appended (by decide) hrow hB1.size (Nat.le_refl _) hown' hgrow; have hc1 := hv1.cell; have hf1 := hv1.frozen)
    have bI2 := ((bI1.alloc _).kept hgrow (bI1.not_row (by decide) hrow)).other (B' := w.heap.size) (by omega) (.slice (some ⟨g', 0, none⟩) (pre.length + 1) cap')
    exact ⟨hk2.from _, ⟨hb2, bI2.cell.trans bI1.cell.symm⟩, ⟨⟨⟨_, hv2, by simpa using hr2, trivial⟩, bI2⟩, hB1.trans hb2⟩⟩
  case done =>
    rintro D ys W hD rfl ⟨⟨⟨v, hv, hrow, _⟩, _⟩, hB1⟩ hK
    have hc := hv.cell
    gi_wp2
    refine ⟨by simp, .inl ⟨_, _, rfl, run_takeDeferred hK, ?_⟩⟩
    have hrow2 := ownsRow_putObj hrow (.deferred none) hK rfl
    refine ⟨_, results_tmp rfl _ _ _, v, rfl, Kd.R_of_own ?_ (fun _ _ => trivial), hB1.trans (belowK_b (w := w) (Nat.le_refl _) W D _ _ (by omega) hK rfl rfl)⟩
    simpa [outs, encs, Function.comp_def] using hrow2
  case stop =>
    rintro D c pre W _ _ h _
    exact h.elim
end Go.Proofs.YtphbepddhhdhmaaDoor.Hof
