import Derived.Test.YthjfmlehkcccfaaMSafe25
import Derived.Deep.QuietTactic
import Derived.BigQuiet
import Derived.Deep.MidRow
import Derived.Lib.Hide
import Derived.Outline
import Derived.Test.YthjfmlehkcccfaaMSafe0
import Derived.Test.YthjfmlehkcccfaaWLast
import Derived.Deep.RegionHeld3
section
/-
  rotalaw09.lives: true.
-/
set_option linter.unusedVariables false
set_option linter.unusedSimpArgs false
namespace Go.Proofs.Ythjfmlehkcccfaa.Hlives
open Go.RowKit Go.Proofs.YthjfmlehkcccfaaW.PrintWords Go.Proofs.YthjfmlehkcccfaaW.PrintLast Go.Proofs.YthjfmlehkcccfaaW.PrintMore GA Hctx Hsmall Hone Heq

theorem mem_fresh {e : List TypeId} {w W : World} (hB : Below w.heap.size w W) : Mem e w W [] [] := ⟨hB, (fun x hx => by cases hx), List.Pairwise.nil, (fun r hr => by cases hr), (fun i r hr => by simp at hr)⟩
theorem reps_one_ (w : World) (base : Nat) : Reps ((Kd.int .u32).M w base (fun _ => True)) (Kd.int .u32).sz [(36700167 : Int)] [Value.int .u32 36700167] := by
  exact Reps.one rfl (Reps.none _ _)

set_option maxHeartbeats 2000000 in
set_option maxRecDepth 100000 in
theorem lives_calls (w : World) : Calls Try.prog 14 #[] w fun e w' => e = .returned (.bool true) ∧ Below w.heap.size w w' := by
  have hg := Try.eqGuardType40
  have hq2 : ∀ W, (binOp .eql 40 (.agg want0) (.agg #[.int .i64 0, .int .i64 0, .int .i64 0, .int .i64 0, .int .i64 0, .int .i64 0, .int .i64 0, .int .i64 0, .int .i64 0, .int .i64 0, .int .i64 0])).run Try.prog W = .ok (.bool true) W := fun W => eq_want W 0 0 0 0 0 0 0 0 0 0 0
  have hq : ∀ W, (binOp .eql 40 (.agg want0) (.agg want0)).run Try.prog W = .ok (.bool true) W := fun W => eq_want W 0 0 0 0 0 0 0 0 0 0 0
  have hu40 := Try.underlying40
  have M0 := Aside0.mk (Mem.start [3] w)
  go_enter Try.func14, Try.ntmps14
  go_wp2_with fail
  refine (rotaref06_Encode.calls 2 3 0 0 7 36700167 0 _ (by kernel_rfl)).mono ?_
  rintro e W7 ⟨rfl, hb⟩
  have M1 := Aside0.mk (Mem.call M0.out hb)
  clear M0 hb
  go_wp2_with (first
    | ((with_reducible refine gate_dst (N := 12) rfl ?_); refine Kd.R_lit (Kd.int .u32) (w0 := w) w.heap.size 61 ?hg (N := 12) ?hd (xs := [36700167]) (inner := [.int .u32 36700167]) (ok := fun _ => True) (okp := fun _ => True) ?hr ?hp (fun _ hk => hk) trivial M1.out.below M1.out.below.size (by simp) ?_; (case hd => rfl); (case hg => rfl); (case hr => first | (go_simp; done) | (go_simp; rfl)); (case hp => exact reps_one_ _ _); intro v12 W12 hR hB hg _; obtain ⟨A12, c12, hv_⟩ := Kd.R_slice hR; simp only [List.length_cons, List.length_nil, Nat.zero_add] at hv_; subst hv_; have HC := Aside0.mk (Kd.R_reads' hR); have M2 := Aside0.mk (mem_fresh (e := [3]) hB); clear M1 hR hB hg))
  refine (p_set [36700167] [] [] A12 none none c12 0 0 0 zeroR none 0 [] 0 0 0 _ HC.out.2.2 HC.out.2.1 (Kd.C_nil _ _) (Nat.le_refl _) (Kd.C_nil _ _) (Nat.le_refl _) (Kd.C_nil _ _) (Nat.le_refl _) (by decide) 3 0 0 7 (by decide) (by decide) (by decide) (by decide) (by decide) (by kernel_rfl)).mono ?_
  rintro e W16 ⟨v16, rfl, hR, hb⟩
  obtain ⟨A16, c16, hv_⟩ := Kd.R_slice hR
  simp only [List.length_nil] at hv_
  subst hv_
  have M3 := Aside0.mk (Mem.row M2.out hb hR)
  clear M2 hR hb
  skip
  go_wp2_with (first
    | (refine eB M3 3 (ctx 0 zeroR (.slice none 0 0)) 30 ?_; clear M3; intro g3 w3 M4)
    | (refine eB M4 4 want0 40 ?_; clear M4; intro g4 w4 M5)
    | (refine eR M5 30 3 0 (ctx 1 (zeroR.set 3 7) (.slice A16 0 c16)) ?_; clear M5; intro w_ M6)
    | (refine eR M6 40 4 1 want0 ?_; clear M6; intro w_ M7)
    | ((with_reducible refine gate_dst (N := 21) rfl ?_); refine load_event rfl (N := 21) rfl (t := 2) (p := 20) rfl ⟨g3, 4, none⟩ (.int .i64 7) ?hp (fun _ => by kernel_rfl) ((M7.out.cell 0 rfl 4).trans rfl) ?_; (case hp => first | rfl | (go_simp; done) | (go_simp; rfl)))
    | ((with_reducible refine gate_dst (N := 25) rfl ?_); (refine gate_guard (by rfl) ?_; dsimp only); refine eC M7 25 0 0 (.int .i64 1) ?_)
    | ((with_reducible refine gate_dst (N := 29) rfl ?_); (refine gate_guard (by rfl) ?_; dsimp only); refine eL M7 29 1 hu40 ?_))
  go_ret
  exact ⟨rfl, M7.out.below⟩
end Go.Proofs.Ythjfmlehkcccfaa.Hlives
end

section
/-
  Regions that draw their order, over a call's own memory: each operation as one short lemma.
-/
set_option linter.unusedVariables false
set_option linter.unusedSimpArgs false
namespace Go.Proofs.Ythjfmlehkcccfaa.Hctx
open Go.RowKit Go.Proofs.YthjfmlehkcccfaaW.PrintWords Go.Proofs.YthjfmlehkcccfaaW.PrintLast Go.Proofs.YthjfmlehkcccfaaW.PrintMore
/-- Cells that are known at the call's beginning. -/
def Cells (w0 : World) (T : List (Addr × Value)) : Prop := ∀ c ∈ T, w0.cell? c.1 = some c.2
theorem Cells.nil (w0 : World) : Cells w0 [] := fun c hc => by cases hc
theorem Cells.one {w0 : World} {ad : Addr} {u : Value} (h : w0.cell? ad = some u) : Cells w0 [(ad, u)] := fun c hc => by rw [List.mem_singleton] at hc; subst hc; exact h
/-- The boxes that a region reads, as they are; and the cells. -/
def Held (L : List (Nat × Array Value × TypeId)) (T : List (Addr × Value)) (w : World) : Prop := (∀ x ∈ L, w.heap[x.1]? = some (.cells x.2.1 x.2.2 (0, 0))) ∧ ∀ c ∈ T, w.cell? c.1 = some c.2
section
variable {P : Program} {ops : Array Oper} {md : Region.Mode} {o : Oper} {a : Act} {Q : Exit → Act → World → Prop} {e : List TypeId} {w0 w W : World} {l L : List (Nat × Array Value × TypeId)} {T : List (Addr × Value)} {rows : List Row} {fuel : Nat} {listed : Array Bool} {ds : List Nat}
theorem Mem.perm {l' : List (Nat × Array Value × TypeId)} (M : Mem e w0 W l rows) (h : l.Perm l') : Mem e w0 W l' rows :=
  ⟨M.below, fun x hx => M.blk x (h.mem_iff.2 hx), h.pairwise M.apart (fun hxy => Ne.symm hxy), M.typ, M.owns⟩
/-- Fewer boxes. -/
theorem Mem.forget (M : Mem e w0 W l rows) (n : Nat) : Mem e w0 W (l.take n) rows :=
  ⟨M.below, fun x hx => M.blk x (List.mem_of_mem_take hx), M.apart.sublist (List.take_sublist n l), M.typ, M.owns⟩
theorem Mem.pick1 (M : Mem e w0 W l rows) (i : Nat) {r : Row} (hi : rows[i]? = some r) : Mem e w0 W l [r] :=
  ⟨M.below, M.blk, M.apart, fun x hx => by rw [List.mem_singleton] at hx; subst hx; exact M.typ _ (List.mem_of_getElem? hi), fun n x hx => by
    cases n with
    | zero =>
      obtain rfl : r = x := by simpa using hx
      exact Kd.R_mono (M.owns i _ hi) (fun k _ => okOne _ k)
    | succ n => simp at hx⟩
theorem Mem.pick2 (M : Mem e w0 W l rows) (i j : Nat) {r s : Row} (hij : i ≠ j) (hi : rows[i]? = some r) (hj : rows[j]? = some s) : Mem e w0 W l [r, s] :=
  ⟨M.below, M.blk, M.apart, fun x hx => by
    rcases List.mem_cons.1 hx with rfl | hx
    · exact M.typ _ (List.mem_of_getElem? hi)
    · rw [List.mem_singleton] at hx; subst hx; exact M.typ _ (List.mem_of_getElem? hj), fun n x hx => by
    match n with
    | 0 =>
      obtain rfl : r = x := by simpa using hx
      refine Kd.R_mono (M.owns i _ hi) (fun k hk m y hy hm => ?_)
      match m with
      | 0 => exact absurd rfl hm
      | 1 => obtain rfl : s = y := by simpa using hy
             exact hk j _ hj (Ne.symm hij)
      | m + 2 => simp at hy
    | 1 =>
      obtain rfl : s = x := by simpa using hx
      refine Kd.R_mono (M.owns j _ hj) (fun k hk m y hy hm => ?_)
      match m with
      | 0 => obtain rfl : r = y := by simpa using hy
             exact hk i _ hi hij
      | 1 => exact absurd rfl hm
      | m + 2 => simp at hy
    | n + 2 => simp at hx⟩
theorem Mem.held (M : Mem e w0 W l rows) (hT : Cells w0 T) (h : l.take L.length = L) : Held L T W := by
  refine ⟨fun x hx => ?_, fun c hc => ?_⟩
  · rw [← h] at hx
    exact (M.blk x (List.mem_of_mem_take hx)).1
  · have h0 := hT c hc
    rw [M.below.cell (World.block_lt_of_cell? w0 c.1 h0)]
    exact h0
theorem Held.at (H : Held L T W) (i : Nat) {g : Nat} {cs : Array Value} {t : TypeId} (h : L[i]? = some (g, cs, t)) : W.heap[g]? = some (.cells cs t (0, 0)) := H.1 _ (List.mem_of_getElem? h)
/-- The beginning: ds are the operations (stores) behind which nothing is read any more; T the cells that are read besides. -/
theorem dStart {id : Nat} (ds : List Nat) (T : List (Addr × Value)) (M : Aside0 (Mem e w0 W l rows))
    (h : ∀ W', Aside0 (Mem e w0 W' l rows) → wpAnyLast P .any ops (NoPanic Q) (Held l T) ds ops.size (Array.replicate ops.size false) a W')
    (hm : P.follows .mixedOrders = true := by kernel_rfl) (hT : Cells w0 T := by first | exact Cells.nil _ | assumption) : (Code.region id ops true).wp P Q a W := by
  refine wp_region_noPanic ?_
  exact wp_region_last_drew hm ((Mem.drew M.out).held hT (List.take_of_length_le (Nat.le_refl _))) (fun _ => h _ ⟨Mem.drew M.out⟩)
/-- An operation that yields u in every world that holds L. -/
theorem dY (M : Aside0 (Mem e w0 w l rows)) (i : Nat) (N : Tmp) (u : Value) (hy : YieldsIf P ops (Held L T) o u a)
    (h : wpAnyLast P md ops (NoPanic Q) (Held L T) ds fuel (listed.setIfInBounds i true) (a.put (some N) u) w) (hoi : ops[i]? = some o) (hN : o.dst = some N)
    (hs : Region.noSelect ops = true) (hf : Region.free md ops listed i = true) (hr : (Region.ready md ops listed).contains i = true) (hc : Region.closedB md ops listed = true) (hla : Region.lastB md ops listed ds i = true) (hl : l.take L.length = L) (hT : Cells w0 T) : wpAnyLast P md ops (NoPanic Q) (Held L T) ds (fuel + 1) listed a w :=
  wpAnyLast_take hoi hs hf hr hc hla (fun _ _ _ h => h) hy (M.out.held hT hl) (by rw [hN]; exact h)
/-- A whole box is loaded. -/
theorem dL {ty : TypeId} {d : TypeDesc} (M : Aside0 (Mem e w0 w l rows)) (i : Nat) (N : Tmp) (k : Nat) (hu : P.underlying ty = some d) {p : Tmp} {g : Nat} {cs : Array Value} {tb : TypeId}
    (h : wpAnyLast P md ops (NoPanic Q) (Held L T) ds fuel (listed.setIfInBounds i true) (a.put (some N) (.agg cs)) w)
    (hoi : ops[i]? = some o := by rfl) (hN : o.dst = some N := by rfl) (ho : o.op = .load ty (.tmp p) := by rfl) (hw : Region.wanted o (yielded ops a.tmps) = true := by rfl)
    (hk : L[k]? = some (g, cs, tb) := by rfl) (hx : a.eval (.tmp p) = .pointer (some ⟨g, 0, none⟩) := by rfl) (hd : (match d with | .struct _ | .array _ _ => true | _ => false) = true := by rfl) (hi : (P.info? ty).map (·.size) = some cs.size := by kernel_rfl)
    (hs : Region.noSelect ops = true := by kernel_rfl) (hf : Region.free md ops listed i = true := by kernel_rfl) (hr : (Region.ready md ops listed).contains i = true := by kernel_rfl) (hc : Region.closedB md ops listed = true := by kernel_rfl) (hla : Region.lastB md ops listed ds i = true := by kernel_rfl) (hl : l.take L.length = L := by rfl) (hT : Cells w0 T := by first | exact Cells.nil _ | assumption) : wpAnyLast P md ops (NoPanic Q) (Held L T) ds (fuel + 1) listed a w :=
  dY M i N _ (.inl ⟨hw, fun w' hw' => by
    unfold execOp
    simp only [ho, hx, Instr.loadAt, Instr.sureAddr, Sem.run_bind, Sem.run_pure, Result.andThen_ok, run_loadVar_row w' g tb ty cs (0, 0) d (hw'.at k hk) hu hd hi]⟩) h hoi hN hs hf hr hc hla hl hT
theorem run_load_cell {ty : TypeId} {p : Tmp} {ad : Addr} {u : Value} {w' : World} (ho : o.op = .load ty (.tmp p)) (hx : a.eval (.tmp p) = .pointer (some ad)) (hc : w'.cell? ad = some u) (hna : ∀ w, (isAgg ty).run P w = .ok false w) : (execOp a.eval o).run P w' = .ok (.value u) w' := by
  have hl : (loadVar ty ad).run P w' = .ok u w' := by
    unfold loadVar
    rw [Sem.run_bind, hna w']
    show (load ad).run P w' = _
    rw [run_load, hc]
  unfold execOp
  simp only [ho, hx, Instr.loadAt, Instr.sureAddr, Sem.run_bind, Sem.run_pure, Result.andThen_ok, hl]
/-- A cell of a box is loaded. -/
theorem dC {ty : TypeId} (M : Aside0 (Mem e w0 w l rows)) (i : Nat) (N : Tmp) (k j : Nat) (u : Value) {p : Tmp} {g : Nat} {cs : Array Value} {tb : TypeId}
    (h : wpAnyLast P md ops (NoPanic Q) (Held L T) ds fuel (listed.setIfInBounds i true) (a.put (some N) u) w)
    (hoi : ops[i]? = some o := by rfl) (hN : o.dst = some N := by rfl) (ho : o.op = .load ty (.tmp p) := by rfl) (hw : Region.wanted o (yielded ops a.tmps) = true := by rfl)
    (hk : L[k]? = some (g, cs, tb) := by rfl) (hv : cs[j]? = some u := by rfl) (hx : a.eval (.tmp p) = .pointer (some ⟨g, j, none⟩) := by rfl) (hna : ∀ w, (isAgg ty).run P w = .ok false w := by intro _; kernel_rfl)
    (hs : Region.noSelect ops = true := by kernel_rfl) (hf : Region.free md ops listed i = true := by kernel_rfl) (hr : (Region.ready md ops listed).contains i = true := by kernel_rfl) (hc : Region.closedB md ops listed = true := by kernel_rfl) (hla : Region.lastB md ops listed ds i = true := by kernel_rfl) (hl : l.take L.length = L := by rfl) (hT : Cells w0 T := by first | exact Cells.nil _ | assumption) : wpAnyLast P md ops (NoPanic Q) (Held L T) ds (fuel + 1) listed a w :=
  dY M i N _ (.inl ⟨hw, fun w' hw' => run_load_cell ho hx ((blk_cell (hw'.at k hk) j).trans hv) hna⟩) h hoi hN hs hf hr hc hla hl hT
/-- A known cell (an argument's element) is loaded. -/
theorem dE {ty : TypeId} (M : Aside0 (Mem e w0 w l rows)) (i : Nat) (N : Tmp) (k : Nat) {ad : Addr} {u : Value} {p : Tmp}
    (h : wpAnyLast P md ops (NoPanic Q) (Held L T) ds fuel (listed.setIfInBounds i true) (a.put (some N) u) w)
    (hoi : ops[i]? = some o := by rfl) (hN : o.dst = some N := by rfl) (ho : o.op = .load ty (.tmp p) := by rfl) (hw : Region.wanted o (yielded ops a.tmps) = true := by rfl)
    (hk : T[k]? = some (ad, u) := by rfl) (hx : a.eval (.tmp p) = .pointer (some ad) := by rfl) (hna : ∀ w, (isAgg ty).run P w = .ok false w := by intro _; kernel_rfl)
    (hs : Region.noSelect ops = true := by kernel_rfl) (hf : Region.free md ops listed i = true := by kernel_rfl) (hr : (Region.ready md ops listed).contains i = true := by kernel_rfl) (hc : Region.closedB md ops listed = true := by kernel_rfl) (hla : Region.lastB md ops listed ds i = true := by kernel_rfl) (hl : l.take L.length = L := by rfl) (hT : Cells w0 T := by first | exact Cells.nil _ | assumption) : wpAnyLast P md ops (NoPanic Q) (Held L T) ds (fuel + 1) listed a w :=
  dY M i N _ (.inl ⟨hw, fun w' hw' => run_load_cell ho hx (hw'.2 _ (List.mem_of_getElem? hk)) hna⟩) h hoi hN hs hf hr hc hla hl hT
/-- Some cells of a box are loaded (a struct within). -/
theorem dM {ty : TypeId} {d : TypeDesc} (M : Aside0 (Mem e w0 w l rows)) (i : Nat) (N : Tmp) (k off : Nat) (us : List Value) (hu : P.underlying ty = some d) {p : Tmp} {g : Nat} {cs : Array Value} {tb : TypeId}
    (h : wpAnyLast P md ops (NoPanic Q) (Held L T) ds fuel (listed.setIfInBounds i true) (a.put (some N) (.agg us.toArray)) w)
    (hoi : ops[i]? = some o := by rfl) (hN : o.dst = some N := by rfl) (ho : o.op = .load ty (.tmp p) := by rfl) (hw : Region.wanted o (yielded ops a.tmps) = true := by rfl)
    (hk : L[k]? = some (g, cs, tb) := by rfl) (hv : (cs.toList.drop off).take us.length = us := by rfl) (hx : a.eval (.tmp p) = .pointer (some ⟨g, off, none⟩) := by rfl) (hd : d.isRow = true := by rfl) (hi : (P.info? ty).map (·.size) = some us.length := by kernel_rfl)
    (hs : Region.noSelect ops = true := by kernel_rfl) (hf : Region.free md ops listed i = true := by kernel_rfl) (hr : (Region.ready md ops listed).contains i = true := by kernel_rfl) (hc : Region.closedB md ops listed = true := by kernel_rfl) (hla : Region.lastB md ops listed ds i = true := by kernel_rfl) (hl : l.take L.length = L := by rfl) (hT : Cells w0 T := by first | exact Cells.nil _ | assumption) : wpAnyLast P md ops (NoPanic Q) (Held L T) ds (fuel + 1) listed a w :=
  dY M i N _ (yieldsIf_load_mid hw ty _ ho g off hx us d (fun w' hw' j u hu' => by
    rw [blk_cell (hw'.at k hk) (off + j)]
    rw [← hv, List.getElem?_take] at hu'
    split at hu'
    · rw [List.getElem?_drop] at hu'
      simpa using hu'
    · cases hu') hu hd hi) h hoi hN hs hf hr hc hla hl hT
/-- An operation that no world matters to. -/
theorem dP (i : Nat) (N : Tmp) (u : Value)
    (h : wpAnyLast P md ops (NoPanic Q) (Held L T) ds fuel (listed.setIfInBounds i true) (a.put (some N) u) w)
    (hoi : ops[i]? = some o := by rfl) (hN : o.dst = some N := by rfl) (hw : Region.wanted o (yielded ops a.tmps) = true := by rfl)
    (hy : ∀ w, (execOp a.eval o).run P w = .ok (.value u) w := by intro _; first | rfl | (go_simp; done) | (go_simp; rfl))
    (hs : Region.noSelect ops = true := by kernel_rfl) (hf : Region.free md ops listed i = true := by kernel_rfl) (hr : (Region.ready md ops listed).contains i = true := by kernel_rfl) : wpAnyLast P md ops (NoPanic Q) (Held L T) ds (fuel + 1) listed a w :=
  wpAnyLast_any hoi (Region.noSelect_spec hs) (fun _ _ _ h => h) fuel listed a w (Region.free_spec hoi hf) (by simpa using hr) (.inl ⟨hw, hy⟩) (by rw [hN]; exact h)
/-- One whose guard does not want it. -/
theorem dN (i : Nat) (N : Tmp)
    (h : wpAnyLast P md ops (NoPanic Q) (Held L T) ds fuel (listed.setIfInBounds i true) (a.put (some N) undef) w)
    (hoi : ops[i]? = some o := by rfl) (hN : o.dst = some N := by rfl) (hw : Region.wanted o (yielded ops a.tmps) = false := by rfl)
    (hs : Region.noSelect ops = true := by kernel_rfl) (hf : Region.free md ops listed i = true := by kernel_rfl) (hr : (Region.ready md ops listed).contains i = true := by kernel_rfl) : wpAnyLast P md ops (NoPanic Q) (Held L T) ds (fuel + 1) listed a w :=
  wpAnyLast_any hoi (Region.noSelect_spec hs) (fun _ _ _ h => h) fuel listed a w (Region.free_spec hoi hf) (by simpa using hr) (.inr ⟨hw, rfl⟩) (by rw [hN]; exact h)
/-- Those that may come up now. -/
theorem dR (rs : List Nat) (h : AllReadyL P md ops Q (Held L T) ds fuel listed a w rs) (hr : Region.ready md ops listed = rs := by kernel_rfl) (hne : rs ≠ [] := by simp) : wpAnyLast P md ops Q (Held L T) ds (fuel + 1) listed a w :=
  wpAnyLast_ready hr hne h
/-- A call of a Go function. -/
theorem qK (i : Nat) (N : Tmp) {f : FuncId} {fn : Func} (hfn : P.funcs[f]? = some fn) (args : Array Value) {az : Array Operand} {ts : Array TypeId} {rs : List Nat}
    (h : Calls P f args w fun e w' => ∃ u, e = .returned u ∧ Held L T w' ∧ wpAnyLast P md ops Q (Held L T) ds fuel (listed.setIfInBounds i true) (a.put (some N) u) w')
    (hrest : AllReadyL P md ops Q (Held L T) ds fuel listed a w rs)
    (hoi : ops[i]? = some o := by rfl) (hN : o.dst = some N := by rfl) (hw : Region.wanted o (yielded ops a.tmps) = true := by rfl) (hd : i ∉ ds := by decide)
    (hop : o.op = .call { callee := .value (.func f), args := az, argTypes := ts } := by rfl) (hname : (fn.name == "runtime.NumGoroutine") = false := by kernel_rfl) (hb : fn.body.isSome = true := by rfl)
    (hargs : az.map a.eval = args := by first | rfl | (simp only [List.map_toArray, List.map_cons, List.map_nil]; done) | (simp only [List.map_toArray, List.map_cons, List.map_nil]; rfl) | simp) : AllReadyL P md ops Q (Held L T) ds fuel listed a w (i :: rs) := by
  refine AllReadyL.cons hoi hd (fun K hK => ?_) hrest
  rw [if_pos hw]
  have hg := goes_ (K := K) (Q := Q) hfn hname hb args hw hN hop hargs (h.mono (by
    rintro e w' ⟨u, rfl, hS, hh⟩
    exact ⟨u, rfl, hK.out _ _ hS (fun _ => hh)⟩))
  rw [if_pos hw] at hg
  exact hg
/-- A variable of its own. -/
theorem qA (M : Aside0 (Mem e w0 w l rows)) (i : Nat) (N : Tmp) (t : TypeId) (cs : Array Value) {rs : List Nat}
    (h : ∀ g w', Aside0 (Mem e w0 w' (l ++ [(g, cs, t)]) rows) → wpAnyLast P md ops Q (Held L T) ds fuel (listed.setIfInBounds i true) (a.put (some N) (.pointer (some ⟨g, 0, none⟩))) w')
    (hrest : AllReadyL P md ops Q (Held L T) ds fuel listed a w rs)
    (hoi : ops[i]? = some o := by rfl) (hN : o.dst = some N := by rfl) (hw : Region.wanted o (yielded ops a.tmps) = true := by rfl) (hd : i ∉ ds := by decide) (he : t ∉ e := by decide)
    (hrun : (execOp a.eval o).run P w = .ok (.value (.pointer (some ⟨w.heap.size, 0, none⟩))) (w.alloc (.cells cs t (0, 0))) := by first | (go_simp; done) | (go_simp; rfl))
    (hl : ∀ g, (l ++ [(g, cs, t)]).take L.length = L := by intro _; rfl) (hT : Cells w0 T := by first | exact Cells.nil _ | assumption) : AllReadyL P md ops Q (Held L T) ds fuel listed a w (i :: rs) := by
  refine AllReadyL.cons hoi hd (fun K hK => ?_) hrest
  rw [if_pos hw]
  unfold Oper.wp
  rw [hrun]
  show K (a.put o.dst _) _
  rw [hN]
  have M1 := Aside0.mk (Mem.box (cs := cs) M.out rfl (blk_new w (.cells cs t (0, 0))) (below_alloc (Below.refl _ _) _) he)
  exact hK.out _ _ (M1.out.held hT (hl _)) (fun _ => h _ _ M1)
/-- A whole box is stored (one of ds). -/
theorem qS (M : Aside0 (Mem e w0 w l rows)) (i : Nat) (t : TypeId) (p : Tmp) (k : Nat) (new : Array Value) {g : Nat} {old : Array Value} {tb : TypeId} {x : Operand} {rs : List Nat}
    (h : ∀ w', Aside0 (Mem e w0 w' (l.set k (g, new, tb)) rows) → wpAnyLast P md ops Q (Held L T) ds fuel (listed.setIfInBounds i true) a w')
    (hrest : AllReadyL P md ops Q (Held L T) ds fuel listed a w rs)
    (hoi : ops[i]? = some o := by rfl) (hn : o.dst = none := by rfl) (hw : Region.wanted o (yielded ops a.tmps) = true := by rfl) (hd : i ∈ ds := by decide) (ho : o.op = .store t (.tmp p) x := by rfl)
    (hk : l[k]? = some (g, old, tb) := by rfl) (hx : a.eval (.tmp p) = .pointer (some ⟨g, 0, none⟩) := by rfl) (hv : a.eval x = .agg new := by rfl)
    (hs : (P.info? t).map (·.size) = some new.size := by kernel_rfl) (hso : old.size = new.size := by rfl) (h1 : new.all (·.oneCell') = true := by kernel_rfl) : AllReadyL P md ops Q (Held L T) ds fuel listed a w (i :: rs) := by
  refine AllReadyL.cons_last hoi hd (fun K hK => ?_) hrest
  rw [if_pos hw]
  refine wp_store_row t (.tmp p) x ho g new hx hv tb old (M.out.at k hk) hs hso h1 ?_
  rw [hn]
  have M1 := Aside0.mk (Mem.keep M.out k hk (setRow_heap _ _ _ _ _ _ (M.out.at k hk)) (keepBut_setRow w g new) (below_setRow' M.out.below (M.out.ge k hk) new))
  exact hK.out _ _ (h _ M1)
theorem dDone (h : Q .normal a w) (hr : Region.ready md ops listed = [] := by kernel_rfl) : wpAnyLast P md ops (NoPanic Q) (Held L T) ds fuel listed a w := wpAnyLast_done hr (NoPanic.normal h) _
/-- What follows a region, once. -/
theorem dJoin {id : Nat} {b : Bool} {σ : Type} (ns : σ → List (Tmp × Value)) (R : σ → World → Prop) (hcont : ∀ s w', R s w' → Q .normal (putAll a (ns s)) w')
    (h : (∀ s w', R s w' → Q .normal (putAll a (ns s)) w') → (Code.region id ops b).wp P Q a W) : (Code.region id ops b).wp P Q a W := h hcont
end
end Go.Proofs.Ythjfmlehkcccfaa.Hctx
end
