import Derived.Test.YtphbepddhhdhmaaDoorMAg2
import Derived.Test.YtphbepddhhdhmaaDoorWGuard
import Derived.Laws.Tables
import Derived.Laws.Rows
import Derived.Test.YtphbepddhhdhmaaDoorWLast
import Derived.Deep.RegionHeld3
import Derived.Deep.MidRow
import Derived.Test.YtphbepddhhdhmaaDoorWApart
import Derived.Test.YtphbepddhhdhmaaDoorMAg1
section
/-
  The events of a walk over a call's own memory (boxes known whole), one short lemma each.
-/
set_option linter.unusedVariables false
set_option linter.unusedSimpArgs false
namespace Go.Proofs.YtphbepddhhdhmaaDoor.Hctx
open Go.RowKit Go.Proofs.YtphbepddhhdhmaaDoorW.PrintWords Go.Proofs.YtphbepddhhdhmaaDoorW.PrintLast Go.Proofs.YtphbepddhhdhmaaDoorW.PrintMore
section
variable {P : Program} {ops : Array Oper} {rest : List Oper} {o : Oper} {a : Act} {Q : Exit → Act → World → Prop} {e : List TypeId} {w0 W : World} {l : List (Nat × Array Value × TypeId)} {rows : List Row}
/-- A box (a variable in memory). -/
theorem eB (M : Aside0 (Mem e w0 W l rows)) (N : Tmp) (cs : Array Value) (t : TypeId)
    (h : ∀ g w1, Aside0 (Mem e w0 w1 (l ++ [(g, cs, t)]) rows) → wpList P ops Q rest (a.put o.dst (.pointer (some ⟨g, 0, none⟩))) w1)
    (hd : o.dst = some N := by with_reducible rfl) (hgd : o.guard = none := by with_reducible rfl) (he : t ∉ e := by decide)
    (hr : (execOp a.eval o).run P W = .ok (.value (.pointer (some ⟨W.heap.size, 0, none⟩))) (W.alloc (.cells cs t (0, 0))) := by first | (go_simp; done) | (go_simp; rfl)) :
    wpList P ops Q (o :: rest) a W :=
  box_event hgd hd hr fun g hg w1 hbox hb => h g w1 ⟨Mem.box M.out hg hbox hb he⟩
/-- A whole box is loaded. -/
theorem eL {d : TypeDesc} {ty : TypeId} (M : Aside0 (Mem e w0 W l rows)) (N : Tmp) (i : Nat) (hu : P.underlying ty = some d) {g : Nat} {cs : Array Value} {tb : TypeId} {p : Tmp}
    (h : wpList P ops Q rest (a.put o.dst (.agg cs)) W)
    (hd : o.dst = some N := by with_reducible rfl) (hgd : o.guard = none := by with_reducible rfl) (ho : o.op = .load ty (.tmp p) := by with_reducible rfl)
    (hi : l[i]? = some (g, cs, tb) := by rfl) (hx : a.eval (.tmp p) = .pointer (some ⟨g, 0, none⟩) := by rfl)
    (hdd : (match d with | .struct _ | .array _ _ => true | _ => false) = true := by rfl) (hs : (P.info? ty).map (·.size) = some cs.size := by kernel_rfl) :
    wpList P ops Q (o :: rest) a W :=
  wpList_load_row hgd ty (.tmp p) ho g hx tb cs (0, 0) d (M.out.at i hi) hu hdd hs h
/-- A cell of a box is loaded. -/
theorem eC (M : Aside0 (Mem e w0 W l rows)) (N : Tmp) (i j : Nat) (u : Value) {g : Nat} {cs : Array Value} {tb t : TypeId} {p : Tmp}
    (h : wpList P ops Q rest (a.put o.dst u) W)
    (hd : o.dst = some N := by with_reducible rfl) (hgd : o.guard = none := by with_reducible rfl) (ho : o.op = .load t (.tmp p) := by with_reducible rfl)
    (hi : l[i]? = some (g, cs, tb) := by rfl) (hv : cs[j]? = some u := by rfl) (hx : a.eval (.tmp p) = .pointer (some ⟨g, j, none⟩) := by first | rfl | (go_simp; done) | (go_simp; rfl))
    (hna : ∀ w, (isAgg t).run P w = .ok false w := by intro _; kernel_rfl) :
    wpList P ops Q (o :: rest) a W :=
  load_event hgd hd ho ⟨g, j, none⟩ u hx hna ((M.out.cell i hi j).trans hv) h
/-- A whole box is stored. -/
theorem eR (M : Aside0 (Mem e w0 W l rows)) (t : TypeId) (p : Tmp) (i : Nat) (new : Array Value) {g : Nat} {old : Array Value} {tb : TypeId} {x : Operand}
    (h : ∀ w', Aside0 (Mem e w0 w' (l.set i (g, new, tb)) rows) → wpList P ops Q rest a w')
    (ho : o.op = .store t (.tmp p) x := by with_reducible rfl) (hn : o.dst = none := by with_reducible rfl) (hgd : o.guard = none := by with_reducible rfl)
    (hi : l[i]? = some (g, old, tb) := by rfl) (hx : a.eval (.tmp p) = .pointer (some ⟨g, 0, none⟩) := by rfl) (hv : a.eval x = .agg new := by first | rfl | (go_simp; done) | (go_simp; rfl))
    (hs : (P.info? t).map (·.size) = some new.size := by kernel_rfl) (hso : old.size = new.size := by rfl) (h1 : new.all (·.oneCell') = true := by kernel_rfl) :
    wpList P ops Q (o :: rest) a W :=
  row_event hgd ho hn g old new hx hv (M.out.at i hi) hs hso h1 fun w' hn' hk hb => h w' ⟨Mem.keep M.out i hi hn' hk (hb w0 M.out.below (M.out.ge i hi))⟩
/-- A cell of a box is stored. -/
theorem eS (M : Aside0 (Mem e w0 W l rows)) (t : TypeId) (p : Tmp) (i j : Nat) (u : Value) (new : Array Value) {g : Nat} {cs : Array Value} {tb : TypeId} {x : Operand}
    (h : ∀ w', Aside0 (Mem e w0 w' (l.set i (g, new, tb)) rows) → wpList P ops Q rest a w')
    (ho : o.op = .store t (.tmp p) x := by with_reducible rfl) (hn : o.dst = none := by with_reducible rfl) (hgd : o.guard = none := by with_reducible rfl)
    (hi : l[i]? = some (g, cs, tb) := by rfl) (hx : a.eval (.tmp p) = .pointer (some ⟨g, j, none⟩) := by first | rfl | (go_simp; done) | (go_simp; rfl)) (hv : a.eval x = u := by first | rfl | (go_simp; done) | (go_simp; rfl))
    (hj : cs[j]?.isSome = true := by rfl) (hs : (P.info? t).map (·.size) = some 1 := by kernel_rfl) (h1 : u.oneCell' = true := by rfl) (hnew : cs.setIfInBounds j u = new := by rfl) :
    wpList P ops Q (o :: rest) a W :=
  cell_event hgd ho hn g j cs u hx hv (M.out.at i hi) hj hs h1 fun w' hn' hk hb => h w' ⟨Mem.keep M.out i hi (hnew ▸ hn') hk (hb w0 M.out.below (M.out.ge i hi))⟩
/-- A cell of known content is loaded (an element of a row). -/
theorem eX (N : Tmp) {ad : Addr} {u : Value} (hc : W.cell? ad = some u) {t : TypeId} {p : Tmp}
    (h : wpList P ops Q rest (a.put o.dst u) W)
    (hd : o.dst = some N := by with_reducible rfl) (hgd : o.guard = none := by with_reducible rfl) (ho : o.op = .load t (.tmp p) := by with_reducible rfl)
    (hx : a.eval (.tmp p) = .pointer (some ad) := by first | rfl | (go_simp; done) | (go_simp; rfl)) (hna : ∀ w, (isAgg t).run P w = .ok false w := by intro _; kernel_rfl) :
    wpList P ops Q (o :: rest) a W :=
  load_event hgd hd ho ad u hx hna hc h
end
end Go.Proofs.YtphbepddhhdhmaaDoor.Hctx
end

section
/-
  Regions that draw their order, over a call's own memory: each operation as one short lemma.
-/
set_option linter.unusedVariables false
set_option linter.unusedSimpArgs false
namespace Go.Proofs.YtphbepddhhdhmaaDoor.Hctx
open Go.RowKit Go.Proofs.YtphbepddhhdhmaaDoorW.PrintWords Go.Proofs.YtphbepddhhdhmaaDoorW.PrintLast Go.Proofs.YtphbepddhhdhmaaDoorW.PrintMore
/-- Cells that are known at the call's beginning. -/
def Cells (w0 : World) (T : List (Addr × Value)) : Prop := ∀ c ∈ T, w0.cell? c.1 = some c.2
theorem Cells.nil (w0 : World) : Cells w0 [] := fun c hc => by cases hc
theorem Cells.one {w0 : World} {ad : Addr} {u : Value} (h : w0.cell? ad = some u) : Cells w0 [(ad, u)] := fun c hc => by rw [List.mem_singleton] at hc; subst hc; exact h
/-- The boxes that a region reads, as they are; and the cells. -/
def Held (L : List (Nat × Array Value × TypeId)) (T : List (Addr × Value)) (w : World) : Prop := (∀ x ∈ L, w.heap[x.1]? = some (.cells x.2.1 x.2.2 (0, 0))) ∧ ∀ c ∈ T, w.cell? c.1 = some c.2
section
variable {P : Program} {ops : Array Oper} {md : Region.Mode} {o : Oper} {a : Act} {Q : Exit → Act → World → Prop} {e : List TypeId} {w0 w W : World} {l L : List (Nat × Array Value × TypeId)} {T : List (Addr × Value)} {rows : List Row} {fuel : Nat} {listed : Array Bool} {ds : List Nat}
theorem Mem.perm {l' : List (Nat × Array Value × TypeId)} (M : Mem e w0 W l rows) (h : l.Perm l') : Mem e w0 W l' rows :=
  ⟨M.below, fun x hx => M.blk x (h.mem_iff.2 hx), h.pairwise M.apart (fun hxy => Ne.symm hxy), M.typ, M.owns⟩
/-- Fewer boxes. -/
theorem Mem.forget (M : Mem e w0 W l rows) (n : Nat) : Mem e w0 W (l.take n) rows :=
  ⟨M.below, fun x hx => M.blk x (List.mem_of_mem_take hx), M.apart.sublist (List.take_sublist n l), M.typ, M.owns⟩
theorem Mem.pick1 (M : Mem e w0 W l rows) (i : Nat) {r : Row} (hi : rows[i]? = some r) : Mem e w0 W l [r] :=
  ⟨M.below, M.blk, M.apart, fun x hx => by rw [List.mem_singleton] at hx; subst hx; exact M.typ _ (List.mem_of_getElem? hi), fun n x hx => by
    cases n with
    | zero =>
      obtain rfl : r = x := by simpa using hx
      exact Kd.R_mono (M.owns i _ hi) (fun k _ => okOne _ k)
    | succ n => simp at hx⟩
theorem Mem.pick2 (M : Mem e w0 W l rows) (i j : Nat) {r s : Row} (hij : i ≠ j) (hi : rows[i]? = some r) (hj : rows[j]? = some s) : Mem e w0 W l [r, s] :=
  ⟨M.below, M.blk, M.apart, fun x hx => by
    rcases List.mem_cons.1 hx with rfl | hx
    · exact M.typ _ (List.mem_of_getElem? hi)
    · rw [List.mem_singleton] at hx; subst hx; exact M.typ _ (List.mem_of_getElem? hj), fun n x hx => by
    match n with
    | 0 =>
      obtain rfl : r = x := by simpa using hx
      refine Kd.R_mono (M.owns i _ hi) (fun k hk m y hy hm => ?_)
      match m with
      | 0 => exact absurd rfl hm
      | 1 => obtain rfl : s = y := by simpa using hy
             exact hk j _ hj (Ne.symm hij)
      | m + 2 => simp at hy
    | 1 =>
      obtain rfl : s = x := by simpa using hx
      refine Kd.R_mono (M.owns j _ hj) (fun k hk m y hy hm => ?_)
      match m with
      | 0 => obtain rfl : r = y := by simpa using hy
             exact hk i _ hi hij
      | 1 => exact absurd rfl hm
      | m + 2 => simp at hy
    | n + 2 => simp at hx⟩
theorem Mem.held (M : Mem e w0 W l rows) (hT : Cells w0 T) (h : l.take L.length = L) : Held L T W := by
  refine ⟨fun x hx => ?_, fun c hc => ?_⟩
  · rw [← h] at hx
    exact (M.blk x (List.mem_of_mem_take hx)).1
  · have h0 := hT c hc
    rw [M.below.cell (World.block_lt_of_cell? w0 c.1 h0)]
    exact h0
theorem Held.at (H : Held L T W) (i : Nat) {g : Nat} {cs : Array Value} {t : TypeId} (h : L[i]? = some (g, cs, t)) : W.heap[g]? = some (.cells cs t (0, 0)) := H.1 _ (List.mem_of_getElem? h)
/-- The beginning: ds are the operations (stores) behind which nothing is read any more; T the cells that are read besides. -/
theorem dStart {id : Nat} (ds : List Nat) (T : List (Addr × Value)) (M : Aside0 (Mem e w0 W l rows))
    (h : ∀ W', Aside0 (Mem e w0 W' l rows) → wpAnyLast P .any ops (NoPanic Q) (Held l T) ds ops.size (Array.replicate ops.size false) a W')
    (hm : P.follows .mixedOrders = true := by kernel_rfl) (hT : Cells w0 T := by first | exact Cells.nil _ | assumption) : (Code.region id ops true).wp P Q a W := by
  refine wp_region_noPanic ?_
  exact wp_region_last_drew hm ((Mem.drew M.out).held hT (List.take_of_length_le (Nat.le_refl _))) (fun _ => h _ ⟨Mem.drew M.out⟩)
/-- An operation that yields u in every world that holds L. -/
theorem dY (M : Aside0 (Mem e w0 w l rows)) (i : Nat) (N : Tmp) (u : Value) (hy : YieldsIf P ops (Held L T) o u a)
    (h : wpAnyLast P md ops (NoPanic Q) (Held L T) ds fuel (listed.setIfInBounds i true) (a.put (some N) u) w) (hoi : ops[i]? = some o) (hN : o.dst = some N)
    (hs : Region.noSelect ops = true) (hf : Region.free md ops listed i = true) (hr : (Region.ready md ops listed).contains i = true) (hc : Region.closedB md ops listed = true) (hla : Region.lastB md ops listed ds i = true) (hl : l.take L.length = L) (hT : Cells w0 T) : wpAnyLast P md ops (NoPanic Q) (Held L T) ds (fuel + 1) listed a w :=
  wpAnyLast_take hoi hs hf hr hc hla (fun _ _ _ h => h) hy (M.out.held hT hl) (by rw [hN]; exact h)
/-- A whole box is loaded. -/
theorem dL {ty : TypeId} {d : TypeDesc} (M : Aside0 (Mem e w0 w l rows)) (i : Nat) (N : Tmp) (k : Nat) (hu : P.underlying ty = some d) {p : Tmp} {g : Nat} {cs : Array Value} {tb : TypeId}
    (h : wpAnyLast P md ops (NoPanic Q) (Held L T) ds fuel (listed.setIfInBounds i true) (a.put (some N) (.agg cs)) w)
    (hoi : ops[i]? = some o := by rfl) (hN : o.dst = some N := by rfl) (ho : o.op = .load ty (.tmp p) := by rfl) (hw : Region.wanted o (yielded ops a.tmps) = true := by rfl)
    (hk : L[k]? = some (g, cs, tb) := by rfl) (hx : a.eval (.tmp p) = .pointer (some ⟨g, 0, none⟩) := by rfl) (hd : (match d with | .struct _ | .array _ _ => true | _ => false) = true := by rfl) (hi : (P.info? ty).map (·.size) = some cs.size := by kernel_rfl)
    (hs : Region.noSelect ops = true := by kernel_rfl) (hf : Region.free md ops listed i = true := by kernel_rfl) (hr : (Region.ready md ops listed).contains i = true := by kernel_rfl) (hc : Region.closedB md ops listed = true := by kernel_rfl) (hla : Region.lastB md ops listed ds i = true := by kernel_rfl) (hl : l.take L.length = L := by rfl) (hT : Cells w0 T := by first | exact Cells.nil _ | assumption) : wpAnyLast P md ops (NoPanic Q) (Held L T) ds (fuel + 1) listed a w :=
  dY M i N _ (.inl ⟨hw, fun w' hw' => by
    unfold execOp
    simp only [ho, hx, Instr.loadAt, Instr.sureAddr, Sem.run_bind, Sem.run_pure, Result.andThen_ok, run_loadVar_row w' g tb ty cs (0, 0) d (hw'.at k hk) hu hd hi]⟩) h hoi hN hs hf hr hc hla hl hT
theorem run_load_cell {ty : TypeId} {p : Tmp} {ad : Addr} {u : Value} {w' : World} (ho : o.op = .load ty (.tmp p)) (hx : a.eval (.tmp p) = .pointer (some ad)) (hc : w'.cell? ad = some u) (hna : ∀ w, (isAgg ty).run P w = .ok false w) : (execOp a.eval o).run P w' = .ok (.value u) w' := by
  have hl : (loadVar ty ad).run P w' = .ok u w' := by
    unfold loadVar
    rw [Sem.run_bind, hna w']
    show (load ad).run P w' = _
    rw [run_load, hc]
  unfold execOp
  simp only [ho, hx, Instr.loadAt, Instr.sureAddr, Sem.run_bind, Sem.run_pure, Result.andThen_ok, hl]
/-- A cell of a box is loaded. -/
theorem dC {ty : TypeId} (M : Aside0 (Mem e w0 w l rows)) (i : Nat) (N : Tmp) (k j : Nat) (u : Value) {p : Tmp} {g : Nat} {cs : Array Value} {tb : TypeId}
    (h : wpAnyLast P md ops (NoPanic Q) (Held L T) ds fuel (listed.setIfInBounds i true) (a.put (some N) u) w)
    (hoi : ops[i]? = some o := by rfl) (hN : o.dst = some N := by rfl) (ho : o.op = .load ty (.tmp p) := by rfl) (hw : Region.wanted o (yielded ops a.tmps) = true := by rfl)
    (hk : L[k]? = some (g, cs, tb) := by rfl) (hv : cs[j]? = some u := by rfl) (hx : a.eval (.tmp p) = .pointer (some ⟨g, j, none⟩) := by rfl) (hna : ∀ w, (isAgg ty).run P w = .ok false w := by intro _; kernel_rfl)
    (hs : Region.noSelect ops = true := by kernel_rfl) (hf : Region.free md ops listed i = true := by kernel_rfl) (hr : (Region.ready md ops listed).contains i = true := by kernel_rfl) (hc : Region.closedB md ops listed = true := by kernel_rfl) (hla : Region.lastB md ops listed ds i = true := by kernel_rfl) (hl : l.take L.length = L := by rfl) (hT : Cells w0 T := by first | exact Cells.nil _ | assumption) : wpAnyLast P md ops (NoPanic Q) (Held L T) ds (fuel + 1) listed a w :=
  dY M i N _ (.inl ⟨hw, fun w' hw' => run_load_cell ho hx ((blk_cell (hw'.at k hk) j).trans hv) hna⟩) h hoi hN hs hf hr hc hla hl hT
/-- A known cell (an argument's element) is loaded. -/
theorem dE {ty : TypeId} (M : Aside0 (Mem e w0 w l rows)) (i : Nat) (N : Tmp) (k : Nat) {ad : Addr} {u : Value} {p : Tmp}
    (h : wpAnyLast P md ops (NoPanic Q) (Held L T) ds fuel (listed.setIfInBounds i true) (a.put (some N) u) w)
    (hoi : ops[i]? = some o := by rfl) (hN : o.dst = some N := by rfl) (ho : o.op = .load ty (.tmp p) := by rfl) (hw : Region.wanted o (yielded ops a.tmps) = true := by rfl)
    (hk : T[k]? = some (ad, u) := by rfl) (hx : a.eval (.tmp p) = .pointer (some ad) := by rfl) (hna : ∀ w, (isAgg ty).run P w = .ok false w := by intro _; kernel_rfl)
    (hs : Region.noSelect ops = true := by kernel_rfl) (hf : Region.free md ops listed i = true := by kernel_rfl) (hr : (Region.ready md ops listed).contains i = true := by kernel_rfl) (hc : Region.closedB md ops listed = true := by kernel_rfl) (hla : Region.lastB md ops listed ds i = true := by kernel_rfl) (hl : l.take L.length = L := by rfl) (hT : Cells w0 T := by first | exact Cells.nil _ | assumption) : wpAnyLast P md ops (NoPanic Q) (Held L T) ds (fuel + 1) listed a w :=
  dY M i N _ (.inl ⟨hw, fun w' hw' => run_load_cell ho hx (hw'.2 _ (List.mem_of_getElem? hk)) hna⟩) h hoi hN hs hf hr hc hla hl hT
/-- Some cells of a box are loaded (a struct within). -/
theorem dM {ty : TypeId} {d : TypeDesc} (M : Aside0 (Mem e w0 w l rows)) (i : Nat) (N : Tmp) (k off : Nat) (us : List Value) (hu : P.underlying ty = some d) {p : Tmp} {g : Nat} {cs : Array Value} {tb : TypeId}
    (h : wpAnyLast P md ops (NoPanic Q) (Held L T) ds fuel (listed.setIfInBounds i true) (a.put (some N) (.agg us.toArray)) w)
    (hoi : ops[i]? = some o := by rfl) (hN : o.dst = some N := by rfl) (ho : o.op = .load ty (.tmp p) := by rfl) (hw : Region.wanted o (yielded ops a.tmps) = true := by rfl)
    (hk : L[k]? = some (g, cs, tb) := by rfl) (hv : (cs.toList.drop off).take us.length = us := by rfl) (hx : a.eval (.tmp p) = .pointer (some ⟨g, off, none⟩) := by rfl) (hd : d.isRow = true := by rfl) (hi : (P.info? ty).map (·.size) = some us.length := by kernel_rfl)
    (hs : Region.noSelect ops = true := by kernel_rfl) (hf : Region.free md ops listed i = true := by kernel_rfl) (hr : (Region.ready md ops listed).contains i = true := by kernel_rfl) (hc : Region.closedB md ops listed = true := by kernel_rfl) (hla : Region.lastB md ops listed ds i = true := by kernel_rfl) (hl : l.take L.length = L := by rfl) (hT : Cells w0 T := by first | exact Cells.nil _ | assumption) : wpAnyLast P md ops (NoPanic Q) (Held L T) ds (fuel + 1) listed a w :=
  dY M i N _ (yieldsIf_load_mid hw ty _ ho g off hx us d (fun w' hw' j u hu' => by
    rw [blk_cell (hw'.at k hk) (off + j)]
    rw [← hv, List.getElem?_take] at hu'
    split at hu'
    · rw [List.getElem?_drop] at hu'
      simpa using hu'
    · cases hu') hu hd hi) h hoi hN hs hf hr hc hla hl hT
/-- An operation that no world matters to. -/
theorem dP (i : Nat) (N : Tmp) (u : Value)
    (h : wpAnyLast P md ops (NoPanic Q) (Held L T) ds fuel (listed.setIfInBounds i true) (a.put (some N) u) w)
    (hoi : ops[i]? = some o := by rfl) (hN : o.dst = some N := by rfl) (hw : Region.wanted o (yielded ops a.tmps) = true := by rfl)
    (hy : ∀ w, (execOp a.eval o).run P w = .ok (.value u) w := by intro _; first | rfl | (go_simp; done) | (go_simp; rfl))
    (hs : Region.noSelect ops = true := by kernel_rfl) (hf : Region.free md ops listed i = true := by kernel_rfl) (hr : (Region.ready md ops listed).contains i = true := by kernel_rfl) : wpAnyLast P md ops (NoPanic Q) (Held L T) ds (fuel + 1) listed a w :=
  wpAnyLast_any hoi (Region.noSelect_spec hs) (fun _ _ _ h => h) fuel listed a w (Region.free_spec hoi hf) (by simpa using hr) (.inl ⟨hw, hy⟩) (by rw [hN]; exact h)
/-- One whose guard does not want it. -/
theorem dN (i : Nat) (N : Tmp)
    (h : wpAnyLast P md ops (NoPanic Q) (Held L T) ds fuel (listed.setIfInBounds i true) (a.put (some N) undef) w)
    (hoi : ops[i]? = some o := by rfl) (hN : o.dst = some N := by rfl) (hw : Region.wanted o (yielded ops a.tmps) = false := by rfl)
    (hs : Region.noSelect ops = true := by kernel_rfl) (hf : Region.free md ops listed i = true := by kernel_rfl) (hr : (Region.ready md ops listed).contains i = true := by kernel_rfl) : wpAnyLast P md ops (NoPanic Q) (Held L T) ds (fuel + 1) listed a w :=
  wpAnyLast_any hoi (Region.noSelect_spec hs) (fun _ _ _ h => h) fuel listed a w (Region.free_spec hoi hf) (by simpa using hr) (.inr ⟨hw, rfl⟩) (by rw [hN]; exact h)
/-- Those that may come up now. -/
theorem dR (rs : List Nat) (h : AllReadyL P md ops Q (Held L T) ds fuel listed a w rs) (hr : Region.ready md ops listed = rs := by kernel_rfl) (hne : rs ≠ [] := by simp) : wpAnyLast P md ops Q (Held L T) ds (fuel + 1) listed a w :=
  wpAnyLast_ready hr hne h
/-- A call of a Go function. -/
theorem qK (i : Nat) (N : Tmp) {f : FuncId} {fn : Func} (hfn : P.funcs[f]? = some fn) (args : Array Value) {az : Array Operand} {ts : Array TypeId} {rs : List Nat}
    (h : Calls P f args w fun e w' => ∃ u, e = .returned u ∧ Held L T w' ∧ wpAnyLast P md ops Q (Held L T) ds fuel (listed.setIfInBounds i true) (a.put (some N) u) w')
    (hrest : AllReadyL P md ops Q (Held L T) ds fuel listed a w rs)
    (hoi : ops[i]? = some o := by rfl) (hN : o.dst = some N := by rfl) (hw : Region.wanted o (yielded ops a.tmps) = true := by rfl) (hd : i ∉ ds := by decide)
    (hop : o.op = .call { callee := .value (.func f), args := az, argTypes := ts } := by rfl) (hname : (fn.name == "runtime.NumGoroutine") = false := by kernel_rfl) (hb : fn.body.isSome = true := by rfl)
    (hargs : az.map a.eval = args := by first | rfl | (simp only [List.map_toArray, List.map_cons, List.map_nil]; done) | (simp only [List.map_toArray, List.map_cons, List.map_nil]; rfl) | simp) : AllReadyL P md ops Q (Held L T) ds fuel listed a w (i :: rs) := by
  refine AllReadyL.cons hoi hd (fun K hK => ?_) hrest
  rw [if_pos hw]
  have hg := goes_ (K := K) (Q := Q) hfn hname hb args hw hN hop hargs (h.mono (by
    rintro e w' ⟨u, rfl, hS, hh⟩
    exact ⟨u, rfl, hK.out _ _ hS (fun _ => hh)⟩))
  rw [if_pos hw] at hg
  exact hg
/-- A variable of its own. -/
theorem qA (M : Aside0 (Mem e w0 w l rows)) (i : Nat) (N : Tmp) (t : TypeId) (cs : Array Value) {rs : List Nat}
    (h : ∀ g w', Aside0 (Mem e w0 w' (l ++ [(g, cs, t)]) rows) → wpAnyLast P md ops Q (Held L T) ds fuel (listed.setIfInBounds i true) (a.put (some N) (.pointer (some ⟨g, 0, none⟩))) w')
    (hrest : AllReadyL P md ops Q (Held L T) ds fuel listed a w rs)
    (hoi : ops[i]? = some o := by rfl) (hN : o.dst = some N := by rfl) (hw : Region.wanted o (yielded ops a.tmps) = true := by rfl) (hd : i ∉ ds := by decide) (he : t ∉ e := by decide)
    (hrun : (execOp a.eval o).run P w = .ok (.value (.pointer (some ⟨w.heap.size, 0, none⟩))) (w.alloc (.cells cs t (0, 0))) := by first | (go_simp; done) | (go_simp; rfl))
    (hl : ∀ g, (l ++ [(g, cs, t)]).take L.length = L := by intro _; rfl) (hT : Cells w0 T := by first | exact Cells.nil _ | assumption) : AllReadyL P md ops Q (Held L T) ds fuel listed a w (i :: rs) := by
  refine AllReadyL.cons hoi hd (fun K hK => ?_) hrest
  rw [if_pos hw]
  unfold Oper.wp
  rw [hrun]
  show K (a.put o.dst _) _
  rw [hN]
  have M1 := Aside0.mk (Mem.box (cs := cs) M.out rfl (blk_new w (.cells cs t (0, 0))) (below_alloc (Below.refl _ _) _) he)
  exact hK.out _ _ (M1.out.held hT (hl _)) (fun _ => h _ _ M1)
/-- A whole box is stored (one of ds). -/
theorem qS (M : Aside0 (Mem e w0 w l rows)) (i : Nat) (t : TypeId) (p : Tmp) (k : Nat) (new : Array Value) {g : Nat} {old : Array Value} {tb : TypeId} {x : Operand} {rs : List Nat}
    (h : ∀ w', Aside0 (Mem e w0 w' (l.set k (g, new, tb)) rows) → wpAnyLast P md ops Q (Held L T) ds fuel (listed.setIfInBounds i true) a w')
    (hrest : AllReadyL P md ops Q (Held L T) ds fuel listed a w rs)
    (hoi : ops[i]? = some o := by rfl) (hn : o.dst = none := by rfl) (hw : Region.wanted o (yielded ops a.tmps) = true := by rfl) (hd : i ∈ ds := by decide) (ho : o.op = .store t (.tmp p) x := by rfl)
    (hk : l[k]? = some (g, old, tb) := by rfl) (hx : a.eval (.tmp p) = .pointer (some ⟨g, 0, none⟩) := by rfl) (hv : a.eval x = .agg new := by rfl)
    (hs : (P.info? t).map (·.size) = some new.size := by kernel_rfl) (hso : old.size = new.size := by rfl) (h1 : new.all (·.oneCell') = true := by kernel_rfl) : AllReadyL P md ops Q (Held L T) ds fuel listed a w (i :: rs) := by
  refine AllReadyL.cons_last hoi hd (fun K hK => ?_) hrest
  rw [if_pos hw]
  refine wp_store_row t (.tmp p) x ho g new hx hv tb old (M.out.at k hk) hs hso h1 ?_
  rw [hn]
  have M1 := Aside0.mk (Mem.keep M.out k hk (setRow_heap _ _ _ _ _ _ (M.out.at k hk)) (keepBut_setRow w g new) (below_setRow' M.out.below (M.out.ge k hk) new))
  exact hK.out _ _ (h _ M1)
theorem dDone (h : Q .normal a w) (hr : Region.ready md ops listed = [] := by kernel_rfl) : wpAnyLast P md ops (NoPanic Q) (Held L T) ds fuel listed a w := wpAnyLast_done hr (NoPanic.normal h) _
/-- What follows a region, once. -/
theorem dJoin {id : Nat} {b : Bool} {σ : Type} (ns : σ → List (Tmp × Value)) (R : σ → World → Prop) (hcont : ∀ s w', R s w' → Q .normal (putAll a (ns s)) w')
    (h : (∀ s w', R s w' → Q .normal (putAll a (ns s)) w') → (Code.region id ops b).wp P Q a W) : (Code.region id ops b).wp P Q a W := h hcont
end
end Go.Proofs.YtphbepddhhdhmaaDoor.Hctx
end

section
/-
  Events on rows of ints of a call's own: a literal made, an append, an element stored.
-/
set_option linter.unusedVariables false
set_option linter.unusedSimpArgs false
namespace Go.Proofs.YtphbepddhhdhmaaDoor.Hctx
open Go.RowKit Go.Proofs.YtphbepddhhdhmaaDoorW.PrintWords Go.Proofs.YtphbepddhhdhmaaDoorW.PrintLast Go.Proofs.YtphbepddhhdhmaaDoorW.PrintMore
section
variable {P : Program} {ops : Array Oper} {rest : List Oper} {o : Oper} {a : Act} {Q : Exit → Act → World → Prop} {es : List TypeId} {w0 W W1 : World} {l : List (Nat × Array Value × TypeId)} {rows : List Row}
/-- The rows in another order. -/
theorem Mem.rowsBy (M : Mem es w0 W l rows) (f g : Nat → Nat) {rows' : List Row} (hf : ∀ i, rows'[i]? = rows[f i]?) (hi : ∀ i j, (rows'[i]?).isSome = true → (rows'[j]?).isSome = true → f i = f j → i = j) (hg : ∀ j, (rows[j]?).isSome = true → f (g j) = j) : Mem es w0 W l rows' := by
  refine ⟨M.below, M.blk, M.apart, fun r hr => ?_, fun i r hr => ?_⟩
  · obtain ⟨i, hi'⟩ := List.mem_iff_getElem?.1 hr
    rw [hf i] at hi'
    exact M.typ r (List.mem_of_getElem? hi')
  · have hr' := hr
    rw [hf i] at hr'
    refine Kd.R_mono (M.owns (f i) r hr') (fun k hk j s hs hj => ?_)
    have hs' := hs
    rw [hf j] at hs'
    exact hk (f j) s hs' (fun he => hj (hi j i (by rw [hs]; rfl) (by rw [hr]; rfl) he))
theorem Mem.swap01 {r s : Row} (M : Mem es w0 W l (r :: s :: rows)) : Mem es w0 W l (s :: r :: rows) := by
  refine M.rowsBy (fun i => match i with | 0 => 1 | 1 => 0 | n + 2 => n + 2) (fun i => match i with | 0 => 1 | 1 => 0 | n + 2 => n + 2) (fun i => ?_) (fun i j _ _ h => ?_) (fun j _ => ?_)
  · match i with | 0 => rfl | 1 => rfl | n + 2 => rfl
  · match i, j, h with
    | 0, 0, _ => rfl
    | 1, 1, _ => rfl
    | n + 2, m + 2, h => exact h
    | 0, 1, h => simp at h
    | 1, 0, h => simp at h
    | 0, n + 2, h => simp at h
    | 1, n + 2, h => simp at h
    | n + 2, 0, h => simp at h
    | n + 2, 1, h => simp at h
  · match j with | 0 => rfl | 1 => rfl | n + 2 => rfl
theorem Mem.front2 {r s t : Row} (M : Mem es w0 W l (r :: s :: t :: rows)) : Mem es w0 W l (t :: r :: s :: rows) := by
  refine M.rowsBy (fun i => match i with | 0 => 2 | 1 => 0 | 2 => 1 | n + 3 => n + 3) (fun i => match i with | 0 => 1 | 1 => 2 | 2 => 0 | n + 3 => n + 3) (fun i => ?_) (fun i j _ _ h => ?_) (fun j _ => ?_)
  · match i with | 0 => rfl | 1 => rfl | 2 => rfl | n + 3 => rfl
  · match i, j, h with
    | 0, 0, _ => rfl
    | 1, 1, _ => rfl
    | 2, 2, _ => rfl
    | n + 3, m + 3, h => exact h
    | 0, 1, h => simp at h
    | 0, 2, h => simp at h
    | 1, 0, h => simp at h
    | 1, 2, h => simp at h
    | 2, 0, h => simp at h
    | 2, 1, h => simp at h
    | 0, n + 3, h => simp at h
    | 1, n + 3, h => simp at h
    | 2, n + 3, h => simp at h
    | n + 3, 0, h => simp at h
    | n + 3, 1, h => simp at h
    | n + 3, 2, h => simp at h
  · match j with | 0 => rfl | 1 => rfl | 2 => rfl | n + 3 => rfl
theorem reps_ints {ik : IntKind} {W : World} {base : Nat} {ok : Nat → Prop} (xs : List Int) : Reps ((Kd.int ik).M W base ok) (Kd.int ik).sz xs (xs.map (Value.int ik)) := Kd.reps_scalar xs
/-- A literal of ints. -/
theorem eLit (ik : IntKind) (M : Aside0 (Mem es w0 W l rows)) (N : Tmp) (e : TypeId) (xs : List Int)
    (h : ∀ A c w1, Aside0 (Mem es w0 w1 l (⟨Kd.int ik, e, .slice A xs.length c, xs⟩ :: rows)) → wpList P ops Q rest (a.put o.dst (.slice A xs.length c)) w1)
    (hd : o.dst = some N := by with_reducible rfl) (hgd : o.guard = none := by with_reducible rfl) (he : e ∈ es := by decide) (hm : xs.length ≤ 9223372036854775807 := by decide)
    (hr : (execOp a.eval o).run P W = .ok (.value (.slice (some ⟨W.heap.size, 0, none⟩) xs.length xs.length)) (W.alloc (.cells (xs.map (Value.int ik)).toArray e)) := by first | (go_simp; done) | (go_simp; rfl)) :
    wpList P ops Q (o :: rest) a W := by
  refine Kd.R_lit (Kd.int ik) (w0 := W) W.heap.size e hgd hd (ok := fun _ => True) (okp := fun _ => True) hr (reps_ints xs) (fun _ h => h) trivial (Below.refl _ _) (Nat.le_refl _) hm (fun v1 w1 hR hB hg _ => ?_)
  obtain ⟨A, c, rfl⟩ := Kd.R_slice hR
  exact h A c w1 ⟨M.out.row hB hR (fun q hq => by
    rcases List.mem_cons.1 hq with rfl | hq
    · exact he
    · cases hq)⟩
/-- 'append(s, x...)' on the first row. -/
theorem eApp {ik : IntKind} {bytes : Nat} {e : TypeId} {B : Option Addr} {n cB : Nat} {xs : List Int} (M : Aside0 (Mem es w0 W l (⟨Kd.int ik, e, .slice B n cB, xs⟩ :: rows))) (N : Tmp) {A : Option Addr} {m c : Nat} {ys : List Int} (HR : (Kd.int ik).C W A m ys) (hl : (xs.length + m) * bytes ≤ 140737488355328)
    (zs : List Int) (hz : xs ++ ys = zs) (h : ∀ B' c' w1, Aside0 (Mem es w0 w1 l (⟨Kd.int ik, e, .slice B' zs.length c', zs⟩ :: rows)) → wpList P ops Q rest (a.put o.dst (.slice B' zs.length c')) w1)
    {s x : Operand} {t : TypeId} (ho : o.op = .call { callee := .builtin .append, args := #[s, x], argTypes := #[t, t] } := by with_reducible rfl) (hd : o.dst = some N := by with_reducible rfl) (hgd : o.guard = none := by with_reducible rfl)
    (ht : P.underlying t = some (.slice e) := by kernel_rfl) (hinfo : (P.info? e).map (fun i => (i.zero, i.size, i.bytes)) = some (some (.int ik 0), 1, bytes) := by kernel_rfl)
    (hb0 : 0 < bytes := by decide) (hs : a.eval s = .slice B n cB := by rfl) (hx : a.eval x = .slice A m c := by rfl) : wpList P ops Q (o :: rest) a W := by
  have M0 := M.out
  subst hz
  refine Kd.R_append_row (Value.int ik) (0 : Int) (h1 := fun _ => rfl) (w0 := w0) w0.heap.size hgd s x t e (.int ik 0) bytes ho ht hinfo rfl hb0 (.slice B n cB) xs ys A m c (okOf (⟨Kd.int ik, e, .slice B n cB, xs⟩ :: rows) 0) hs hx
    (fun k hk => M0.okFresh 0 k hk) (M0.owns 0 _ rfl) HR M0.below M0.below.size hl (fun v1 w1 hR hB hg hat => ?_)
  obtain ⟨B', c', rfl⟩ := Kd.R_slice hR
  exact h B' c' w1 ⟨M0.written hB hg hR hat⟩
/-- The first row's address. -/
theorem Mem.addr {ik : IntKind} {e : TypeId} {B : Option Addr} {n c : Nat} {xs : List Int} (M : Mem es w0 W l (⟨Kd.int ik, e, .slice B n c, xs⟩ :: rows)) (h : 0 < xs.length) : ∃ g, B = some ⟨g, 0, Option.none⟩ := by
  obtain ⟨inner, ho⟩ := Kd.R_own M.own
  rcases ho.2 with ⟨he, h0⟩ | ⟨g, cap, cur, he, _⟩
  · omega
  · injection he with h1 _ _
    exact ⟨g, h1⟩
/-- An element of the first row is stored. -/
theorem eP {ik : IntKind} {e : TypeId} {g n c : Nat} {xs : List Int} (M : Aside0 (Mem es w0 W l (⟨Kd.int ik, e, .slice (some ⟨g, 0, none⟩) n c, xs⟩ :: rows))) (t : TypeId) (p : Tmp) (i : Nat) (u : Int) (hi : i < n)
    (h : ∀ w', Aside0 (Mem es w0 w' l (⟨Kd.int ik, e, .slice (some ⟨g, 0, none⟩) n c, xs.set i u⟩ :: rows)) → wpList P ops Q rest a w')
    {x : Operand} (ho : o.op = .store t (.tmp p) x := by with_reducible rfl) (hn : o.dst = none := by with_reducible rfl) (hgd : o.guard = none := by with_reducible rfl)
    (hx : a.eval (.tmp p) = .pointer (some ⟨g, i, none⟩) := by first | rfl | (go_simp; done) | (go_simp; rfl)) (hv : a.eval x = .int ik u := by first | rfl | (go_simp; done) | (go_simp; rfl)) (hs : (P.info? t).map (·.size) = some 1 := by kernel_rfl) :
    wpList P ops Q (o :: rest) a W := by
  have M0 := M.out
  have hR := M0.owns 0 _ rfl
  have hcell := Kd.R_celln (0 : Int) (enc := Value.int ik) (h1 := fun _ => rfl) hR (i : Int) (by omega) (by exact_mod_cast hi)
  rw [Int.toNat_natCast] at hcell
  have hput := Kd.R_putg (enc := Value.int ik) (h1 := fun _ => rfl) hR (i : Int) u
  rw [Int.toNat_natCast] at hput
  refine store_event (w1 := W.setCell ⟨g, i, none⟩ (.int ik u)) hgd ho hn ?_ (fun w' hw => ?_)
  · have hst : (store (⟨g, i, none⟩ : Addr) (.int ik u)).run P W = .ok () (W.setCell ⟨g, i, none⟩ (.int ik u)) := by
      rw [run_store P W _ _ _ rfl, hcell.1]
      simp [hcell.2]
    have hsv : (storeVar t ⟨g, i, none⟩ (.int ik u)).run P W = .ok () (W.setCell ⟨g, i, none⟩ (.int ik u)) := by
      cases hq : P.info? t with
      | none => simp [hq] at hs
      | some z =>
        have hz : z.size = 1 := by simpa [hq] using hs
        have ha : (⟨g, i, none⟩ : Addr).add 0 = ⟨g, i, none⟩ := by unfold Addr.add; simp
        have hs' : (store ((⟨g, i, none⟩ : Addr).add 0) (.int ik u)).run P W = .ok () (W.setCell ⟨g, i, none⟩ (.int ik u)) := by rw [ha]; exact hst
        simp [storeVar, sizeOf, typeInfo, hq, Value.cells, hz, storeCells, hs']
    unfold execOp
    simp only [ho, hx, hv, Instr.storeAt, Instr.sureAddr, Sem.run_bind, Sem.run_pure, Result.andThen_ok, hsv]
  · subst hw
    refine h _ ⟨M0.written ?_ hput.2 hput.1 (.inl rfl)⟩
    exact below_set M0.below (Kd.R_base M0.own g rfl)
/-- What a row begins with. -/
theorem C_prefix {ik : IntKind} {e base : Nat} {ok : Nat → Prop} {B : Option Addr} {n cB : Nat} {xs ys : List Int} (h : Kd.R (Kd.int ik) e W base ok (.slice B n cB) (xs ++ ys)) : Kd.C (Kd.int ik) W B xs.length xs ∧ xs.length ≤ cB := by
  have h1 := Kd.R_take h (m := xs.length) (by simp)
  rw [List.take_left] at h1
  have h2 := Kd.R_reads' h1
  exact ⟨h2.2.2, h2.2.1⟩
end
end Go.Proofs.YtphbepddhhdhmaaDoor.Hctx
end

section
/-
  trace.line and string(b), over a call's own memory.
-/
set_option linter.unusedVariables false
set_option linter.unusedSimpArgs false
namespace Go.Proofs.YtphbepddhhdhmaaDoor.Hof
open Go.RowKit Go.Shelf Go.Proofs.YtphbepddhhdhmaaDoorW.PrintWords Go.Proofs.YtphbepddhhdhmaaDoorW.PrintLast Go.Proofs.YtphbepddhhdhmaaDoorW.PrintMore GA Hctx
/-- Bytes as numbers. -/
def bI (m : List UInt8) : List Int := m.map fun b => (b.toNat : Int)
theorem bI_len (m : List UInt8) : (bI m).length = m.length := by simp [bI]
theorem bI_app (m n : List UInt8) : bI (m ++ n) = bI m ++ bI n := by simp [bI]
theorem bI_cells (m : List UInt8) : (bI m).map (Value.int .u8) = Lib.byteCells m := by simp [bI, Lib.byteCells]
theorem bI_str (m : List UInt8) : strOfNums (bI m) = ⟨m.toArray⟩ := by
  unfold strOfNums bI
  congr 1
  apply Array.toList_inj.1
  simp [Function.comp_def]
/-- An event's cells. -/
def evC (x : S36) : Array Value := #[.int .u64 x.f0, .int .i64 x.f1, .int .i64 x.f2.f0, .int .i64 x.f2.f1, .int .i64 x.f3, .int .i64 x.f4, .int .i64 x.f5, .int .i64 x.f6]
def EvOk (x : S36) : Prop := (0 ≤ x.f0 ∧ x.f0 < 18446744073709551616) ∧ I64 x.f1 ∧ I64 x.f2.f0 ∧ I64 x.f2.f1 ∧ (1 ≤ x.f3 ∧ x.f3 ≤ 36) ∧ I64 x.f4 ∧ I64 x.f5 ∧ I64 x.f6
def lineE (x : S36) : List UInt8 := lineOf x.f0.toNat x.f1 x.f2.f0 x.f2.f1 (x.f3 - 1).toNat x.f4 x.f5 x.f6
theorem line_mem {w0 W : World} {L : List (Nat × Array Value × TypeId)} {v : Value} {m : List UInt8} (M : Aside0 (Mem [5] w0 W L [⟨Kd.int .u8, 5, v, bI m⟩])) (x : S36) (hx : EvOk x) (hlim : m.length + 400 ≤ 140737488355328)
    (hB0 : 0 < w0.heap.size) (htab : TabB w0.heap.size w0) (hLN : Laid.LaidNames w0) :
    Calls Tryd.prog 40 #[v, .agg (evC x)] W fun e W' => ∃ (B : Option Addr) (c : Nat), e = .returned (.slice B (bI (m ++ lineE x)).length c) ∧ Aside0 (Mem [5] w0 W' L [⟨Kd.int .u8, 5, .slice B (bI (m ++ lineE x)).length c, bI (m ++ lineE x)⟩]) := by
  obtain ⟨⟨h0, h1⟩, h2, h3, h4, ⟨h5, h6⟩, h7, h8, h9⟩ := hx
  have M0 := M.out
  have hown := Kd.own_of_R (enc := Value.int .u8) (h1 := fun _ => rfl) M0.own
  have hcell : encs (Value.int .u8) (bI m) = Lib.byteCells m := bI_cells m
  rw [hcell, bI_len] at hown
  have hc := line_walk w0.heap.size m.length x.f0.toNat x.f1 x.f2.f0 x.f2.f1 (x.f3 - 1).toNat x.f4 x.f5 x.f6 (by omega) h2 h3 h4 h7 h8 h9 (by omega) v (Lib.byteCells m) W hown M0.below.size hB0 hlim (htab.on M0.below) (hLN.below M0.below)
  have e1 : ((x.f0.toNat : Nat) : Int) = x.f0 := Int.toNat_of_nonneg h0
  have e2 : (((x.f3 - 1).toNat : Nat) : Int) + 1 = x.f3 := by omega
  rw [e1, e2] at hc
  refine hc.mono ?_
  rintro e W' ⟨v', rfl, ho, hb, hk⟩
  have hlen : (bI (m ++ lineE x)).length = m.length + (lineE x).length := by rw [bI_len, List.length_append]
  have ho2 : W'.ownsRow w0.heap.size 5 1 v' (bI (m ++ lineE x)).length (encs (Value.int .u8) (bI (m ++ lineE x))) := by
    rw [hlen, show encs (Value.int .u8) (bI (m ++ lineE x)) = Lib.byteCells m ++ Lib.byteCells (lineE x) from by rw [bI_app]; exact (List.map_append ..).trans (by rw [bI_cells, bI_cells])]
    exact ho
  have hR := Kd.R_of_own (enc := Value.int .u8) (h1 := fun _ => rfl) (ok := fun _ => True) ho2 (fun _ _ => trivial)
  obtain ⟨B, c, rfl⟩ := Kd.R_slice hR
  refine ⟨B, c, rfl, ⟨⟨M0.below.trans hb, fun y hy => ?_, M0.apart, fun r hr => ?_, fun i r hr => ?_⟩⟩⟩
  · have h := M0.blk y hy
    refine ⟨hk _ _ h.1 (by simp) (fun cs fz he => ?_), h.2⟩
    injection he with _ he _
    exact h.2.2 (by rw [he]; exact List.mem_singleton.2 rfl)
  · rw [List.mem_singleton] at hr
    subst hr
    exact M0.typ ⟨Kd.int .u8, 5, v, bI m⟩ List.mem_cons_self
  · cases i with
    | zero =>
      obtain rfl : _ = r := by simpa using hr
      exact Kd.R_mono hR (fun k _ => okOne _ k)
    | succ i => simp at hr
section
variable {P : Program} {ops : Array Oper} {rest : List Oper} {o : Oper} {a : Act} {Q : Exit → Act → World → Prop} {W : World}
/-- string(b). -/
theorem eStr (N : Tmp) {A : Option Addr} {n c : Nat} {m : List UInt8} (HR : (Kd.int .u8).C W A n (bI m)) (h : wpList P ops Q rest (a.put o.dst (.string ⟨m.toArray⟩)) W)
    {src dst e : TypeId} {x : Operand} (ho : o.op = .convert src dst x := by with_reducible rfl) (hd : o.dst = some N := by with_reducible rfl) (hgd : o.guard = none := by with_reducible rfl)
    (hs : P.underlying src = some (.slice e) := by kernel_rfl) (he : P.underlying e = some (.int .u8) := by kernel_rfl) (hdd : P.underlying dst = some .string := by kernel_rfl) (hx : a.eval x = .slice A n c := by rfl) : wpList P ops Q (o :: rest) a W := by
  have hc := Kd.C_string (c := c) hs he hdd HR
  rw [bI_str] at hc
  refine Kd.event_run (v := .string ⟨m.toArray⟩) (w1 := W) hgd ?_ h
  unfold execOp
  simp only [ho, hx, Sem.run_bind, hc, Result.andThen_ok, Sem.run_pure]
end
end Go.Proofs.YtphbepddhhdhmaaDoor.Hof
end

section
-- laid by a program of this session (wip/gp.sh)
namespace Go.Proofs.YtphbepddhhdhmaaDoor.GA
open Go.RowKit Go.Proofs.YtphbepddhhdhmaaDoorW.PrintWords Go.Proofs.YtphbepddhhdhmaaDoorW.PrintLast Go.Proofs.YtphbepddhhdhmaaDoorW.PrintMore
attribute [local go_sem] max2_int min2_int max_two min_two max_three min_three max_four min_four   -- for this text's walks alone
set_option linter.unusedVariables false
set_option linter.unusedSimpArgs false

theorem eqA36 (d : Nat) (w : World) (x0 y0 : Int) (x1 y1 : Int) (x2 y2 : Int) (x3 y3 : Int) (x4 y4 : Int) (x5 y5 : Int) (x6 y6 : Int) (x7 y7 : Int) :
    (Op.equalIn (d + 3) 36 (.agg #[.int .u64 x0, .int .i64 x1, .int .i64 x2, .int .i64 x3, .int .i64 x4, .int .i64 x5, .int .i64 x6, .int .i64 x7]) (.agg #[.int .u64 y0, .int .i64 y1, .int .i64 y2, .int .i64 y3, .int .i64 y4, .int .i64 y5, .int .i64 y6, .int .i64 y7])).run Tryd.prog w = .ok (x0 == y0 && (x1 == y1 && ((x2 == y2 && (x3 == y3)) && (x4 == y4 && (x5 == y5 && (x6 == y6 && (x7 == y7))))))) w := by
  refine eqA_of Tryd.underlying36 (by kernel_rfl) ?_
  refine eqf_cons (by rfl) (by go_simp; rfl) (by go_simp; rfl) (by go_simp) ?_
  refine eqf_cons (by rfl) (by go_simp; rfl) (by go_simp; rfl) (by go_simp) ?_
  refine eqf_cons (by rfl) (by go_simp) (by go_simp) (eqA33 (d + 0) w _ _ _ _) ?_
  refine eqf_cons (by rfl) (by go_simp; rfl) (by go_simp; rfl) (by go_simp) ?_
  refine eqf_cons (by rfl) (by go_simp; rfl) (by go_simp; rfl) (by go_simp) ?_
  refine eqf_cons (by rfl) (by go_simp; rfl) (by go_simp; rfl) (by go_simp) ?_
  exact eqf_last (by rfl) (by go_simp; rfl) (by go_simp; rfl) (by go_simp)
end Go.Proofs.YtphbepddhhdhmaaDoor.GA
end
